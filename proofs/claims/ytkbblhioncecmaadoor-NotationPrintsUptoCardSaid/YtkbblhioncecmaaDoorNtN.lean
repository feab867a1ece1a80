/- The program's Unpack: what it reads. -/
import Derived.Test.YtkbblhioncecmaaDoorNtK
namespace Go.Proofs.YtkbblhioncecmaaDoor
open Go.RowKit
set_option linter.unusedSimpArgs false
set_option linter.unusedVariables false

set_option maxHeartbeats 4000000 in
set_option maxRecDepth 100000 in
theorem getO_long (a : Option Addr) (n c : Nat) (l : List UInt8) (w : World) (hs : Sl w a n c l) (hlong : 4096 < n) :
    Calls Tryd.prog 12 #[.slice a n c] w (GetP (fun _ => False) l w) := by
  have HS := Lib.hid hs
  have HL := Lib.hid (show n = l.length from hs.1)
  have hmf : ∀ (fn : Fn) (first cap : Array Value) (w : World), (Instr.makeFunc fn first cap).run Tryd.prog w = .ok (.func fn first cap) w := fun _ _ _ _ => rfl
  have B0 : Below w.heap.size w (((w.alloc (.cells #[.bool false, .bool false, .slice none 0 0, .slice none 0 0, .slice none 0 0] 26)).alloc (.cells #[.int .i64 0] 3)).alloc (.cells #[.int .i64 0] 27)) := (((Below.refl _ _).alloc (Nat.le_refl _) _).alloc (by simp) _).alloc (by simp; omega) _
  have V0 : Box (((w.alloc (.cells #[.bool false, .bool false, .slice none 0 0, .slice none 0 0, .slice none 0 0] 26)).alloc (.cells #[.int .i64 0] 3)).alloc (.cells #[.int .i64 0] 27)) w.heap.size 26 #[.bool false, .bool false, .slice none 0 0, .slice none 0 0, .slice none 0 0] := ((Box.new _ _ _).alloc _).alloc _
  have A0 : Box (((w.alloc (.cells #[.bool false, .bool false, .slice none 0 0, .slice none 0 0, .slice none 0 0] 26)).alloc (.cells #[.int .i64 0] 3)).alloc (.cells #[.int .i64 0] 27)) (w.heap.size + 1) 3 #[.int .i64 0] := by
    have := (Box.new (w.alloc (.cells #[.bool false, .bool false, .slice none 0 0, .slice none 0 0, .slice none 0 0] 26)) 3 #[.int .i64 0]).alloc (.cells #[.int .i64 0] 27)
    simpa using this
  have E0 : Box (((w.alloc (.cells #[.bool false, .bool false, .slice none 0 0, .slice none 0 0, .slice none 0 0] 26)).alloc (.cells #[.int .i64 0] 3)).alloc (.cells #[.int .i64 0] 27)) (w.heap.size + 2) 27 #[.int .i64 0] := by
    have := Box.new ((w.alloc (.cells #[.bool false, .bool false, .slice none 0 0, .slice none 0 0, .slice none 0 0] 26)).alloc (.cells #[.int .i64 0] 3)) 27 #[.int .i64 0]
    simpa using this
  have z0 : ((((w.alloc (.cells #[.bool false, .bool false, .slice none 0 0, .slice none 0 0, .slice none 0 0] 26)).alloc (.cells #[.int .i64 0] 3)).alloc (.cells #[.int .i64 0] 27))).heap.size = w.heap.size + 3 := by simp
  have HZ0 := Lib.hid z0
  replace V0 := Lib.hid V0
  replace A0 := Lib.hid A0
  replace E0 := Lib.hid E0
  clear hs z0
  have hlong' : (4096 : Int) < (n : Int) := by omega
  go_enter_defers Tryd.func12, Tryd.ntmps12
  go_upto_region 1 with fail
  change Code.wp _ _ _ _ (((w.alloc (.cells #[.bool false, .bool false, .slice none 0 0, .slice none 0 0, .slice none 0 0] 26)).alloc (.cells #[.int .i64 0] 3)).alloc (.cells #[.int .i64 0] 27))
  generalize (((w.alloc (.cells #[.bool false, .bool false, .slice none 0 0, .slice none 0 0, .slice none 0 0] 26)).alloc (.cells #[.int .i64 0] 3)).alloc (.cells #[.int .i64 0] 27)) = u0 at *
  have BX := B0
  go_wp2_with (refine wpList_store_box (cells := #[.bool false, .bool false, .slice none 0 0, .slice none 0 0, .slice none 0 0]) rfl 26 _ _ rfl V0.out (by rfl) (by rfl) rfl (by kernel_rfl) (by simp [Value.oneCell']) ?_; intro u9 X9 st9; have a9 := (st9.box A0.out (by omega)).cell 0 rfl; have fa9 := (st9.box A0.out (by omega)).frozen 0; have e9 := (st9.box E0.out (by omega)).cell 0 rfl; have fe9 := (st9.box E0.out (by omega)).frozen 0)
  have b9 : Below w.heap.size w ((u9.setCell ⟨w.heap.size + 1, 0, none⟩ (.int .i64 4096)).setCell ⟨w.heap.size + 1 + 1, 0, none⟩ (.int .i64 4)) := ((st9.below w.heap.size w (Nat.le_refl _) BX).setCell (p := ⟨w.heap.size + 1, 0, none⟩) (by show w.heap.size ≤ w.heap.size + 1; omega) _).setCell (p := ⟨w.heap.size + 1 + 1, 0, none⟩) (by show w.heap.size ≤ w.heap.size + 1 + 1; omega) _
  have V9 := (X9.far ⟨w.heap.size + 1, 0, none⟩ (.int .i64 4096) (by show w.heap.size ≠ w.heap.size + 1; omega)).far ⟨w.heap.size + 1 + 1, 0, none⟩ (.int .i64 4) (by show w.heap.size ≠ w.heap.size + 1 + 1; omega)
  have A9 : Box ((u9.setCell ⟨w.heap.size + 1, 0, none⟩ (.int .i64 4096)).setCell ⟨w.heap.size + 1 + 1, 0, none⟩ (.int .i64 4)) (w.heap.size + 1) 3 #[.int .i64 4096] := ((st9.box A0.out (by omega)).set 0 (.int .i64 4096)).far ⟨w.heap.size + 1 + 1, 0, none⟩ (.int .i64 4) (by show w.heap.size + 1 ≠ w.heap.size + 1 + 1; omega)
  have E9 : Box ((u9.setCell ⟨w.heap.size + 1, 0, none⟩ (.int .i64 4096)).setCell ⟨w.heap.size + 1 + 1, 0, none⟩ (.int .i64 4)) (w.heap.size + 1 + 1) 27 #[.int .i64 4] := ((st9.box E0.out (by omega)).far ⟨w.heap.size + 1, 0, none⟩ (.int .i64 4096) (by show w.heap.size + 2 ≠ w.heap.size + 1; omega)).set 0 (.int .i64 4)
  generalize ((u9.setCell ⟨w.heap.size + 1, 0, none⟩ (.int .i64 4096)).setCell ⟨w.heap.size + 1 + 1, 0, none⟩ (.int .i64 4)) = u8 at *
  have cc0 : u8.cell? ⟨w.heap.size, 0, none⟩ = some (.bool false) := V9.cell 0 rfl
  have cc1 : u8.cell? ⟨w.heap.size, 1, none⟩ = some (.bool false) := V9.cell 1 rfl
  have cc2 : u8.cell? ⟨w.heap.size, 2, none⟩ = some (.slice none 0 0) := V9.cell 2 rfl
  have cc3 : u8.cell? ⟨w.heap.size, 3, none⟩ = some (.slice none 0 0) := V9.cell 3 rfl
  have cc4 : u8.cell? ⟨w.heap.size, 4, none⟩ = some (.slice none 0 0) := V9.cell 4 rfl
  have ca : u8.cell? ⟨w.heap.size + 1, 0, none⟩ = some (.int .i64 4096) := A9.cell 0 rfl
  have ce : u8.cell? ⟨w.heap.size + 1 + 1, 0, none⟩ = some (.int .i64 4) := E9.cell 0 rfl
  refine leaves_cons (f := 26) (args := #[.pointer (some ⟨w.heap.size, 0, none⟩), .pointer (some ⟨w.heap.size + 1, 0, none⟩), .pointer (some ⟨w.heap.size + 1 + 1, 0, none⟩)]) (by simp) (by simp [go_sem]) ?_
  refine (get1_idle _ _ _ _).mono ?_
  rintro e u' w'' ⟨rfl, rfl, rfl⟩
  simp [Leaves, settle, results, Tryd.results12, go_sem, cc0, cc1, cc2, cc3, cc4, ca, ce]
  exact ⟨SV.nil, Sx.nil, 4096, 4, .inl ⟨by have := HL.out; omega, rfl, rfl, rfl⟩, rfl, rd_nil _ _, b9⟩

set_option maxHeartbeats 8000000 in
set_option maxRecDepth 100000 in
theorem getO_short (a : Option Addr) (n c : Nat) (l : List UInt8) (w : World) (hs : Sl w a n c l) (hlong : n ≤ 4096) :
    Calls Tryd.prog 12 #[.slice a n c] w (GetP (fun _ => False) l w) := by
  have HS := Lib.hid hs
  have HL := Lib.hid (show n = l.length from hs.1)
  have hmf : ∀ (fn : Fn) (first cap : Array Value) (w : World), (Instr.makeFunc fn first cap).run Tryd.prog w = .ok (.func fn first cap) w := fun _ _ _ _ => rfl
  have B0 : Below w.heap.size w (((w.alloc (.cells #[.bool false, .bool false, .slice none 0 0, .slice none 0 0, .slice none 0 0] 26)).alloc (.cells #[.int .i64 0] 3)).alloc (.cells #[.int .i64 0] 27)) := (((Below.refl _ _).alloc (Nat.le_refl _) _).alloc (by simp) _).alloc (by simp; omega) _
  have V0 : Box (((w.alloc (.cells #[.bool false, .bool false, .slice none 0 0, .slice none 0 0, .slice none 0 0] 26)).alloc (.cells #[.int .i64 0] 3)).alloc (.cells #[.int .i64 0] 27)) w.heap.size 26 #[.bool false, .bool false, .slice none 0 0, .slice none 0 0, .slice none 0 0] := ((Box.new _ _ _).alloc _).alloc _
  have A0 : Box (((w.alloc (.cells #[.bool false, .bool false, .slice none 0 0, .slice none 0 0, .slice none 0 0] 26)).alloc (.cells #[.int .i64 0] 3)).alloc (.cells #[.int .i64 0] 27)) (w.heap.size + 1) 3 #[.int .i64 0] := by
    have := (Box.new (w.alloc (.cells #[.bool false, .bool false, .slice none 0 0, .slice none 0 0, .slice none 0 0] 26)) 3 #[.int .i64 0]).alloc (.cells #[.int .i64 0] 27)
    simpa using this
  have E0 : Box (((w.alloc (.cells #[.bool false, .bool false, .slice none 0 0, .slice none 0 0, .slice none 0 0] 26)).alloc (.cells #[.int .i64 0] 3)).alloc (.cells #[.int .i64 0] 27)) (w.heap.size + 2) 27 #[.int .i64 0] := by
    have := Box.new ((w.alloc (.cells #[.bool false, .bool false, .slice none 0 0, .slice none 0 0, .slice none 0 0] 26)).alloc (.cells #[.int .i64 0] 3)) 27 #[.int .i64 0]
    simpa using this
  have z0 : ((((w.alloc (.cells #[.bool false, .bool false, .slice none 0 0, .slice none 0 0, .slice none 0 0] 26)).alloc (.cells #[.int .i64 0] 3)).alloc (.cells #[.int .i64 0] 27))).heap.size = w.heap.size + 3 := by simp
  have HZ0 := Lib.hid z0
  replace V0 := Lib.hid V0
  replace A0 := Lib.hid A0
  replace E0 := Lib.hid E0
  clear hs z0
  have hlong' : ¬ (4096 : Int) < (n : Int) := by omega
  go_enter_defers Tryd.func12, Tryd.ntmps12
  go_upto_region 1 with fail
  change Code.wp _ _ _ _ (((w.alloc (.cells #[.bool false, .bool false, .slice none 0 0, .slice none 0 0, .slice none 0 0] 26)).alloc (.cells #[.int .i64 0] 3)).alloc (.cells #[.int .i64 0] 27))
  generalize (((w.alloc (.cells #[.bool false, .bool false, .slice none 0 0, .slice none 0 0, .slice none 0 0] 26)).alloc (.cells #[.int .i64 0] 3)).alloc (.cells #[.int .i64 0] 27)) = u0 at *
  go_wp2_with fail
  refine (valueR_any u0.heap.size a n c l _ (Box.new u0 56 #[.slice a n c, .int .i64 0, .int .i64 0, .slice none 0 0]) ((HS.out.after B0).after ((Below.refl _ _).alloc (Nat.le_refl _) _)) (HS.out.inB.mono (fun k hk => by have := HZ0.out; omega)) (by omega)).mono ?_
  rintro e w1 ⟨bg, r, hm, ⟨hr, rfl⟩ | ⟨hr, v, m, vo, rfl, rd, R1⟩⟩
  · have HM := Lib.hid (hm.toSt : St l none 0 1 0 r)
    have bw1 : Below u0.heap.size u0 w1 := ((Below.refl _ _).alloc (Nat.le_refl _) _).trans bg
    have V1 := V0.out.after bw1
    have A1 := A0.out.after bw1
    have E1 := E0.out.after bw1
    have B1 := B0.trans (bw1.mono B0.size)
    clear hm bg
    unfold FaultE
    refine leaves_cons (f := 26) (args := #[.pointer (some ⟨w.heap.size, 0, none⟩), .pointer (some ⟨w.heap.size + 1, 0, none⟩), .pointer (some ⟨w.heap.size + 1 + 1, 0, none⟩)]) (by simp) (by simp [go_sem]) ?_
    refine (get1_fault w.heap.size (w.heap.size + 1) (w.heap.size + 1 + 1) r.p r.e [] w1 #[.bool false, .bool false, .slice none 0 0, .slice none 0 0, .slice none 0 0] V1 rfl 0 0 A1 E1 (by omega) (by omega) (by omega)).mono ?_
    rintro e u' w2 ⟨rfl, rfl, V9, A9, E9, b2⟩
    have b9 : Below w.heap.size w w2 := b2.after B1 B1.size (fun k hk => by omega)
    have cc0 : w2.cell? ⟨w.heap.size, 0, none⟩ = some (.bool false) := V9.cell 0 rfl
    have cc1 : w2.cell? ⟨w.heap.size, 1, none⟩ = some (.bool false) := V9.cell 1 rfl
    have cc2 : w2.cell? ⟨w.heap.size, 2, none⟩ = some (.slice none 0 0) := V9.cell 2 rfl
    have cc3 : w2.cell? ⟨w.heap.size, 3, none⟩ = some (.slice none 0 0) := V9.cell 3 rfl
    have cc4 : w2.cell? ⟨w.heap.size, 4, none⟩ = some (.slice none 0 0) := V9.cell 4 rfl
    have ca : w2.cell? ⟨w.heap.size + 1, 0, none⟩ = some (.int .i64 r.p) := A9.cell 0 rfl
    have ce : w2.cell? ⟨w.heap.size + 1 + 1, 0, none⟩ = some (.int .i64 r.e) := E9.cell 0 rfl
    simp [Leaves, settle, results, Tryd.results12, go_sem, cc0, cc1, cc2, cc3, cc4, ca, ce]
    exact ⟨SV.nil, Sx.nil, r.p, r.e, .inr ⟨by have := HL.out; omega, r, HM.out, .inl ⟨hr, rfl, rfl, rfl⟩⟩, rfl, rd_nil _ _, b9⟩
  obtain ⟨vl, vh, a1, n1, c1, a2, n2, c2, a3, n3, c3⟩ := v
  unfold SV.val
  have HM := Lib.hid (hm.toSt : St l none 0 1 0 r)
  have bw1 : Below u0.heap.size u0 w1 := ((Below.refl _ _).alloc (Nat.le_refl _) _).trans bg
  have V1 := V0.out.after bw1
  have A1 := A0.out.after bw1
  have E1 := E0.out.after bw1
  have B1 := B0.trans (bw1.mono B0.size)
  obtain ⟨rv, rp, rn, re⟩ := r
  dsimp only at R1 rd hr
  subst hr
  have HRD := Lib.hid rd
  clear hm bg rd bw1
  go_upto_region 6 with (refine wpList_store_box (cells := #[.bool vl, .bool vh, .slice a1 n1 c1, .slice a2 n2 c2, .slice a3 n3 c3]) rfl 26 _ _ rfl V1 (by rfl) (by rfl) rfl (by kernel_rfl) (by simp [Value.oneCell']) ?_; intro u5 V5 st5)
  have B5 := st5.below w.heap.size w (Nat.le_refl _) B1
  have A5 := st5.box A1 (by omega)
  have E5 := st5.box E1 (by omega)
  have R5 := st5.box R1 (by have := HZ0.out; omega)
  have RD5 := HRD.out.keep (fun k hk => st5.other k (by have := HZ0.out; omega))
  have HRD5 := Lib.hid RD5
  have x1 : u5.cell? ⟨u0.heap.size, 1, none⟩ = some (.int .i64 rp) := R5.cell 1 rfl
  clear V1 A1 E1 R1 B1 st5 HRD RD5
  by_cases hmore : rp < n
  · have hmore' : (rp : Int) < (n : Int) := by omega
    obtain ⟨V, hV⟩ : ∃ V, V = w.heap.size := ⟨_, rfl⟩
    obtain ⟨A, hA⟩ : ∃ A, A = w.heap.size + 1 := ⟨_, rfl⟩
    obtain ⟨E, hE⟩ : ∃ E, E = w.heap.size + 1 + 1 := ⟨_, rfl⟩
    have hVA : V ≠ A := by omega
    have hVE : V ≠ E := by omega
    have hAE : A ≠ E := by omega
    have hVG : V ≠ u0.heap.size := by have := HZ0.out; omega
    have hAG : A ≠ u0.heap.size := by have := HZ0.out; omega
    have hEG : E ≠ u0.heap.size := by have := HZ0.out; omega
    go_upto_region 7 with fail
    rw [← hE, ← hA, ← hV]
    rw [← hV] at V5
    replace A5 : Box u5 A 3 #[.int .i64 0] := by rw [hA]; exact A5
    replace E5 : Box u5 E 27 #[.int .i64 0] := by rw [hE]; exact E5
    have hKS : Keeps (fun w' => Box w' u0.heap.size 56 (RdC a n c rp m vo)) := fun w w' h b => h.after b
    refine wp_region_U (w := u5) (fun w' => Box w' u0.heap.size 56 (RdC a n c rp m vo)) rfl R5.drew ?_
    refine wpU_val 0 hKS rfl (by kernel_rfl) (by kernel_rfl) (by kernel_rfl) rfl (fun c a w v h => leaves_put (by simp [results, Tryd.results12, Act.put]) _ _ _ h) (.agg #[.bool false, .bool false, .slice none 0 0, .slice none 0 0, .slice none 0 0]) (fun w' h => by simp [go_sem]) ?_
    simp only [Act.put, List.setIfInBounds_toArray, List.set_cons_zero, List.set_cons_succ]
    refine wpU_val 1 hKS rfl (by kernel_rfl) (by kernel_rfl) (by kernel_rfl) rfl (fun c a w v h => leaves_put (by simp [results, Tryd.results12, Act.put]) _ _ _ h) (.pointer (some ⟨u0.heap.size, 0, none⟩)) (fun w' h => by simp [go_sem]) ?_
    simp only [Act.put, List.setIfInBounds_toArray, List.set_cons_zero, List.set_cons_succ]
    refine wpU_val 2 hKS rfl (by kernel_rfl) (by kernel_rfl) (by kernel_rfl) rfl (fun c a w v h => leaves_put (by simp [results, Tryd.results12, Act.put]) _ _ _ h) (.pointer (some ⟨u0.heap.size, 0, none⟩)) (fun w' h => by simp [go_sem]) ?_
    simp only [Act.put, List.setIfInBounds_toArray, List.set_cons_zero, List.set_cons_succ]
    refine wpU_val 3 hKS rfl (by kernel_rfl) (by kernel_rfl) (by kernel_rfl) rfl (fun c a w v h => leaves_put (by simp [results, Tryd.results12, Act.put]) _ _ _ h) (.pointer (some ⟨u0.heap.size, 1, none⟩)) (fun w' h => by simp [go_sem]) ?_
    simp only [Act.put, List.setIfInBounds_toArray, List.set_cons_zero, List.set_cons_succ]
    refine wpU_val 4 hKS rfl (by kernel_rfl) (by kernel_rfl) (by kernel_rfl) rfl (fun c a w v h => leaves_put (by simp [results, Tryd.results12, Act.put]) _ _ _ h) (.int .i64 rp) (fun w' h => by simp [go_sem, h.cell 1 rfl]) ?_
    simp only [Act.put, List.setIfInBounds_toArray, List.set_cons_zero, List.set_cons_succ]
    refine wpU_store_box (cells := #[.bool false, .bool false, .slice none 0 0, .slice none 0 0, .slice none 0 0]) 5 rfl (by kernel_rfl) rfl 26 _ _ rfl V5.drew (by rfl) (by rfl) rfl (by kernel_rfl) (by simp [Value.oneCell']) ?_
    intro w2 w3 b2 s2 V3 st3
    have b23 : But (fun k => k = V) w2 w3 := But.ofStored st3 (st3.below 0 w2 (Nat.zero_le _) (Below.refl _ _))
    refine ⟨b23.box s2 hVG.symm, ?_⟩
    simp only [Act.put, List.setIfInBounds_toArray, List.set_cons_zero, List.set_cons_succ]
    have A3 := b23.box (A5.drew.after b2) hVA.symm
    have E3 := b23.box (E5.drew.after b2) hVE.symm
    refine wpU_store_cell 6 rfl (by kernel_rfl) rfl 3 _ _ rfl A3 0 (k := .i64) (n := (rp : Int)) rfl rfl (show 0 < 1 by decide) (fun w => by simp [go_sem]) ?_
    intro w4 w5 b4 s4 A6 st5
    have b45 : But (fun k => k = A) w4 w5 := But.ofStored st5 (st5.below 0 w4 (Nat.zero_le _) (Below.refl _ _))
    refine ⟨b45.box s4 hAG.symm, ?_⟩
    simp only [Act.put, List.setIfInBounds_toArray, List.set_cons_zero, List.set_cons_succ]
    have E6 := b45.box (E3.after b4) hAE.symm
    have V6 := b45.box (V3.after b4) hVA
    refine wpU_store_cell 7 rfl (by kernel_rfl) rfl 27 _ _ rfl E6 0 (k := .i64) (n := 5) rfl rfl (show 0 < 1 by decide) (fun w => by simp [go_sem]) ?_
    intro w6 w7 b6 s6 E7 st7
    have b67 : But (fun k => k = E) w6 w7 := But.ofStored st7 (st7.below 0 w6 (Nat.zero_le _) (Below.refl _ _))
    refine ⟨b67.box s6 hEG.symm, ?_⟩
    simp only [Act.put, List.setIfInBounds_toArray, List.set_cons_zero, List.set_cons_succ]
    have A7 := b67.box (A6.after b6) hAE
    have V7 := b67.box (V6.after b6) hVE
    refine wpU_done (by kernel_rfl) ?_
    intro u8 b8 s8
    have V9 := V7.after b8
    have A9 : Box u8 A 3 #[.int .i64 rp] := A7.after b8
    have E9 : Box u8 E 27 #[.int .i64 5] := E7.after b8
    have ev : ∀ u v : World, Below u.heap.size u v → But (fun _ => False) u v := fun u v h => But.ofBelow h
    have B8 : But (fun k => k = V ∨ k = A ∨ k = E) u5 u8 := ((((((But.refl _ u5).trans (ev _ _ ((Below.refl _ _).drew.trans b2)) (fun k hk => hk.elim)).trans b23 (fun k hk => .inl (.inl hk))).trans (ev _ _ b4) (fun k hk => hk.elim)).trans b45 (fun k hk => .inl (.inr (.inl hk)))).trans (ev _ _ b6) (fun k hk => hk.elim)).trans (b67.trans (ev _ _ b8) (fun k hk => hk.elim)) (fun k hk => .inl (.inr (.inr hk)))
    have b9 : Below w.heap.size w u8 := B8.after B5 (by have := B5.size; omega) (fun k hk => by omega)
    clear hKS s2 s4 s6 s8 A3 E3 A6 E6 V3 V6 V7 A7 E7 b2 b4 b6 b8 b23 b45 b67 ev st3 st5 st7
    go_wp2_with fail
    subst hV hA hE
    have cc0 : u8.cell? ⟨w.heap.size, 0, none⟩ = some (.bool false) := V9.cell 0 rfl
    have cc1 : u8.cell? ⟨w.heap.size, 1, none⟩ = some (.bool false) := V9.cell 1 rfl
    have cc2 : u8.cell? ⟨w.heap.size, 2, none⟩ = some (.slice none 0 0) := V9.cell 2 rfl
    have cc3 : u8.cell? ⟨w.heap.size, 3, none⟩ = some (.slice none 0 0) := V9.cell 3 rfl
    have cc4 : u8.cell? ⟨w.heap.size, 4, none⟩ = some (.slice none 0 0) := V9.cell 4 rfl
    have ca : u8.cell? ⟨w.heap.size + 1, 0, none⟩ = some (.int .i64 rp) := A9.cell 0 rfl
    have ce : u8.cell? ⟨w.heap.size + 1 + 1, 0, none⟩ = some (.int .i64 5) := E9.cell 0 rfl
    refine leaves_cons (f := 26) (args := #[.pointer (some ⟨w.heap.size, 0, none⟩), .pointer (some ⟨w.heap.size + 1, 0, none⟩), .pointer (some ⟨w.heap.size + 1 + 1, 0, none⟩)]) (by simp) (by simp [go_sem]) ?_
    refine (get1_idle _ _ _ _).mono ?_
    rintro e u' w'' ⟨rfl, rfl, rfl⟩
    simp [Leaves, settle, results, Tryd.results12, go_sem, cc0, cc1, cc2, cc3, cc4, ca, ce]
    exact ⟨SV.nil, Sx.nil, rp, 5, .inr ⟨by have := HL.out; omega, _, HM.out, .inr (.inl ⟨rfl, by have := HL.out; show rp < l.length; omega, rfl, rfl, rfl⟩)⟩, rfl, rd_nil _ _, b9⟩
  · have hmore' : ¬ (rp : Int) < (n : Int) := by omega
    have BX := B5
    go_wp2_with first | (refine wpList_load_box rfl 26 _ rfl V5 (by rfl) Tryd.underlying26 rfl (by kernel_rfl) ?_) | (refine wpList_store_box (cells := #[.bool vl, .bool vh, .slice a1 n1 c1, .slice a2 n2 c2, .slice a3 n3 c3]) rfl 26 _ _ rfl V5 (by rfl) (by rfl) rfl (by kernel_rfl) (by simp [Value.oneCell']) ?_; intro u9 X9 st9; have a9 := (st9.box A5 (by omega)).cell 0 rfl; have fa9 := (st9.box A5 (by omega)).frozen 0; have e9 := (st9.box E5 (by omega)).cell 0 rfl; have fe9 := (st9.box E5 (by omega)).frozen 0)
    have b9 : Below w.heap.size w ((u9.setCell ⟨w.heap.size + 1, 0, none⟩ (.int .i64 0)).setCell ⟨w.heap.size + 1 + 1, 0, none⟩ (.int .i64 0)) := ((st9.below w.heap.size w (Nat.le_refl _) BX).setCell (p := ⟨w.heap.size + 1, 0, none⟩) (by show w.heap.size ≤ w.heap.size + 1; omega) _).setCell (p := ⟨w.heap.size + 1 + 1, 0, none⟩) (by show w.heap.size ≤ w.heap.size + 1 + 1; omega) _
    have V9 := (X9.far ⟨w.heap.size + 1, 0, none⟩ (.int .i64 0) (by show w.heap.size ≠ w.heap.size + 1; omega)).far ⟨w.heap.size + 1 + 1, 0, none⟩ (.int .i64 0) (by show w.heap.size ≠ w.heap.size + 1 + 1; omega)
    have A9 : Box ((u9.setCell ⟨w.heap.size + 1, 0, none⟩ (.int .i64 0)).setCell ⟨w.heap.size + 1 + 1, 0, none⟩ (.int .i64 0)) (w.heap.size + 1) 3 #[.int .i64 0] := ((st9.box A5 (by omega)).set 0 (.int .i64 0)).far ⟨w.heap.size + 1 + 1, 0, none⟩ (.int .i64 0) (by show w.heap.size + 1 ≠ w.heap.size + 1 + 1; omega)
    have E9 : Box ((u9.setCell ⟨w.heap.size + 1, 0, none⟩ (.int .i64 0)).setCell ⟨w.heap.size + 1 + 1, 0, none⟩ (.int .i64 0)) (w.heap.size + 1 + 1) 27 #[.int .i64 0] := ((st9.box E5 (by omega)).far ⟨w.heap.size + 1, 0, none⟩ (.int .i64 0) (by show w.heap.size + 2 ≠ w.heap.size + 1; omega)).set 0 (.int .i64 0)
    have B59 : But (fun k => k = w.heap.size ∨ k = w.heap.size + 1 ∨ k = w.heap.size + 1 + 1) u5 ((u9.setCell ⟨w.heap.size + 1, 0, none⟩ (.int .i64 0)).setCell ⟨w.heap.size + 1 + 1, 0, none⟩ (.int .i64 0)) := (((But.ofStored st9 (st9.below 0 u5 (Nat.zero_le _) (Below.refl _ _))).mono (fun k hk => .inl hk)).setCell (p := ⟨w.heap.size + 1, 0, none⟩) (.inl (.inr (.inl rfl))) _).setCell (p := ⟨w.heap.size + 1 + 1, 0, none⟩) (.inl (.inr (.inr rfl))) _
    generalize ((u9.setCell ⟨w.heap.size + 1, 0, none⟩ (.int .i64 0)).setCell ⟨w.heap.size + 1 + 1, 0, none⟩ (.int .i64 0)) = u8 at *
    have cc0 : u8.cell? ⟨w.heap.size, 0, none⟩ = some (.bool vl) := V9.cell 0 rfl
    have cc1 : u8.cell? ⟨w.heap.size, 1, none⟩ = some (.bool vh) := V9.cell 1 rfl
    have cc2 : u8.cell? ⟨w.heap.size, 2, none⟩ = some (.slice a1 n1 c1) := V9.cell 2 rfl
    have cc3 : u8.cell? ⟨w.heap.size, 3, none⟩ = some (.slice a2 n2 c2) := V9.cell 3 rfl
    have cc4 : u8.cell? ⟨w.heap.size, 4, none⟩ = some (.slice a3 n3 c3) := V9.cell 4 rfl
    have ca : u8.cell? ⟨w.heap.size + 1, 0, none⟩ = some (.int .i64 0) := A9.cell 0 rfl
    have ce : u8.cell? ⟨w.heap.size + 1 + 1, 0, none⟩ = some (.int .i64 0) := E9.cell 0 rfl
    have HFIN : RdI (fun k => False ∨ w.heap.size ≤ k) u8 ⟨vl, vh, a1, n1, c1, a2, n2, c2, a3, n3, c3⟩ rv := (HRD5.out.but B59 (fun k hk e => by have := HZ0.out; omega)).mono (fun k hk => .inr (by have := HZ0.out; omega))
    refine leaves_cons (f := 26) (args := #[.pointer (some ⟨w.heap.size, 0, none⟩), .pointer (some ⟨w.heap.size + 1, 0, none⟩), .pointer (some ⟨w.heap.size + 1 + 1, 0, none⟩)]) (by simp) (by simp [go_sem]) ?_
    refine (get1_idle _ _ _ _).mono ?_
    rintro e u' w'' ⟨rfl, rfl, rfl⟩
    simp [Leaves, settle, results, Tryd.results12, go_sem, cc0, cc1, cc2, cc3, cc4, ca, ce]
    exact ⟨⟨vl, vh, a1, n1, c1, a2, n2, c2, a3, n3, c3⟩, rv, 0, 0, .inr ⟨by have := HL.out; omega, _, HM.out, .inr (.inr ⟨rfl, by have := HL.out; show l.length ≤ rp; omega, rfl, rfl, rfl⟩)⟩, rfl, HFIN, b9⟩

theorem getO_any (a : Option Addr) (n c : Nat) (l : List UInt8) (w : World) (hs : Sl w a n c l) : Calls Tryd.prog 12 #[.slice a n c] w (GetP (fun _ => False) l w) := by
  rcases Nat.lt_or_ge 4096 n with h | h
  · exact getO_long a n c l w hs h
  · exact getO_short a n c l w hs h

theorem nB64_pos {l : List UInt8} {p : Nat} {en : UInt8} {x : BR} (hx : nB64 l p en = x) (he : x.e = 0) : 1 ≤ x.p := by
  subst hx
  unfold nB64 at he ⊢
  dsimp only at he ⊢
  split
  · rename_i h; rw [if_pos h] at he; exact absurd he h
  · rename_i h; rw [if_neg h] at he
    split
    · exact Nat.succ_le_succ (Nat.zero_le _)
    · rename_i h2; rw [h2] at he; simp [BR.err] at he
/-- what is read of a transport form -/
def Pk (l : List UInt8) (r : RV) : Prop :=
  (l.length ≤ skipN l 0 ∧ r = RV.err l.length 2) ∨ (skipN l 0 < l.length ∧ l.getD (skipN l 0) 0 ≠ 123 ∧ r = RV.err (skipN l 0) 3) ∨
  (skipN l 0 < l.length ∧ l.getD (skipN l 0) 0 = 123 ∧ (nB64 l (skipN l 0 + 1) 125).e ≠ 0 ∧ r = RV.err (nB64 l (skipN l 0 + 1) 125).p (nB64 l (skipN l 0 + 1) 125).e) ∨
  (skipN l 0 < l.length ∧ l.getD (skipN l 0) 0 = 123 ∧ (nB64 l (skipN l 0 + 1) 125).e = 0 ∧ ∃ s p e, Got (nB64 l (skipN l 0 + 1) 125).b s p e ∧ ((e ≠ 0 ∧ r = RV.err ((nB64 l (skipN l 0 + 1) 125).p - 1) e) ∨ (e = 0 ∧ r = ⟨s, (nB64 l (skipN l 0 + 1) 125).p, 0, 0⟩)))
theorem Pk.det {l : List UInt8} {r r' : RV} (h : Pk l r) (h' : Pk l r') : r = r' := by
  rcases h with ⟨a, b⟩ | ⟨a, b, c⟩ | ⟨a, b, c, d⟩ | ⟨a, b, c, s, p, e, d, f⟩ <;> rcases h' with ⟨a1, b1⟩ | ⟨a1, b1, c1⟩ | ⟨a1, b1, c1, d1⟩ | ⟨a1, b1, c1, s1, p1, e1, d1, f1⟩ <;>
    first | exact b.trans b1.symm | exact c.trans c1.symm | exact d.trans d1.symm | (exfalso; omega) | (exfalso; exact b b1) | (exfalso; exact b1 b) | (exfalso; exact c c1) | (exfalso; exact c1 c) | skip
  obtain ⟨rfl, rfl, rfl⟩ := d.det d1
  rcases f with ⟨f, g⟩ | ⟨f, g⟩ <;> rcases f1 with ⟨f1, g1⟩ | ⟨f1, g1⟩ <;> first | exact g.trans g1.symm | (exfalso; omega)
set_option maxHeartbeats 8000000 in
set_option maxRecDepth 100000 in
theorem packed_any (g : Nat) (s : ByteArray) (w : World) (hs : s.size ≤ 16384) (hX : Box w g 72 (RdN s 0 0)) : Calls Tryd.prog 28 #[.pointer (some ⟨g, 0, none⟩)] w (ValN (Pk s.data.toList) g s w) := by
  have HL : Hid (s.data.toList.length = s.size) := Lib.hid (by simp)
  have hgw := hX.lt
  have B0 : Below w.heap.size w (w.alloc (.cells #[.bool false, .bool false, .slice none 0 0, .slice none 0 0, .slice none 0 0] 26)) := (Below.refl _ _).alloc (Nat.le_refl _) _
  have R := Lib.hid (Box.new w 26 #[.bool false, .bool false, .slice none 0 0, .slice none 0 0, .slice none 0 0])
  have X := Lib.hid (hX.after B0)
  have hz : w.heap.size < ((w.alloc (.cells #[.bool false, .bool false, .slice none 0 0, .slice none 0 0, .slice none 0 0] 26))).heap.size := R.out.lt
  have U : Hid (But (fun k => k = g) w (w.alloc (.cells #[.bool false, .bool false, .slice none 0 0, .slice none 0 0, .slice none 0 0] 26))) := Lib.hid (But.ofBelow B0)
  clear hX B0
  obtain ⟨q, hq⟩ : ∃ q, q = skipN s.data.toList 0 := ⟨_, rfl⟩
  have hql := skipN_le (l := s.data.toList) (p := 0) (Nat.zero_le _)
  rw [← hq, HL.out] at hql
  obtain ⟨_, hqs⟩ := hql
  have HQ := Lib.hid hq
  obtain ⟨x, hx⟩ : ∃ x, x = nB64 s.data.toList (q + 1) 125 := ⟨_, rfl⟩
  have HXX := Lib.hid (show nB64 s.data.toList (skipN s.data.toList 0 + 1) 125 = x by rw [← hq, hx])
  have HXP : Hid (x.e = 0 → q < s.size → x.p ≤ s.size) := Lib.hid (fun he hlt => by
    have := (nB64_place (l := s.data.toList) (p := q + 1) (en := 125) (by rw [HL.out]; exact hlt) (by rw [← hx]; exact he)).2
    rwa [← hx, HL.out] at this)
  have CB : Hid (∀ w', q < s.size → Box w' g 72 (RdN s (q + 1) 0) → Calls Tryd.prog 54 #[.pointer (some ⟨g, 0, none⟩), .int .u8 125] w' (BytesN g s 0 x w')) := Lib.hid (fun w' hlt hX => by rw [hx]; exact base64N_any 125 g s (q + 1) 0 w' hX (by omega) hlt)
  have CS : Hid (∀ w', Box w' g 72 (RdN s 0 0) → Calls Tryd.prog 43 #[.pointer (some ⟨g, 0, none⟩)] w' (fun e w2 => e = .returned (.tuple #[]) ∧ Box w2 g 72 (RdN s q 0) ∧ But (fun k => k = g) w' w2)) := Lib.hid (fun w' hX => by rw [hq]; exact skipN_any g s 0 0 w' hX (by omega) (Nat.zero_le _))
  clear hq hx
  go_enter Tryd.func28, Tryd.ntmps28
  go_upto_region 1 with fail
  change Code.wp _ _ _ _ (w.alloc (.cells #[.bool false, .bool false, .slice none 0 0, .slice none 0 0, .slice none 0 0] 26))
  generalize (w.alloc (.cells #[.bool false, .bool false, .slice none 0 0, .slice none 0 0, .slice none 0 0] 26)) = u0 at *
  go_wp2_with fail
  refine (CS.out u0 X.out).mono ?_
  rintro e w1 ⟨rfl, X1, b1⟩
  have U1 := Lib.hid (U.out.trans b1 (fun k hk => .inl hk))
  have R1 := Lib.hid (b1.box R.out (by omega))
  have HX1 := Lib.hid X1
  have hz1 := b1.size
  clear X U R X1 b1 CS
  go_wp2_with fail
  refine (signN_any g s q 0 123 w1 HX1.out (by omega)).mono ?_
  rintro e w2 ⟨b2, hP⟩
  have U2 := Lib.hid (U1.out.trans b2 (fun k hk => .inl hk))
  have R2 := Lib.hid (b2.box R1.out (by omega))
  have hz2 := b2.size
  clear HX1 U1 R1 b2
  rcases hP with ⟨h1, rfl⟩ | ⟨h1, h2, rfl⟩ | ⟨h1, h2, rfl, X2⟩
  · have HE : Hid (Pk s.data.toList (RV.err s.size 2)) := Lib.hid (.inl ⟨by rw [← HQ.out, HL.out]; exact h1, by rw [HL.out]⟩)
    unfold FaultN
    go_wp2_with fail
    exact ⟨rfl, vn_no HE.out (by decide) U2.out⟩
  · have HE : Hid (Pk s.data.toList (RV.err q 3)) := Lib.hid (.inr (.inl ⟨by rw [← HQ.out, HL.out]; exact h1, by rw [← HQ.out]; exact h2, by rw [← HQ.out]⟩))
    clear h2
    unfold FaultN
    go_wp2_with fail
    exact ⟨rfl, vn_no HE.out (by decide) U2.out⟩
  · have H2 : Hid (skipN s.data.toList 0 < s.data.toList.length ∧ s.data.toList.getD (skipN s.data.toList 0) 0 = 123) := Lib.hid ⟨by rw [← HQ.out, HL.out]; exact h1, by rw [← HQ.out]; exact h2⟩
    have HX2 := Lib.hid X2
    clear h2 X2
    go_wp2_with fail
    refine (CB.out w2 h1 HX2.out).mono ?_
    rintro e w3 ⟨b3, hP⟩
    have U3 := Lib.hid (U2.out.trans b3 (fun k hk => .inl hk))
    have R3 := Lib.hid (b3.box R2.out (by omega))
    have hz3 := b3.size
    clear HX2 U2 R2 b3 CB
    rcases hP with ⟨he, rfl⟩ | ⟨he, a, n, c, rfl, hsl, hin, X3⟩
    · have HE : Hid (Pk s.data.toList (RV.err x.p x.e)) := Lib.hid (.inr (.inr (.inl ⟨H2.out.1, H2.out.2, by rw [HXX.out]; exact he, by rw [HXX.out]⟩)))
      have HNE := Lib.hid he
      clear he
      unfold FaultN
      go_wp2_with fail
      exact ⟨rfl, vn_no HE.out HNE.out U3.out⟩
    · have HS3 := Lib.hid hsl
      have HX3 := Lib.hid X3
      have hxp := HXP.out he h1
      have HXE := Lib.hid he
      have hxp1 := (nB64_pos HXX.out he)
      clear hsl hin X3 he HXP
      go_wp2_with fail
      refine (getO_any a n c x.b w3 HS3.out).mono ?_
      rintro e w4 ⟨v, sx, p, y, hgot, rfl, hrd, b4⟩
      obtain ⟨vl, vh, va1, vn1, vc1, va2, vn2, vc2, va3, vn3, vc3⟩ := v
      have U4 := Lib.hid (U3.out.trans (But.ofBelow (S := fun _ => False) b4) (fun _ h => h.elim))
      have R4 := Lib.hid (R3.out.after b4)
      have X4 := Lib.hid (HX3.out.after b4)
      have RDV := Lib.hid (hrd.there)
      have HG := Lib.hid hgot
      have hz4 := b4.size
      clear hgot hrd b4 U3 R3 HX3 HS3
      go_upto_region 5 with (refine wpList_store_box (cells := #[.bool vl, .bool vh, .slice va1 vn1 vc1, .slice va2 vn2 vc2, .slice va3 vn3 vc3]) rfl 26 _ _ rfl (Box.new _ _ _) (by rfl) (by rfl) rfl (by kernel_rfl) (by simp [Value.oneCell']) ?_; intro u5 Y5 st5)
      have b5 : Below w4.heap.size w4 u5 := st5.below w4.heap.size w4 (Nat.le_refl _) ((Below.refl _ _).alloc (Nat.le_refl _) _)
      have U5 := Lib.hid (U4.out.trans (But.ofBelow (S := fun _ => False) b5) (fun _ h => h.elim))
      have R5 := Lib.hid (R4.out.after b5)
      have X5 := Lib.hid (X4.out.after b5)
      have HY5 := Lib.hid Y5
      have RD5 := Lib.hid (RDV.out.after b5)
      have hz5 := Y5.lt
      clear st5 b5 U4 R4 X4 Y5 RDV
      have x1 := X5.out.cell 1 rfl
      by_cases hy : y = 0
      case neg =>
        obtain ⟨z1, z2⟩ := nat_ne hy
        have HE : Hid (Pk s.data.toList (RV.err (x.p - 1) y)) := Lib.hid (.inr (.inr (.inr ⟨H2.out.1, H2.out.2, by rw [HXX.out]; exact HXE.out, sx, p, y, by rw [HXX.out]; exact HG.out, .inl ⟨hy, by rw [HXX.out]⟩⟩)))
        obtain ⟨P, hP⟩ : ∃ P, P = x.p - 1 := ⟨_, rfl⟩
        have qP : (x.p : Int) - 1 = (P : Int) := by omega
        rw [← hP] at HE
        have HNE := Lib.hid hy
        clear hP hy
        go_wp2_with fail
        refine (wrong_any P y _).mono ?_
        rintro e w6 ⟨rfl, rfl⟩
        unfold FaultN
        go_wp2_with fail
        exact ⟨rfl, vn_no HE.out HNE.out U5.out⟩
      subst hy
      have HE : Hid (Pk s.data.toList ⟨sx, x.p, 0, 0⟩) := Lib.hid (.inr (.inr (.inr ⟨H2.out.1, H2.out.2, by rw [HXX.out]; exact HXE.out, sx, p, 0, by rw [HXX.out]; exact HG.out, .inr ⟨rfl, by rw [HXX.out]⟩⟩)))
      go_wp2_with first | (refine wpList_load_box rfl 26 _ rfl HY5.out (by rfl) Tryd.underlying26 rfl (by kernel_rfl) ?_) | (refine wpList_store_box (cells := #[.bool vl, .bool vh, .slice va1 vn1 vc1, .slice va2 vn2 vc2, .slice va3 vn3 vc3]) rfl 26 _ _ rfl R5.out (by rfl) (by rfl) rfl (by kernel_rfl) (by simp [Value.oneCell']) ?_; intro u9 X9 st9)
      have b9 : But (fun k => k = w.heap.size) u5 u9 := But.ofStored st9 (st9.below 0 u5 (Nat.zero_le _) (Below.refl _ _))
      exact bodyPost_ret (v := .agg #[.bool vl, .bool vh, .slice va1 vn1 vc1, .slice va2 vn2 vc2, .slice va3 vn3 vc3]) (box_result rfl _ _ (by rfl) X9 Tryd.underlying26 rfl (by kernel_rfl)) rfl (vn_yes (v := ⟨vl, vh, va1, vn1, vc1, va2, vn2, vc2, va3, vn3, vc3⟩) HE.out (U5.out.trans b9 (fun k hk => .inr (by omega))) ((RD5.out.but b9 (fun k hk e => by rcases hk.1 with h | h; exact h.elim; omega)).mono (fun k hk => by rcases hk.1 with h | h; exact h.elim; omega)) (b9.box X5.out (by omega)))

end Go.Proofs.YtkbblhioncecmaaDoor

/- The program's Unpack: what it reads. Notation in plain words: what is canonical is advanced; what is printed is read as it was. Notation in plain words: what is printed is read as it was. The laws NotationBoth, NotationAgrees: the walks. The document's reader of advanced forms: signs and blanks. The document's reader of advanced forms: bytes with their length, signs up to an end. the document's Unhex, Unbase64: what it computes, and that what it hands back is its own. The document's reader of advanced forms: signs up to an end, and what they make. The document's reader of advanced forms: bytes in Base64 and digits, what stands behind a backslash. The document's reader of advanced forms: what stands behind a backslash, and in quotes. The document's reader of advanced forms: plain atoms, atoms with a hint. The document's value, of an advanced form: what it computes. The document's reader of advanced forms: the end, and the whole. -/
import Derived.Test.YtkbblhioncecmaaGreatDoorNzG10
namespace Go.Proofs.YtkbblhioncecmaaGreatDoor
open Go.RowKit
set_option linter.unusedSimpArgs false
set_option linter.unusedVariables false

set_option maxHeartbeats 4000000 in
set_option maxRecDepth 100000 in
theorem getO_long (a : Option Addr) (n c : Nat) (l : List UInt8) (w : World) (hs : Sl w a n c l) (hlong : 4096 < n) :
    Calls Tryz.prog 27 #[.slice a n c] w (GetP (fun _ => False) l w) := by
  have HS := Lib.hid hs
  have HL := Lib.hid (show n = l.length from hs.1)
  have hmf : ∀ (fn : Fn) (first cap : Array Value) (w : World), (Instr.makeFunc fn first cap).run Tryz.prog w = .ok (.func fn first cap) w := fun _ _ _ _ => rfl
  have B0 : Below w.heap.size w (((w.alloc (.cells #[.bool false, .bool false, .slice none 0 0, .slice none 0 0, .slice none 0 0] 26)).alloc (.cells #[.int .i64 0] 3)).alloc (.cells #[.int .i64 0] 27)) := (((Below.refl _ _).alloc (Nat.le_refl _) _).alloc (by simp) _).alloc (by simp; omega) _
  have V0 : Box (((w.alloc (.cells #[.bool false, .bool false, .slice none 0 0, .slice none 0 0, .slice none 0 0] 26)).alloc (.cells #[.int .i64 0] 3)).alloc (.cells #[.int .i64 0] 27)) w.heap.size 26 #[.bool false, .bool false, .slice none 0 0, .slice none 0 0, .slice none 0 0] := ((Box.new _ _ _).alloc _).alloc _
  have A0 : Box (((w.alloc (.cells #[.bool false, .bool false, .slice none 0 0, .slice none 0 0, .slice none 0 0] 26)).alloc (.cells #[.int .i64 0] 3)).alloc (.cells #[.int .i64 0] 27)) (w.heap.size + 1) 3 #[.int .i64 0] := by
    have := (Box.new (w.alloc (.cells #[.bool false, .bool false, .slice none 0 0, .slice none 0 0, .slice none 0 0] 26)) 3 #[.int .i64 0]).alloc (.cells #[.int .i64 0] 27)
    simpa using this
  have E0 : Box (((w.alloc (.cells #[.bool false, .bool false, .slice none 0 0, .slice none 0 0, .slice none 0 0] 26)).alloc (.cells #[.int .i64 0] 3)).alloc (.cells #[.int .i64 0] 27)) (w.heap.size + 2) 27 #[.int .i64 0] := by
    have := Box.new ((w.alloc (.cells #[.bool false, .bool false, .slice none 0 0, .slice none 0 0, .slice none 0 0] 26)).alloc (.cells #[.int .i64 0] 3)) 27 #[.int .i64 0]
    simpa using this
  have z0 : ((((w.alloc (.cells #[.bool false, .bool false, .slice none 0 0, .slice none 0 0, .slice none 0 0] 26)).alloc (.cells #[.int .i64 0] 3)).alloc (.cells #[.int .i64 0] 27))).heap.size = w.heap.size + 3 := by simp
  have HZ0 := Lib.hid z0
  replace V0 := Lib.hid V0
  replace A0 := Lib.hid A0
  replace E0 := Lib.hid E0
  clear hs z0
  have hlong' : (4096 : Int) < (n : Int) := by omega
  go_enter_defers Tryz.func27, Tryz.ntmps27
  go_upto_region 1 with fail
  change Code.wp _ _ _ _ (((w.alloc (.cells #[.bool false, .bool false, .slice none 0 0, .slice none 0 0, .slice none 0 0] 26)).alloc (.cells #[.int .i64 0] 3)).alloc (.cells #[.int .i64 0] 27))
  generalize (((w.alloc (.cells #[.bool false, .bool false, .slice none 0 0, .slice none 0 0, .slice none 0 0] 26)).alloc (.cells #[.int .i64 0] 3)).alloc (.cells #[.int .i64 0] 27)) = u0 at *
  have BX := B0
  go_wp2_with (refine wpList_store_box (cells := #[.bool false, .bool false, .slice none 0 0, .slice none 0 0, .slice none 0 0]) rfl 26 _ _ rfl V0.out (by rfl) (by rfl) rfl (by kernel_rfl) (by simp [Value.oneCell']) ?_; intro u9 X9 st9; have a9 := (st9.box A0.out (by omega)).cell 0 rfl; have fa9 := (st9.box A0.out (by omega)).frozen 0; have e9 := (st9.box E0.out (by omega)).cell 0 rfl; have fe9 := (st9.box E0.out (by omega)).frozen 0)
  have b9 : Below w.heap.size w ((u9.setCell ⟨w.heap.size + 1, 0, none⟩ (.int .i64 4096)).setCell ⟨w.heap.size + 1 + 1, 0, none⟩ (.int .i64 4)) := ((st9.below w.heap.size w (Nat.le_refl _) BX).setCell (p := ⟨w.heap.size + 1, 0, none⟩) (by show w.heap.size ≤ w.heap.size + 1; omega) _).setCell (p := ⟨w.heap.size + 1 + 1, 0, none⟩) (by show w.heap.size ≤ w.heap.size + 1 + 1; omega) _
  have V9 := (X9.far ⟨w.heap.size + 1, 0, none⟩ (.int .i64 4096) (by show w.heap.size ≠ w.heap.size + 1; omega)).far ⟨w.heap.size + 1 + 1, 0, none⟩ (.int .i64 4) (by show w.heap.size ≠ w.heap.size + 1 + 1; omega)
  have A9 : Box ((u9.setCell ⟨w.heap.size + 1, 0, none⟩ (.int .i64 4096)).setCell ⟨w.heap.size + 1 + 1, 0, none⟩ (.int .i64 4)) (w.heap.size + 1) 3 #[.int .i64 4096] := ((st9.box A0.out (by omega)).set 0 (.int .i64 4096)).far ⟨w.heap.size + 1 + 1, 0, none⟩ (.int .i64 4) (by show w.heap.size + 1 ≠ w.heap.size + 1 + 1; omega)
  have E9 : Box ((u9.setCell ⟨w.heap.size + 1, 0, none⟩ (.int .i64 4096)).setCell ⟨w.heap.size + 1 + 1, 0, none⟩ (.int .i64 4)) (w.heap.size + 1 + 1) 27 #[.int .i64 4] := ((st9.box E0.out (by omega)).far ⟨w.heap.size + 1, 0, none⟩ (.int .i64 4096) (by show w.heap.size + 2 ≠ w.heap.size + 1; omega)).set 0 (.int .i64 4)
  generalize ((u9.setCell ⟨w.heap.size + 1, 0, none⟩ (.int .i64 4096)).setCell ⟨w.heap.size + 1 + 1, 0, none⟩ (.int .i64 4)) = u8 at *
  have cc0 : u8.cell? ⟨w.heap.size, 0, none⟩ = some (.bool false) := V9.cell 0 rfl
  have cc1 : u8.cell? ⟨w.heap.size, 1, none⟩ = some (.bool false) := V9.cell 1 rfl
  have cc2 : u8.cell? ⟨w.heap.size, 2, none⟩ = some (.slice none 0 0) := V9.cell 2 rfl
  have cc3 : u8.cell? ⟨w.heap.size, 3, none⟩ = some (.slice none 0 0) := V9.cell 3 rfl
  have cc4 : u8.cell? ⟨w.heap.size, 4, none⟩ = some (.slice none 0 0) := V9.cell 4 rfl
  have ca : u8.cell? ⟨w.heap.size + 1, 0, none⟩ = some (.int .i64 4096) := A9.cell 0 rfl
  have ce : u8.cell? ⟨w.heap.size + 1 + 1, 0, none⟩ = some (.int .i64 4) := E9.cell 0 rfl
  refine leaves_cons (f := 42) (args := #[.pointer (some ⟨w.heap.size, 0, none⟩), .pointer (some ⟨w.heap.size + 1, 0, none⟩), .pointer (some ⟨w.heap.size + 1 + 1, 0, none⟩)]) (by simp) (by simp [go_sem]) ?_
  refine (get1_idle _ _ _ _).mono ?_
  rintro e u' w'' ⟨rfl, rfl, rfl⟩
  simp [Leaves, settle, results, Tryz.results27, go_sem, cc0, cc1, cc2, cc3, cc4, ca, ce]
  exact ⟨SV.nil, Sx.nil, 4096, 4, .inl ⟨by have := HL.out; omega, rfl, rfl, rfl⟩, rfl, rd_nil _ _, b9⟩

set_option maxHeartbeats 8000000 in
set_option maxRecDepth 100000 in
theorem getO_short (a : Option Addr) (n c : Nat) (l : List UInt8) (w : World) (hs : Sl w a n c l) (hlong : n ≤ 4096) :
    Calls Tryz.prog 27 #[.slice a n c] w (GetP (fun _ => False) l w) := by
  have HS := Lib.hid hs
  have HL := Lib.hid (show n = l.length from hs.1)
  have hmf : ∀ (fn : Fn) (first cap : Array Value) (w : World), (Instr.makeFunc fn first cap).run Tryz.prog w = .ok (.func fn first cap) w := fun _ _ _ _ => rfl
  have B0 : Below w.heap.size w (((w.alloc (.cells #[.bool false, .bool false, .slice none 0 0, .slice none 0 0, .slice none 0 0] 26)).alloc (.cells #[.int .i64 0] 3)).alloc (.cells #[.int .i64 0] 27)) := (((Below.refl _ _).alloc (Nat.le_refl _) _).alloc (by simp) _).alloc (by simp; omega) _
  have V0 : Box (((w.alloc (.cells #[.bool false, .bool false, .slice none 0 0, .slice none 0 0, .slice none 0 0] 26)).alloc (.cells #[.int .i64 0] 3)).alloc (.cells #[.int .i64 0] 27)) w.heap.size 26 #[.bool false, .bool false, .slice none 0 0, .slice none 0 0, .slice none 0 0] := ((Box.new _ _ _).alloc _).alloc _
  have A0 : Box (((w.alloc (.cells #[.bool false, .bool false, .slice none 0 0, .slice none 0 0, .slice none 0 0] 26)).alloc (.cells #[.int .i64 0] 3)).alloc (.cells #[.int .i64 0] 27)) (w.heap.size + 1) 3 #[.int .i64 0] := by
    have := (Box.new (w.alloc (.cells #[.bool false, .bool false, .slice none 0 0, .slice none 0 0, .slice none 0 0] 26)) 3 #[.int .i64 0]).alloc (.cells #[.int .i64 0] 27)
    simpa using this
  have E0 : Box (((w.alloc (.cells #[.bool false, .bool false, .slice none 0 0, .slice none 0 0, .slice none 0 0] 26)).alloc (.cells #[.int .i64 0] 3)).alloc (.cells #[.int .i64 0] 27)) (w.heap.size + 2) 27 #[.int .i64 0] := by
    have := Box.new ((w.alloc (.cells #[.bool false, .bool false, .slice none 0 0, .slice none 0 0, .slice none 0 0] 26)).alloc (.cells #[.int .i64 0] 3)) 27 #[.int .i64 0]
    simpa using this
  have z0 : ((((w.alloc (.cells #[.bool false, .bool false, .slice none 0 0, .slice none 0 0, .slice none 0 0] 26)).alloc (.cells #[.int .i64 0] 3)).alloc (.cells #[.int .i64 0] 27))).heap.size = w.heap.size + 3 := by simp
  have HZ0 := Lib.hid z0
  replace V0 := Lib.hid V0
  replace A0 := Lib.hid A0
  replace E0 := Lib.hid E0
  clear hs z0
  have hlong' : ¬ (4096 : Int) < (n : Int) := by omega
  go_enter_defers Tryz.func27, Tryz.ntmps27
  go_upto_region 1 with fail
  change Code.wp _ _ _ _ (((w.alloc (.cells #[.bool false, .bool false, .slice none 0 0, .slice none 0 0, .slice none 0 0] 26)).alloc (.cells #[.int .i64 0] 3)).alloc (.cells #[.int .i64 0] 27))
  generalize (((w.alloc (.cells #[.bool false, .bool false, .slice none 0 0, .slice none 0 0, .slice none 0 0] 26)).alloc (.cells #[.int .i64 0] 3)).alloc (.cells #[.int .i64 0] 27)) = u0 at *
  go_wp2_with fail
  refine (valueR_any u0.heap.size a n c l _ (Box.new u0 88 #[.slice a n c, .int .i64 0, .int .i64 0, .slice none 0 0]) ((HS.out.after B0).after ((Below.refl _ _).alloc (Nat.le_refl _) _)) (HS.out.inB.mono (fun k hk => by have := HZ0.out; omega)) (by omega)).mono ?_
  rintro e w1 ⟨bg, r, hm, ⟨hr, rfl⟩ | ⟨hr, v, m, vo, rfl, rd, R1⟩⟩
  · have HM := Lib.hid (hm.toSt : St l none 0 1 0 r)
    have bw1 : Below u0.heap.size u0 w1 := ((Below.refl _ _).alloc (Nat.le_refl _) _).trans bg
    have V1 := V0.out.after bw1
    have A1 := A0.out.after bw1
    have E1 := E0.out.after bw1
    have B1 := B0.trans (bw1.mono B0.size)
    clear hm bg
    unfold FaultE
    refine leaves_cons (f := 42) (args := #[.pointer (some ⟨w.heap.size, 0, none⟩), .pointer (some ⟨w.heap.size + 1, 0, none⟩), .pointer (some ⟨w.heap.size + 1 + 1, 0, none⟩)]) (by simp) (by simp [go_sem]) ?_
    refine (get1_fault w.heap.size (w.heap.size + 1) (w.heap.size + 1 + 1) r.p r.e [] w1 #[.bool false, .bool false, .slice none 0 0, .slice none 0 0, .slice none 0 0] V1 rfl 0 0 A1 E1 (by omega) (by omega) (by omega)).mono ?_
    rintro e u' w2 ⟨rfl, rfl, V9, A9, E9, b2⟩
    have b9 : Below w.heap.size w w2 := b2.after B1 B1.size (fun k hk => by omega)
    have cc0 : w2.cell? ⟨w.heap.size, 0, none⟩ = some (.bool false) := V9.cell 0 rfl
    have cc1 : w2.cell? ⟨w.heap.size, 1, none⟩ = some (.bool false) := V9.cell 1 rfl
    have cc2 : w2.cell? ⟨w.heap.size, 2, none⟩ = some (.slice none 0 0) := V9.cell 2 rfl
    have cc3 : w2.cell? ⟨w.heap.size, 3, none⟩ = some (.slice none 0 0) := V9.cell 3 rfl
    have cc4 : w2.cell? ⟨w.heap.size, 4, none⟩ = some (.slice none 0 0) := V9.cell 4 rfl
    have ca : w2.cell? ⟨w.heap.size + 1, 0, none⟩ = some (.int .i64 r.p) := A9.cell 0 rfl
    have ce : w2.cell? ⟨w.heap.size + 1 + 1, 0, none⟩ = some (.int .i64 r.e) := E9.cell 0 rfl
    simp [Leaves, settle, results, Tryz.results27, go_sem, cc0, cc1, cc2, cc3, cc4, ca, ce]
    exact ⟨SV.nil, Sx.nil, r.p, r.e, .inr ⟨by have := HL.out; omega, r, HM.out, .inl ⟨hr, rfl, rfl, rfl⟩⟩, rfl, rd_nil _ _, b9⟩
  obtain ⟨vl, vh, a1, n1, c1, a2, n2, c2, a3, n3, c3⟩ := v
  unfold SV.val
  have HM := Lib.hid (hm.toSt : St l none 0 1 0 r)
  have bw1 : Below u0.heap.size u0 w1 := ((Below.refl _ _).alloc (Nat.le_refl _) _).trans bg
  have V1 := V0.out.after bw1
  have A1 := A0.out.after bw1
  have E1 := E0.out.after bw1
  have B1 := B0.trans (bw1.mono B0.size)
  obtain ⟨rv, rp, rn, re⟩ := r
  dsimp only at R1 rd hr
  subst hr
  have HRD := Lib.hid rd
  clear hm bg rd bw1
  go_upto_region 6 with (refine wpList_store_box (cells := #[.bool vl, .bool vh, .slice a1 n1 c1, .slice a2 n2 c2, .slice a3 n3 c3]) rfl 26 _ _ rfl V1 (by rfl) (by rfl) rfl (by kernel_rfl) (by simp [Value.oneCell']) ?_; intro u5 V5 st5)
  have B5 := st5.below w.heap.size w (Nat.le_refl _) B1
  have A5 := st5.box A1 (by omega)
  have E5 := st5.box E1 (by omega)
  have R5 := st5.box R1 (by have := HZ0.out; omega)
  have RD5 := HRD.out.keep (fun k hk => st5.other k (by have := HZ0.out; omega))
  have HRD5 := Lib.hid RD5
  have x1 : u5.cell? ⟨u0.heap.size, 1, none⟩ = some (.int .i64 rp) := R5.cell 1 rfl
  clear V1 A1 E1 R1 B1 st5 HRD RD5
  by_cases hmore : rp < n
  · have hmore' : (rp : Int) < (n : Int) := by omega
    obtain ⟨V, hV⟩ : ∃ V, V = w.heap.size := ⟨_, rfl⟩
    obtain ⟨A, hA⟩ : ∃ A, A = w.heap.size + 1 := ⟨_, rfl⟩
    obtain ⟨E, hE⟩ : ∃ E, E = w.heap.size + 1 + 1 := ⟨_, rfl⟩
    have hVA : V ≠ A := by omega
    have hVE : V ≠ E := by omega
    have hAE : A ≠ E := by omega
    have hVG : V ≠ u0.heap.size := by have := HZ0.out; omega
    have hAG : A ≠ u0.heap.size := by have := HZ0.out; omega
    have hEG : E ≠ u0.heap.size := by have := HZ0.out; omega
    go_upto_region 7 with fail
    rw [← hE, ← hA, ← hV]
    rw [← hV] at V5
    replace A5 : Box u5 A 3 #[.int .i64 0] := by rw [hA]; exact A5
    replace E5 : Box u5 E 27 #[.int .i64 0] := by rw [hE]; exact E5
    have hKS : Keeps (fun w' => Box w' u0.heap.size 88 (RdC a n c rp m vo)) := fun w w' h b => h.after b
    refine wp_region_U (w := u5) (fun w' => Box w' u0.heap.size 88 (RdC a n c rp m vo)) rfl R5.drew ?_
    refine wpU_val 0 hKS rfl (by kernel_rfl) (by kernel_rfl) (by kernel_rfl) rfl (fun c a w v h => leaves_put (by simp [results, Tryz.results27, Act.put]) _ _ _ h) (.agg #[.bool false, .bool false, .slice none 0 0, .slice none 0 0, .slice none 0 0]) (fun w' h => by simp [go_sem]) ?_
    simp only [Act.put, List.setIfInBounds_toArray, List.set_cons_zero, List.set_cons_succ]
    refine wpU_val 1 hKS rfl (by kernel_rfl) (by kernel_rfl) (by kernel_rfl) rfl (fun c a w v h => leaves_put (by simp [results, Tryz.results27, Act.put]) _ _ _ h) (.pointer (some ⟨u0.heap.size, 0, none⟩)) (fun w' h => by simp [go_sem]) ?_
    simp only [Act.put, List.setIfInBounds_toArray, List.set_cons_zero, List.set_cons_succ]
    refine wpU_val 2 hKS rfl (by kernel_rfl) (by kernel_rfl) (by kernel_rfl) rfl (fun c a w v h => leaves_put (by simp [results, Tryz.results27, Act.put]) _ _ _ h) (.pointer (some ⟨u0.heap.size, 0, none⟩)) (fun w' h => by simp [go_sem]) ?_
    simp only [Act.put, List.setIfInBounds_toArray, List.set_cons_zero, List.set_cons_succ]
    refine wpU_val 3 hKS rfl (by kernel_rfl) (by kernel_rfl) (by kernel_rfl) rfl (fun c a w v h => leaves_put (by simp [results, Tryz.results27, Act.put]) _ _ _ h) (.pointer (some ⟨u0.heap.size, 1, none⟩)) (fun w' h => by simp [go_sem]) ?_
    simp only [Act.put, List.setIfInBounds_toArray, List.set_cons_zero, List.set_cons_succ]
    refine wpU_val 4 hKS rfl (by kernel_rfl) (by kernel_rfl) (by kernel_rfl) rfl (fun c a w v h => leaves_put (by simp [results, Tryz.results27, Act.put]) _ _ _ h) (.int .i64 rp) (fun w' h => by simp [go_sem, h.cell 1 rfl]) ?_
    simp only [Act.put, List.setIfInBounds_toArray, List.set_cons_zero, List.set_cons_succ]
    refine wpU_store_box (cells := #[.bool false, .bool false, .slice none 0 0, .slice none 0 0, .slice none 0 0]) 5 rfl (by kernel_rfl) rfl 26 _ _ rfl V5.drew (by rfl) (by rfl) rfl (by kernel_rfl) (by simp [Value.oneCell']) ?_
    intro w2 w3 b2 s2 V3 st3
    have b23 : But (fun k => k = V) w2 w3 := But.ofStored st3 (st3.below 0 w2 (Nat.zero_le _) (Below.refl _ _))
    refine ⟨b23.box s2 hVG.symm, ?_⟩
    simp only [Act.put, List.setIfInBounds_toArray, List.set_cons_zero, List.set_cons_succ]
    have A3 := b23.box (A5.drew.after b2) hVA.symm
    have E3 := b23.box (E5.drew.after b2) hVE.symm
    refine wpU_store_cell 6 rfl (by kernel_rfl) rfl 3 _ _ rfl A3 0 (k := .i64) (n := (rp : Int)) rfl rfl (show 0 < 1 by decide) (fun w => by simp [go_sem]) ?_
    intro w4 w5 b4 s4 A6 st5
    have b45 : But (fun k => k = A) w4 w5 := But.ofStored st5 (st5.below 0 w4 (Nat.zero_le _) (Below.refl _ _))
    refine ⟨b45.box s4 hAG.symm, ?_⟩
    simp only [Act.put, List.setIfInBounds_toArray, List.set_cons_zero, List.set_cons_succ]
    have E6 := b45.box (E3.after b4) hAE.symm
    have V6 := b45.box (V3.after b4) hVA
    refine wpU_store_cell 7 rfl (by kernel_rfl) rfl 27 _ _ rfl E6 0 (k := .i64) (n := 5) rfl rfl (show 0 < 1 by decide) (fun w => by simp [go_sem]) ?_
    intro w6 w7 b6 s6 E7 st7
    have b67 : But (fun k => k = E) w6 w7 := But.ofStored st7 (st7.below 0 w6 (Nat.zero_le _) (Below.refl _ _))
    refine ⟨b67.box s6 hEG.symm, ?_⟩
    simp only [Act.put, List.setIfInBounds_toArray, List.set_cons_zero, List.set_cons_succ]
    have A7 := b67.box (A6.after b6) hAE
    have V7 := b67.box (V6.after b6) hVE
    refine wpU_done (by kernel_rfl) ?_
    intro u8 b8 s8
    have V9 := V7.after b8
    have A9 : Box u8 A 3 #[.int .i64 rp] := A7.after b8
    have E9 : Box u8 E 27 #[.int .i64 5] := E7.after b8
    have ev : ∀ u v : World, Below u.heap.size u v → But (fun _ => False) u v := fun u v h => But.ofBelow h
    have B8 : But (fun k => k = V ∨ k = A ∨ k = E) u5 u8 := ((((((But.refl _ u5).trans (ev _ _ ((Below.refl _ _).drew.trans b2)) (fun k hk => hk.elim)).trans b23 (fun k hk => .inl (.inl hk))).trans (ev _ _ b4) (fun k hk => hk.elim)).trans b45 (fun k hk => .inl (.inr (.inl hk)))).trans (ev _ _ b6) (fun k hk => hk.elim)).trans (b67.trans (ev _ _ b8) (fun k hk => hk.elim)) (fun k hk => .inl (.inr (.inr hk)))
    have b9 : Below w.heap.size w u8 := B8.after B5 (by have := B5.size; omega) (fun k hk => by omega)
    clear hKS s2 s4 s6 s8 A3 E3 A6 E6 V3 V6 V7 A7 E7 b2 b4 b6 b8 b23 b45 b67 ev st3 st5 st7
    go_wp2_with fail
    subst hV hA hE
    have cc0 : u8.cell? ⟨w.heap.size, 0, none⟩ = some (.bool false) := V9.cell 0 rfl
    have cc1 : u8.cell? ⟨w.heap.size, 1, none⟩ = some (.bool false) := V9.cell 1 rfl
    have cc2 : u8.cell? ⟨w.heap.size, 2, none⟩ = some (.slice none 0 0) := V9.cell 2 rfl
    have cc3 : u8.cell? ⟨w.heap.size, 3, none⟩ = some (.slice none 0 0) := V9.cell 3 rfl
    have cc4 : u8.cell? ⟨w.heap.size, 4, none⟩ = some (.slice none 0 0) := V9.cell 4 rfl
    have ca : u8.cell? ⟨w.heap.size + 1, 0, none⟩ = some (.int .i64 rp) := A9.cell 0 rfl
    have ce : u8.cell? ⟨w.heap.size + 1 + 1, 0, none⟩ = some (.int .i64 5) := E9.cell 0 rfl
    refine leaves_cons (f := 42) (args := #[.pointer (some ⟨w.heap.size, 0, none⟩), .pointer (some ⟨w.heap.size + 1, 0, none⟩), .pointer (some ⟨w.heap.size + 1 + 1, 0, none⟩)]) (by simp) (by simp [go_sem]) ?_
    refine (get1_idle _ _ _ _).mono ?_
    rintro e u' w'' ⟨rfl, rfl, rfl⟩
    simp [Leaves, settle, results, Tryz.results27, go_sem, cc0, cc1, cc2, cc3, cc4, ca, ce]
    exact ⟨SV.nil, Sx.nil, rp, 5, .inr ⟨by have := HL.out; omega, _, HM.out, .inr (.inl ⟨rfl, by have := HL.out; show rp < l.length; omega, rfl, rfl, rfl⟩)⟩, rfl, rd_nil _ _, b9⟩
  · have hmore' : ¬ (rp : Int) < (n : Int) := by omega
    have BX := B5
    go_wp2_with first | (refine wpList_load_box rfl 26 _ rfl V5 (by rfl) Tryz.underlying26 rfl (by kernel_rfl) ?_) | (refine wpList_store_box (cells := #[.bool vl, .bool vh, .slice a1 n1 c1, .slice a2 n2 c2, .slice a3 n3 c3]) rfl 26 _ _ rfl V5 (by rfl) (by rfl) rfl (by kernel_rfl) (by simp [Value.oneCell']) ?_; intro u9 X9 st9; have a9 := (st9.box A5 (by omega)).cell 0 rfl; have fa9 := (st9.box A5 (by omega)).frozen 0; have e9 := (st9.box E5 (by omega)).cell 0 rfl; have fe9 := (st9.box E5 (by omega)).frozen 0)
    have b9 : Below w.heap.size w ((u9.setCell ⟨w.heap.size + 1, 0, none⟩ (.int .i64 0)).setCell ⟨w.heap.size + 1 + 1, 0, none⟩ (.int .i64 0)) := ((st9.below w.heap.size w (Nat.le_refl _) BX).setCell (p := ⟨w.heap.size + 1, 0, none⟩) (by show w.heap.size ≤ w.heap.size + 1; omega) _).setCell (p := ⟨w.heap.size + 1 + 1, 0, none⟩) (by show w.heap.size ≤ w.heap.size + 1 + 1; omega) _
    have V9 := (X9.far ⟨w.heap.size + 1, 0, none⟩ (.int .i64 0) (by show w.heap.size ≠ w.heap.size + 1; omega)).far ⟨w.heap.size + 1 + 1, 0, none⟩ (.int .i64 0) (by show w.heap.size ≠ w.heap.size + 1 + 1; omega)
    have A9 : Box ((u9.setCell ⟨w.heap.size + 1, 0, none⟩ (.int .i64 0)).setCell ⟨w.heap.size + 1 + 1, 0, none⟩ (.int .i64 0)) (w.heap.size + 1) 3 #[.int .i64 0] := ((st9.box A5 (by omega)).set 0 (.int .i64 0)).far ⟨w.heap.size + 1 + 1, 0, none⟩ (.int .i64 0) (by show w.heap.size + 1 ≠ w.heap.size + 1 + 1; omega)
    have E9 : Box ((u9.setCell ⟨w.heap.size + 1, 0, none⟩ (.int .i64 0)).setCell ⟨w.heap.size + 1 + 1, 0, none⟩ (.int .i64 0)) (w.heap.size + 1 + 1) 27 #[.int .i64 0] := ((st9.box E5 (by omega)).far ⟨w.heap.size + 1, 0, none⟩ (.int .i64 0) (by show w.heap.size + 2 ≠ w.heap.size + 1; omega)).set 0 (.int .i64 0)
    have B59 : But (fun k => k = w.heap.size ∨ k = w.heap.size + 1 ∨ k = w.heap.size + 1 + 1) u5 ((u9.setCell ⟨w.heap.size + 1, 0, none⟩ (.int .i64 0)).setCell ⟨w.heap.size + 1 + 1, 0, none⟩ (.int .i64 0)) := (((But.ofStored st9 (st9.below 0 u5 (Nat.zero_le _) (Below.refl _ _))).mono (fun k hk => .inl hk)).setCell (p := ⟨w.heap.size + 1, 0, none⟩) (.inl (.inr (.inl rfl))) _).setCell (p := ⟨w.heap.size + 1 + 1, 0, none⟩) (.inl (.inr (.inr rfl))) _
    generalize ((u9.setCell ⟨w.heap.size + 1, 0, none⟩ (.int .i64 0)).setCell ⟨w.heap.size + 1 + 1, 0, none⟩ (.int .i64 0)) = u8 at *
    have cc0 : u8.cell? ⟨w.heap.size, 0, none⟩ = some (.bool vl) := V9.cell 0 rfl
    have cc1 : u8.cell? ⟨w.heap.size, 1, none⟩ = some (.bool vh) := V9.cell 1 rfl
    have cc2 : u8.cell? ⟨w.heap.size, 2, none⟩ = some (.slice a1 n1 c1) := V9.cell 2 rfl
    have cc3 : u8.cell? ⟨w.heap.size, 3, none⟩ = some (.slice a2 n2 c2) := V9.cell 3 rfl
    have cc4 : u8.cell? ⟨w.heap.size, 4, none⟩ = some (.slice a3 n3 c3) := V9.cell 4 rfl
    have ca : u8.cell? ⟨w.heap.size + 1, 0, none⟩ = some (.int .i64 0) := A9.cell 0 rfl
    have ce : u8.cell? ⟨w.heap.size + 1 + 1, 0, none⟩ = some (.int .i64 0) := E9.cell 0 rfl
    have HFIN : RdI (fun k => False ∨ w.heap.size ≤ k) u8 ⟨vl, vh, a1, n1, c1, a2, n2, c2, a3, n3, c3⟩ rv := (HRD5.out.but B59 (fun k hk e => by have := HZ0.out; omega)).mono (fun k hk => .inr (by have := HZ0.out; omega))
    refine leaves_cons (f := 42) (args := #[.pointer (some ⟨w.heap.size, 0, none⟩), .pointer (some ⟨w.heap.size + 1, 0, none⟩), .pointer (some ⟨w.heap.size + 1 + 1, 0, none⟩)]) (by simp) (by simp [go_sem]) ?_
    refine (get1_idle _ _ _ _).mono ?_
    rintro e u' w'' ⟨rfl, rfl, rfl⟩
    simp [Leaves, settle, results, Tryz.results27, go_sem, cc0, cc1, cc2, cc3, cc4, ca, ce]
    exact ⟨⟨vl, vh, a1, n1, c1, a2, n2, c2, a3, n3, c3⟩, rv, 0, 0, .inr ⟨by have := HL.out; omega, _, HM.out, .inr (.inr ⟨rfl, by have := HL.out; show l.length ≤ rp; omega, rfl, rfl, rfl⟩)⟩, rfl, HFIN, b9⟩

theorem getO_any (a : Option Addr) (n c : Nat) (l : List UInt8) (w : World) (hs : Sl w a n c l) : Calls Tryz.prog 27 #[.slice a n c] w (GetP (fun _ => False) l w) := by
  rcases Nat.lt_or_ge 4096 n with h | h
  · exact getO_long a n c l w hs h
  · exact getO_short a n c l w hs h

theorem nB64_pos {l : List UInt8} {p : Nat} {en : UInt8} {x : BR} (hx : nB64 l p en = x) (he : x.e = 0) : 1 ≤ x.p := by
  subst hx
  unfold nB64 at he ⊢
  dsimp only at he ⊢
  split
  · rename_i h; rw [if_pos h] at he; exact absurd he h
  · rename_i h; rw [if_neg h] at he
    split
    · exact Nat.succ_le_succ (Nat.zero_le _)
    · rename_i h2; rw [h2] at he; simp [BR.err] at he
/-- what is read of a transport form -/
def Pk (l : List UInt8) (r : RV) : Prop :=
  (l.length ≤ skipN l 0 ∧ r = RV.err l.length 2) ∨ (skipN l 0 < l.length ∧ l.getD (skipN l 0) 0 ≠ 123 ∧ r = RV.err (skipN l 0) 3) ∨
  (skipN l 0 < l.length ∧ l.getD (skipN l 0) 0 = 123 ∧ (nB64 l (skipN l 0 + 1) 125).e ≠ 0 ∧ r = RV.err (nB64 l (skipN l 0 + 1) 125).p (nB64 l (skipN l 0 + 1) 125).e) ∨
  (skipN l 0 < l.length ∧ l.getD (skipN l 0) 0 = 123 ∧ (nB64 l (skipN l 0 + 1) 125).e = 0 ∧ ∃ s p e, Got (nB64 l (skipN l 0 + 1) 125).b s p e ∧ ((e ≠ 0 ∧ r = RV.err ((nB64 l (skipN l 0 + 1) 125).p - 1) e) ∨ (e = 0 ∧ r = ⟨s, (nB64 l (skipN l 0 + 1) 125).p, 0, 0⟩)))
theorem Pk.det {l : List UInt8} {r r' : RV} (h : Pk l r) (h' : Pk l r') : r = r' := by
  rcases h with ⟨a, b⟩ | ⟨a, b, c⟩ | ⟨a, b, c, d⟩ | ⟨a, b, c, s, p, e, d, f⟩ <;> rcases h' with ⟨a1, b1⟩ | ⟨a1, b1, c1⟩ | ⟨a1, b1, c1, d1⟩ | ⟨a1, b1, c1, s1, p1, e1, d1, f1⟩ <;>
    first | exact b.trans b1.symm | exact c.trans c1.symm | exact d.trans d1.symm | (exfalso; omega) | (exfalso; exact b b1) | (exfalso; exact b1 b) | (exfalso; exact c c1) | (exfalso; exact c1 c) | skip
  obtain ⟨rfl, rfl, rfl⟩ := d.det d1
  rcases f with ⟨f, g⟩ | ⟨f, g⟩ <;> rcases f1 with ⟨f1, g1⟩ | ⟨f1, g1⟩ <;> first | exact g.trans g1.symm | (exfalso; omega)
set_option maxHeartbeats 8000000 in
set_option maxRecDepth 100000 in
theorem packed_any (g : Nat) (s : ByteArray) (w : World) (hs : s.size ≤ 16384) (hX : Box w g 59 (RdN s 0 0)) : Calls Tryz.prog 11 #[.pointer (some ⟨g, 0, none⟩)] w (ValN (Pk s.data.toList) g s w) := by
  have HL : Hid (s.data.toList.length = s.size) := Lib.hid (by simp)
  have hgw := hX.lt
  have B0 : Below w.heap.size w (w.alloc (.cells #[.bool false, .bool false, .slice none 0 0, .slice none 0 0, .slice none 0 0] 26)) := (Below.refl _ _).alloc (Nat.le_refl _) _
  have R := Lib.hid (Box.new w 26 #[.bool false, .bool false, .slice none 0 0, .slice none 0 0, .slice none 0 0])
  have X := Lib.hid (hX.after B0)
  have hz : w.heap.size < ((w.alloc (.cells #[.bool false, .bool false, .slice none 0 0, .slice none 0 0, .slice none 0 0] 26))).heap.size := R.out.lt
  have U : Hid (But (fun k => k = g) w (w.alloc (.cells #[.bool false, .bool false, .slice none 0 0, .slice none 0 0, .slice none 0 0] 26))) := Lib.hid (But.ofBelow B0)
  clear hX B0
  obtain ⟨q, hq⟩ : ∃ q, q = skipN s.data.toList 0 := ⟨_, rfl⟩
  have hql := skipN_le (l := s.data.toList) (p := 0) (Nat.zero_le _)
  rw [← hq, HL.out] at hql
  obtain ⟨_, hqs⟩ := hql
  have HQ := Lib.hid hq
  obtain ⟨x, hx⟩ : ∃ x, x = nB64 s.data.toList (q + 1) 125 := ⟨_, rfl⟩
  have HXX := Lib.hid (show nB64 s.data.toList (skipN s.data.toList 0 + 1) 125 = x by rw [← hq, hx])
  have HXP : Hid (x.e = 0 → q < s.size → x.p ≤ s.size) := Lib.hid (fun he hlt => by
    have := (nB64_place (l := s.data.toList) (p := q + 1) (en := 125) (by rw [HL.out]; exact hlt) (by rw [← hx]; exact he)).2
    rwa [← hx, HL.out] at this)
  have CB : Hid (∀ w', q < s.size → Box w' g 59 (RdN s (q + 1) 0) → Calls Tryz.prog 26 #[.pointer (some ⟨g, 0, none⟩), .int .u8 125] w' (BytesN g s 0 x w')) := Lib.hid (fun w' hlt hX => by rw [hx]; exact base64N_any 125 g s (q + 1) 0 w' hX (by omega) hlt)
  have CS : Hid (∀ w', Box w' g 59 (RdN s 0 0) → Calls Tryz.prog 24 #[.pointer (some ⟨g, 0, none⟩)] w' (fun e w2 => e = .returned (.tuple #[]) ∧ Box w2 g 59 (RdN s q 0) ∧ But (fun k => k = g) w' w2)) := Lib.hid (fun w' hX => by rw [hq]; exact skipN_any g s 0 0 w' hX (by omega) (Nat.zero_le _))
  clear hq hx
  go_enter Tryz.func11, Tryz.ntmps11
  go_upto_region 1 with fail
  change Code.wp _ _ _ _ (w.alloc (.cells #[.bool false, .bool false, .slice none 0 0, .slice none 0 0, .slice none 0 0] 26))
  generalize (w.alloc (.cells #[.bool false, .bool false, .slice none 0 0, .slice none 0 0, .slice none 0 0] 26)) = u0 at *
  go_wp2_with fail
  refine (CS.out u0 X.out).mono ?_
  rintro e w1 ⟨rfl, X1, b1⟩
  have U1 := Lib.hid (U.out.trans b1 (fun k hk => .inl hk))
  have R1 := Lib.hid (b1.box R.out (by omega))
  have HX1 := Lib.hid X1
  have hz1 := b1.size
  clear X U R X1 b1 CS
  go_wp2_with fail
  refine (signN_any g s q 0 123 w1 HX1.out (by omega)).mono ?_
  rintro e w2 ⟨b2, hP⟩
  have U2 := Lib.hid (U1.out.trans b2 (fun k hk => .inl hk))
  have R2 := Lib.hid (b2.box R1.out (by omega))
  have hz2 := b2.size
  clear HX1 U1 R1 b2
  rcases hP with ⟨h1, rfl⟩ | ⟨h1, h2, rfl⟩ | ⟨h1, h2, rfl, X2⟩
  · have HE : Hid (Pk s.data.toList (RV.err s.size 2)) := Lib.hid (.inl ⟨by rw [← HQ.out, HL.out]; exact h1, by rw [HL.out]⟩)
    unfold FaultN
    go_wp2_with fail
    exact ⟨rfl, vn_no HE.out (by decide) U2.out⟩
  · have HE : Hid (Pk s.data.toList (RV.err q 3)) := Lib.hid (.inr (.inl ⟨by rw [← HQ.out, HL.out]; exact h1, by rw [← HQ.out]; exact h2, by rw [← HQ.out]⟩))
    clear h2
    unfold FaultN
    go_wp2_with fail
    exact ⟨rfl, vn_no HE.out (by decide) U2.out⟩
  · have H2 : Hid (skipN s.data.toList 0 < s.data.toList.length ∧ s.data.toList.getD (skipN s.data.toList 0) 0 = 123) := Lib.hid ⟨by rw [← HQ.out, HL.out]; exact h1, by rw [← HQ.out]; exact h2⟩
    have HX2 := Lib.hid X2
    clear h2 X2
    go_wp2_with fail
    refine (CB.out w2 h1 HX2.out).mono ?_
    rintro e w3 ⟨b3, hP⟩
    have U3 := Lib.hid (U2.out.trans b3 (fun k hk => .inl hk))
    have R3 := Lib.hid (b3.box R2.out (by omega))
    have hz3 := b3.size
    clear HX2 U2 R2 b3 CB
    rcases hP with ⟨he, rfl⟩ | ⟨he, a, n, c, rfl, hsl, hin, X3⟩
    · have HE : Hid (Pk s.data.toList (RV.err x.p x.e)) := Lib.hid (.inr (.inr (.inl ⟨H2.out.1, H2.out.2, by rw [HXX.out]; exact he, by rw [HXX.out]⟩)))
      have HNE := Lib.hid he
      clear he
      unfold FaultN
      go_wp2_with fail
      exact ⟨rfl, vn_no HE.out HNE.out U3.out⟩
    · have HS3 := Lib.hid hsl
      have HX3 := Lib.hid X3
      have hxp := HXP.out he h1
      have HXE := Lib.hid he
      have hxp1 := (nB64_pos HXX.out he)
      clear hsl hin X3 he HXP
      go_wp2_with fail
      refine (getO_any a n c x.b w3 HS3.out).mono ?_
      rintro e w4 ⟨v, sx, p, y, hgot, rfl, hrd, b4⟩
      obtain ⟨vl, vh, va1, vn1, vc1, va2, vn2, vc2, va3, vn3, vc3⟩ := v
      have U4 := Lib.hid (U3.out.trans (But.ofBelow (S := fun _ => False) b4) (fun _ h => h.elim))
      have R4 := Lib.hid (R3.out.after b4)
      have X4 := Lib.hid (HX3.out.after b4)
      have RDV := Lib.hid (hrd.there)
      have HG := Lib.hid hgot
      have hz4 := b4.size
      clear hgot hrd b4 U3 R3 HX3 HS3
      go_upto_region 5 with (refine wpList_store_box (cells := #[.bool vl, .bool vh, .slice va1 vn1 vc1, .slice va2 vn2 vc2, .slice va3 vn3 vc3]) rfl 26 _ _ rfl (Box.new _ _ _) (by rfl) (by rfl) rfl (by kernel_rfl) (by simp [Value.oneCell']) ?_; intro u5 Y5 st5)
      have b5 : Below w4.heap.size w4 u5 := st5.below w4.heap.size w4 (Nat.le_refl _) ((Below.refl _ _).alloc (Nat.le_refl _) _)
      have U5 := Lib.hid (U4.out.trans (But.ofBelow (S := fun _ => False) b5) (fun _ h => h.elim))
      have R5 := Lib.hid (R4.out.after b5)
      have X5 := Lib.hid (X4.out.after b5)
      have HY5 := Lib.hid Y5
      have RD5 := Lib.hid (RDV.out.after b5)
      have hz5 := Y5.lt
      clear st5 b5 U4 R4 X4 Y5 RDV
      have x1 := X5.out.cell 1 rfl
      by_cases hy : y = 0
      case neg =>
        obtain ⟨z1, z2⟩ := nat_ne hy
        have HE : Hid (Pk s.data.toList (RV.err (x.p - 1) y)) := Lib.hid (.inr (.inr (.inr ⟨H2.out.1, H2.out.2, by rw [HXX.out]; exact HXE.out, sx, p, y, by rw [HXX.out]; exact HG.out, .inl ⟨hy, by rw [HXX.out]⟩⟩)))
        obtain ⟨P, hP⟩ : ∃ P, P = x.p - 1 := ⟨_, rfl⟩
        have qP : (x.p : Int) - 1 = (P : Int) := by omega
        rw [← hP] at HE
        have HNE := Lib.hid hy
        clear hP hy
        go_wp2_with fail
        refine (wrong_any P y _).mono ?_
        rintro e w6 ⟨rfl, rfl⟩
        unfold FaultN
        go_wp2_with fail
        exact ⟨rfl, vn_no HE.out HNE.out U5.out⟩
      subst hy
      have HE : Hid (Pk s.data.toList ⟨sx, x.p, 0, 0⟩) := Lib.hid (.inr (.inr (.inr ⟨H2.out.1, H2.out.2, by rw [HXX.out]; exact HXE.out, sx, p, 0, by rw [HXX.out]; exact HG.out, .inr ⟨rfl, by rw [HXX.out]⟩⟩)))
      go_wp2_with first | (refine wpList_load_box rfl 26 _ rfl HY5.out (by rfl) Tryz.underlying26 rfl (by kernel_rfl) ?_) | (refine wpList_store_box (cells := #[.bool vl, .bool vh, .slice va1 vn1 vc1, .slice va2 vn2 vc2, .slice va3 vn3 vc3]) rfl 26 _ _ rfl R5.out (by rfl) (by rfl) rfl (by kernel_rfl) (by simp [Value.oneCell']) ?_; intro u9 X9 st9)
      have b9 : But (fun k => k = w.heap.size) u5 u9 := But.ofStored st9 (st9.below 0 u5 (Nat.zero_le _) (Below.refl _ _))
      exact bodyPost_ret (v := .agg #[.bool vl, .bool vh, .slice va1 vn1 vc1, .slice va2 vn2 vc2, .slice va3 vn3 vc3]) (box_result rfl _ _ (by rfl) X9 Tryz.underlying26 rfl (by kernel_rfl)) rfl (vn_yes (v := ⟨vl, vh, va1, vn1, vc1, va2, vn2, vc2, va3, vn3, vc3⟩) HE.out (U5.out.trans b9 (fun k hk => .inr (by omega))) ((RD5.out.but b9 (fun k hk e => by rcases hk.1 with h | h; exact h.elim; omega)).mono (fun k hk => by rcases hk.1 with h | h; exact h.elim; omega)) (b9.box X5.out (by omega)))

end Go.Proofs.YtkbblhioncecmaaGreatDoor
namespace Go.Proofs.YtkbblhioncecmaaGreatDoor
open Go.RowKit
set_option linter.unusedSimpArgs false
set_option linter.unusedVariables false

end Go.Proofs.YtkbblhioncecmaaGreatDoor
namespace Go.Proofs.YtkbblhioncecmaaGreatDoor
open Go.RowKit
set_option linter.unusedSimpArgs false
set_option linter.unusedVariables false

end Go.Proofs.YtkbblhioncecmaaGreatDoor
namespace Go.Proofs.YtkbblhioncecmaaGreatDoor
open Go.RowKit
set_option linter.unusedSimpArgs false
set_option linter.unusedVariables false

set_option maxRecDepth 100000 in
theorem packed_reads (s : ByteArray) (hs : s.size ≤ 16384) : Reads 11 (Pk s.data.toList) s := by
  refine ⟨fun _ _ => rfl, fun g w hX _ => packed_any g s w hs hX, fun r hr he => ?_⟩
  have hl : s.data.toList.length = s.size := by simp
  rcases hr with ⟨_, h⟩ | ⟨_, _, h⟩ | ⟨_, _, h1, h⟩ | ⟨h1, h2, h3, sx, p, e, h4, ⟨h5, h⟩ | ⟨h5, h⟩⟩
  · subst h; simp [RV.err] at he
  · subst h; simp [RV.err] at he
  · subst h; exact absurd he h1
  · subst h; exact absurd he h5
  · subst h h5
    refine ⟨?_, 0, wide_broad _ _ (got_ok h4).2.2.1⟩
    have := (nB64_place (l := s.data.toList) (p := skipN s.data.toList 0 + 1) (en := 125) (by omega) h3).2
    rwa [hl] at this
set_option maxHeartbeats 4000000 in
set_option maxRecDepth 100000 in
theorem unpackN_any (s : ByteArray) (w : World) (ht : Tab w) : Calls Tryz.prog 5 #[.string s] w (ReadP (Pk s.data.toList) s.data.toList w) := by
  have R := Lib.hid (Box.new w 26 #[.bool false, .bool false, .slice none 0 0, .slice none 0 0, .slice none 0 0])
  have B0 : Below w.heap.size w (w.alloc (.cells #[.bool false, .bool false, .slice none 0 0, .slice none 0 0, .slice none 0 0] 26)) := (Below.refl _ _).alloc (Nat.le_refl _) _
  have CA := Lib.hid (fun w' h => reads_any 11 (Pk s.data.toList) s (packed_reads s) w' h)
  have HT := Lib.hid (ht.after B0)
  clear ht
  go_enter Tryz.func5, Tryz.ntmps5
  go_upto_region 1 with fail
  change Code.wp _ _ _ _ (w.alloc (.cells #[.bool false, .bool false, .slice none 0 0, .slice none 0 0, .slice none 0 0] 26))
  generalize (w.alloc (.cells #[.bool false, .bool false, .slice none 0 0, .slice none 0 0, .slice none 0 0] 26)) = u0 at *
  go_wp2_with fail
  refine (CA.out u0 HT.out).mono ?_
  rintro e w1 ⟨v, sx, p, x, hg, rfl, rd, b1⟩
  obtain ⟨vl, vh, a1, n1, c1, a2, n2, c2, a3, n3, c3⟩ := v
  have HG := Lib.hid hg
  have HRD := Lib.hid rd
  have hz0 := B0.size
  have hz1 := R.out.lt
  replace R := Lib.hid (R.out.after b1)
  have B1 := B0.trans (b1.mono hz0)
  clear hg rd b1
  go_wp2_with (refine wpList_store_box (cells := #[.bool vl, .bool vh, .slice a1 n1 c1, .slice a2 n2 c2, .slice a3 n3 c3]) rfl 26 _ _ rfl R.out (by rfl) (by rfl) rfl (by kernel_rfl) (by simp [Value.oneCell']) ?_; intro u9 X9 st9)
  have b9 : But (fun k => k = w.heap.size) w1 u9 := But.ofStored st9 (st9.below 0 w1 (Nat.zero_le _) (Below.refl _ _))
  exact bodyPost_ret (v := .tuple #[.agg #[.bool vl, .bool vh, .slice a1 n1 c1, .slice a2 n2 c2, .slice a3 n3 c3], .int .i64 p, .int .i64 x]) (box_result22 (p := 2) (q := 3) (r := 4) rfl _ _ (by rfl) X9 Tryz.underlying26 rfl (by kernel_rfl)) rfl ⟨⟨vl, vh, a1, n1, c1, a2, n2, c2, a3, n3, c3⟩, sx, p, x, HG.out, rfl, (HRD.out.but b9 (fun k hk e => by omega)).mono (fun k hk => by omega), b9.after B1 B1.size (fun k hk => by omega)⟩

theorem GotN.det {Rel : RV → Prop} (hR : ∀ r r', Rel r → Rel r' → r = r') {l : List UInt8} {s s' : Sx} {p p' e e' : Nat} (h : GotN Rel l s p e) (h' : GotN Rel l s' p' e') : s = s' ∧ p = p' ∧ e = e' := by
  rcases h with ⟨h1, h2, h3, h4⟩ | ⟨h1, r, hr, h2⟩
  · rcases h' with ⟨_, h2', h3', h4'⟩ | ⟨h1', _⟩
    · exact ⟨h2.trans h2'.symm, h3.trans h3'.symm, h4.trans h4'.symm⟩
    · omega
  · rcases h' with ⟨h1', _⟩ | ⟨_, r', hr', h2'⟩
    · omega
    · obtain rfl := hR _ _ hr hr'
      rcases h2 with ⟨a, b, c, d⟩ | ⟨a, a', b, c, d⟩ | ⟨a, a', a'', b, c, d⟩ | ⟨a, a', a'', b, c, d⟩ <;> rcases h2' with ⟨a1, b1, c1, d1⟩ | ⟨a1, a2, b1, c1, d1⟩ | ⟨a1, a2, a3, b1, c1, d1⟩ | ⟨a1, a2, a3, b1, c1, d1⟩ <;>
        first | exact ⟨b.trans b1.symm, c.trans c1.symm, d.trans d1.symm⟩ | (exfalso; omega) | (exfalso; rw [a''] at a3; cases a3)
theorem nt_one {l : List UInt8} : ∀ r r' : RV, Nt l none 0 1 0 r → Nt l none 0 1 0 r' → r = r' := fun _ _ h h' => h.det h'
theorem pk_one {l : List UInt8} : ∀ r r' : RV, Pk l r → Pk l r' → r = r' := fun _ _ h h' => h.det h'
end Go.Proofs.YtkbblhioncecmaaGreatDoor
namespace Go.Proofs.YtkbblhioncecmaaGreatDoor
open Go.RowKit
set_option linter.unusedSimpArgs false
set_option linter.unusedVariables false

def BitP (b : Bool) (w : World) (e : Ending) (w' : World) : Prop := e = .returned (.bool b) ∧ w' = w
set_option maxRecDepth 100000 in
theorem rblank_any (c : UInt8) (w : World) : Calls Tryz.prog 28 #[.int .u8 (c.toNat : Int)] w (BitP (blankB c) w) := by
  unfold BitP
  by_cases h32 : c.toNat = 32
  · have HV : Hid (blankB c = true) := Lib.hid (by obtain rfl : c = 32 := UInt8.toNat_inj.1 h32; rfl)
    obtain ⟨z1, z2, z3⟩ := bEq 32 32 rfl h32
    clear h32
    go_enter Tryz.func28, Tryz.ntmps28
    go_wp2_with fail
    go_ret
    exact ⟨by rw [HV.out]; rfl, rfl⟩
  · have hc : c ≠ 32 := fun e => h32 (by rw [e]; rfl)
    obtain ⟨z1, z2, z3⟩ := bNe 32 32 rfl h32
    rcases (by omega : c.toNat < 9 ∨ (9 ≤ c.toNat ∧ c.toNat ≤ 13) ∨ 13 < c.toNat) with h | h | h
    · have HV : Hid (blankB c = false) := Lib.hid (by unfold blankB; simp [hc]; omega)
      have h' : ¬ (9 : Int) ≤ (c.toNat : Int) := by omega
      clear h32 hc h
      go_enter Tryz.func28, Tryz.ntmps28
      go_wp2_with fail
      go_ret
      exact ⟨by rw [HV.out]; rfl, rfl⟩
    · have HV : Hid (blankB c = true) := Lib.hid (by unfold blankB; simp [hc]; omega)
      have h1 : (9 : Int) ≤ (c.toNat : Int) := by omega
      have h2 : (c.toNat : Int) ≤ 13 := by omega
      clear h32 hc h
      go_enter Tryz.func28, Tryz.ntmps28
      go_wp2_with fail
      go_ret
      exact ⟨by rw [HV.out]; rfl, rfl⟩
    · have HV : Hid (blankB c = false) := Lib.hid (by unfold blankB; simp [hc]; omega)
      have h1 : (9 : Int) ≤ (c.toNat : Int) := by omega
      have h2 : ¬ (c.toNat : Int) ≤ 13 := by omega
      clear h32 hc h
      go_enter Tryz.func28, Tryz.ntmps28
      go_wp2_with fail
      go_ret
      exact ⟨by rw [HV.out]; rfl, rfl⟩

set_option maxRecDepth 100000 in
theorem rletter_any (c : UInt8) (w : World) : Calls Tryz.prog 45 #[.int .u8 (c.toNat : Int)] w (BitP (letterB c) w) := by
  unfold BitP
  rcases (by omega : c.toNat < 65 ∨ (65 ≤ c.toNat ∧ c.toNat ≤ 90) ∨ (90 < c.toNat ∧ c.toNat < 97) ∨ (97 ≤ c.toNat ∧ c.toNat ≤ 122) ∨ 122 < c.toNat) with h | h | h | h | h
  · have HV : Hid (letterB c = false) := Lib.hid (by unfold letterB; simp; omega)
    have h1 : ¬ (97 : Int) ≤ (c.toNat : Int) := by omega
    have h2 : ¬ (65 : Int) ≤ (c.toNat : Int) := by omega
    clear h
    go_enter Tryz.func45, Tryz.ntmps45
    go_wp2_with fail
    go_ret
    exact ⟨by rw [HV.out]; rfl, rfl⟩
  · have HV : Hid (letterB c = true) := Lib.hid (by unfold letterB; simp; omega)
    have h1 : ¬ (97 : Int) ≤ (c.toNat : Int) := by omega
    have h2 : (65 : Int) ≤ (c.toNat : Int) := by omega
    have h3 : (c.toNat : Int) ≤ 90 := by omega
    clear h
    go_enter Tryz.func45, Tryz.ntmps45
    go_wp2_with fail
    go_ret
    exact ⟨by rw [HV.out]; rfl, rfl⟩
  · have HV : Hid (letterB c = false) := Lib.hid (by unfold letterB; simp; omega)
    have h1 : ¬ (97 : Int) ≤ (c.toNat : Int) := by omega
    have h2 : (65 : Int) ≤ (c.toNat : Int) := by omega
    have h3 : ¬ (c.toNat : Int) ≤ 90 := by omega
    clear h
    go_enter Tryz.func45, Tryz.ntmps45
    go_wp2_with fail
    go_ret
    exact ⟨by rw [HV.out]; rfl, rfl⟩
  · have HV : Hid (letterB c = true) := Lib.hid (by unfold letterB; simp; omega)
    have h1 : (97 : Int) ≤ (c.toNat : Int) := by omega
    have h2 : (c.toNat : Int) ≤ 122 := by omega
    clear h
    go_enter Tryz.func45, Tryz.ntmps45
    go_wp2_with fail
    go_ret
    exact ⟨by rw [HV.out]; rfl, rfl⟩
  · have HV : Hid (letterB c = false) := Lib.hid (by unfold letterB; simp; omega)
    have h1 : (97 : Int) ≤ (c.toNat : Int) := by omega
    have h2 : ¬ (c.toNat : Int) ≤ 122 := by omega
    have h3 : (65 : Int) ≤ (c.toNat : Int) := by omega
    have h4 : ¬ (c.toNat : Int) ≤ 90 := by omega
    clear h
    go_enter Tryz.func45, Tryz.ntmps45
    go_wp2_with fail
    go_ret
    exact ⟨by rw [HV.out]; rfl, rfl⟩

set_option maxRecDepth 100000 in
theorem rnumber_any (c : UInt8) (w : World) : Calls Tryz.prog 46 #[.int .u8 (c.toNat : Int)] w (BitP (numB c) w) := by
  unfold BitP
  rcases (by omega : c.toNat < 48 ∨ (48 ≤ c.toNat ∧ c.toNat ≤ 57) ∨ 57 < c.toNat) with h | h | h
  · have HV : Hid (numB c = false) := Lib.hid (by unfold numB; simp; omega)
    have h1 : ¬ (48 : Int) ≤ (c.toNat : Int) := by omega
    clear h
    go_enter Tryz.func46, Tryz.ntmps46
    go_wp2_with fail
    go_ret
    exact ⟨by rw [HV.out]; rfl, rfl⟩
  · have HV : Hid (numB c = true) := Lib.hid (by unfold numB; simp; omega)
    have h1 : (48 : Int) ≤ (c.toNat : Int) := by omega
    have h2 : (c.toNat : Int) ≤ 57 := by omega
    clear h
    go_enter Tryz.func46, Tryz.ntmps46
    go_wp2_with fail
    go_ret
    exact ⟨by rw [HV.out]; rfl, rfl⟩
  · have HV : Hid (numB c = false) := Lib.hid (by unfold numB; simp; omega)
    have h1 : (48 : Int) ≤ (c.toNat : Int) := by omega
    have h2 : ¬ (c.toNat : Int) ≤ 57 := by omega
    clear h
    go_enter Tryz.func46, Tryz.ntmps46
    go_wp2_with fail
    go_ret
    exact ⟨by rw [HV.out]; rfl, rfl⟩

/-- the byte at a place of a text, in the walk's words -/
theorem at_byte (s : ByteArray) (p : Nat) (h : p < s.size) : ∃ c : UInt8, s[p] = c ∧ Hid (s.data.toList.getD p 0 = c) ∧ Hid (s.data.toList[p]'(by simpa using h) = c) :=
  ⟨_, rfl, Lib.hid (getD_byte s p h).symm, Lib.hid rfl⟩
set_option maxHeartbeats 4000000 in
set_option maxRecDepth 100000 in
theorem rskip_any (s : ByteArray) (p : Nat) (w : World) (hs : s.size ≤ 1000000) (hp : p ≤ s.size) : Calls Tryz.prog 12 #[.string s, .int .i64 p] w (fun e w' => e = .returned (.int .i64 (skipN s.data.toList p)) ∧ w' = w) := by
  go_enter Tryz.func12, Tryz.ntmps12
  go_wp2_with fail
  go_loopw [1] (fun r wr => ∃ k : Nat, k ≤ s.size ∧ Hid (skipN s.data.toList k = skipN s.data.toList p) ∧ r = .int .i64 k ∧ wr = w) (fun r wr => s.size - (intOf r).toNat)
  case atStart => exact ⟨p, hp, Lib.hid rfl, rfl, rfl⟩
  case round =>
    obtain ⟨k, hk, hsk, rfl, rfl⟩ := hrel
    have hl : s.data.toList.length = s.size := by simp
    by_cases hlt : k < s.size
    · have hk0 : (0 : Int) ≤ k := by omega
      have hk1 : (k : Int) < s.size := by omega
      obtain ⟨c, hc, hc1, hc2⟩ := at_byte s k hlt
      cases hbb : blankB c with
      | true =>
        have HT := Lib.hid ((skipN_blank (l := s.data.toList) (p := k) (by omega) (by rw [hc2.out]; exact hbb)).symm.trans hsk.out)
        have HB := Lib.hid hbb
        clear hbb hsk
        go_wp2_with fail
        refine (rblank_any c _).mono ?_
        unfold BitP
        rintro e w1 ⟨rfl, rfl⟩
        rw [HB.out]
        go_wp2_with fail
        go_roundw
        case rel => exact ⟨k + 1, by omega, HT, by go_num, trivial⟩
        case measure => simp [intOf]; omega
      | false =>
        have HT := Lib.hid ((skipN_other (l := s.data.toList) (p := k) (by omega) (by rw [hc2.out]; exact hbb)).symm.trans hsk.out)
        have HB := Lib.hid hbb
        clear hbb hsk
        go_wp2_with fail
        refine (rblank_any c _).mono ?_
        unfold BitP
        rintro e w1 ⟨rfl, rfl⟩
        rw [HB.out]
        go_wp2_with fail
        go_ret
        exact ⟨by rw [← HT.out]; rfl, rfl⟩
    · have HT := Lib.hid ((skipN_end (l := s.data.toList) (p := k) (by omega)).symm.trans hsk.out)
      have hk1 : ¬ (k : Int) < s.size := by omega
      clear hsk
      go_wp2_with fail
      go_ret
      exact ⟨by rw [← HT.out]; rfl, rfl⟩
end Go.Proofs.YtkbblhioncecmaaGreatDoor
namespace Go.Proofs.YtkbblhioncecmaaGreatDoor
open Go.RowKit
set_option linter.unusedSimpArgs false
set_option linter.unusedVariables false

/-- bytes that were read are handed back -/
def BPost (r : BR) (w : World) (e : Ending) (w' : World) : Prop :=
  ∃ a n c, e = .returned (.agg #[.slice a n c, .int .i64 r.p, .int .i64 r.e]) ∧ Sl w' a n c r.b ∧ InB (fun k => w.heap.size ≤ k) a n ∧ Below w.heap.size w w'
theorem bp_err {r : BR} {p e : Nat} (h : r = BR.err p e) {w w' : World} (hb : Below w.heap.size w w') : BPost r w (.returned (.agg #[.slice none 0 0, .int .i64 p, .int .i64 e])) w' := by
  subst h
  exact ⟨none, 0, 0, rfl, Sl.nil _, .inl rfl, hb⟩
theorem bp_ok {r : BR} {l : List UInt8} {p : Nat} {z : Int} (h : r = ⟨l, p, 0⟩) (hz : z = (p : Int)) {w w' : World} {a : Option Addr} {n c : Nat} (hs : Sl w' a n c l) (hi : InB (fun k => w.heap.size ≤ k) a n) (hb : Below w.heap.size w w') :
    BPost r w (.returned (.agg #[.slice a n c, .int .i64 z, .int .i64 0])) w' := by
  subst h hz
  exact ⟨a, n, c, rfl, hs, hi, hb⟩
theorem Sl.keepSt {w u : World} {a : Option Addr} {n c g B : Nat} {l : List UInt8} (h : Sl w a n c l) (hi : InB (fun k => B ≤ k) a n) (st : Stored w u g) (hg : g < B) : Sl u a n c l :=
  h.keep (hi.imp id fun h b o s e => st.other b (by have := h b o s e; omega))
end Go.Proofs.YtkbblhioncecmaaGreatDoor
namespace Go.Proofs.YtkbblhioncecmaaGreatDoor
open Go.RowKit
set_option linter.unusedSimpArgs false
set_option linter.unusedVariables false

set_option maxHeartbeats 8000000 in
set_option maxRecDepth 100000 in
theorem refUnbO_any (s : ByteArray) (w : World) (hs : s.size ≤ 100000) :
    Calls Tryz.prog 30 #[.string s] w (GaveO (unb64 s.data.toList) (.bool (unb64 s.data.toList).isSome) w.heap.size w) := by
  obtain ⟨R, hR⟩ : ∃ R, R = unb64 s.data.toList := ⟨_, rfl⟩
  rw [← hR]
  have HR := Lib.hid hR
  have HSL := Lib.hid (show s.toList = s.data.toList from Lib.toList_data s)
  clear hR
  obtain ⟨i0, hi, hz0, hz1, hz2⟩ := info_parts bldInfo5
  have hown0 : (w.alloc (.cells #[] 5)).ownsRow w.heap.size 5 1 (.slice (some ⟨w.heap.size, 0, none⟩) 0 0) 0 (Lib.byteCells []) := World.ownsRow_lit w #[] 0 (Nat.le_refl _) (Nat.zero_le _) rfl
  have hW0 : Below w.heap.size w (w.alloc (.cells #[] 5)) := (Below.refl _ _).alloc (Nat.le_refl _) _
  have hempty : ∀ (w : World), Sl (w.alloc (.cells #[] 5)) (some ⟨w.heap.size, 0, none⟩) 0 0 [] := fun w => ⟨rfl, Nat.le_refl _, Nat.zero_le _, (fun h => by cases h), .inl rfl⟩
  go_enter Tryz.func30, Tryz.ntmps30
  go_wp2_with fail
  go_loopw [4, 5] (fun bits i wr => ∃ (j : Nat) (bN : List Nat), j ≤ s.size ∧ i = .int .i64 j ∧ wr.ownsRow w.heap.size 5 1 bits bN.length (Lib.byteCells (bN.map UInt8.ofNat)) ∧ Hid (∀ x ∈ bN, x < 2) ∧ Hid (bitsOf s.data.toList = bN ++ bitsOf (s.data.toList.drop j)) ∧ bN.length ≤ 6 * j ∧ Below w.heap.size w wr) (fun _ i _ => s.size - (intOf i).toNat)
  case atStart => exact ⟨0, [], Nat.zero_le _, rfl, hown0, Lib.hid (by simp), Lib.hid (by simp), by simp, hW0⟩
  case round =>
    obtain ⟨wa, rfl⟩ : ∃ wa : World, wa = wr := ⟨_, rfl⟩
    obtain ⟨j, bN, hj, rfl, hown, hN, HB, hnl, hW⟩ := hrel
    clear hown0 hW0
    by_cases hlt : j < s.size
    · obtain ⟨c, hc⟩ : ∃ c, c = s[j]'hlt := ⟨_, rfl⟩
      have HD := Lib.hid (bitsOf_drop s j hlt)
      rw [← hc] at HD
      have e1 := hc.symm
      clear hc
      go_wp2_with fail
      refine (refsign_any _ _).mono ?_
      rintro e wx ⟨v, rfl, hv, rfl⟩
      have HV := Lib.hid hv
      have hl8 := sval_lt ⟨c.toNat, c.toNat_lt⟩
      have HL8 := Lib.hid hl8
      clear hv hl8
      cases hsv : sval c.toNat with
      | none =>
        replace HB := Lib.hid (show bitsOf s.data.toList = bN by rw [HB.out, HD.out, hsv]; simp)
        clear hsv HD HV HL8
        go_wp2_with fail
        obtain ⟨m, hm⟩ : ∃ m, m = bN.length := ⟨_, rfl⟩
        have HM := Lib.hid hm
        rw [← hm] at hnl hown
        clear hm
        obtain ⟨ab, cb, rfl, hSb⟩ := Sl.ofOwns hown
        have hown2 : (wa.alloc (.cells #[] 5)).ownsRow wa.heap.size 5 1 (.slice (some ⟨wa.heap.size, 0, none⟩) 0 0) 0 (Lib.byteCells []) := World.ownsRow_lit wa #[] 0 (Nat.le_refl _) (Nat.zero_le _) rfl
        have hW2 : Below wa.heap.size wa (wa.alloc (.cells #[] 5)) := (Below.refl _ _).alloc (Nat.le_refl _) _
        clear hown
        go_loopw [9, 10] (fun out i wq => ∃ j : Nat, 8 * j ≤ m ∧ i = .int .i64 (8 * (j : Int)) ∧ wq.ownsRow wa.heap.size 5 1 out j (Lib.byteCells (packTo bN j)) ∧ Below wa.heap.size wa wq) (fun _ i _ => m + 8 - (intOf i).toNat)
        case atStart => exact ⟨0, by omega, rfl, hown2, hW2⟩
        case round =>
          obtain ⟨wq, rfl⟩ : ∃ wq : World, wq = wr := ⟨_, rfl⟩
          obtain ⟨j, hj, rfl, hownq, hWq⟩ := hrel
          clear hown2 hW2
          by_cases hlt : 8 * j + 8 ≤ m
          · have hlt' : 8 * (j : Int) + 8 ≤ (m : Int) := by omega
            have hSq := Lib.hid (hSb.after hWq)
            go_wp2_with fail
            go_loopw [11, 12] (fun s t wz => ∃ k : Nat, k ≤ 8 ∧ t = .int .i64 k ∧ s = .int .u8 (hor bN (8 * j) k : Nat) ∧ wq = wz) (fun _ t _ => 8 - (intOf t).toNat)
            case atStart => exact ⟨0, by omega, rfl, rfl, rfl⟩
            case round =>
              obtain ⟨k, hk, rfl, rfl, rfl⟩ := hrel
              by_cases hk8 : k < 8
              · obtain ⟨b', o', rfl, hcc⟩ : ∃ b o, ab = some ⟨b, o, none⟩ ∧ ∀ i, i < m → wq.cell? ⟨b, o + i, none⟩ = some (.int .u8 (((bN.map UInt8.ofNat).getD i 0).toNat : Int)) := by
                  rcases hSq.out.2.2.2.2 with hc | hc
                  · omega
                  · exact hc
                have c0 := hcc (8 * j + k) (by omega)
                have hbit : ((bN.map UInt8.ofNat).getD (8 * j + k) 0).toNat = bN.getD (8 * j + k) 0 := map_getD bN hN.out _
                rw [hbit] at c0
                have hgk := hor_lt bN hN.out (8 * j) k
                have hgk2 : hor bN (8 * j) k < 128 := Nat.lt_of_lt_of_le hgk (Nat.pow_le_pow_right (n := 2) (by omega) (show k ≤ 7 by omega))
                have hb := getD_lt bN hN.out (8 * j + k)
                obtain ⟨x, hx⟩ : ∃ x, x = hor bN (8 * j) k := ⟨_, rfl⟩
                obtain ⟨y, hy⟩ : ∃ y, y = bN.getD (8 * j + k) 0 := ⟨_, rfl⟩
                have HG := Lib.hid (show hor bN (8 * j) (k + 1) = 2 * x + y by rw [hx, hy]; rfl)
                rw [← hx]
                rw [← hx] at hgk2
                rw [← hy] at hb c0
                clear hgk hx hy hbit hcc
                go_wp2_with fail
                go_roundw
                case rel => exact ⟨k + 1, by omega, by go_num, by rw [HG.out]; go_num, trivial⟩
                case measure => simp [intOf]; omega
              · obtain rfl : k = 8 := by omega
                have hg : hor bN (8 * j) 8 < 256 := hor_lt bN hN.out (8 * j) 8
                obtain ⟨x, hx⟩ : ∃ x, x = hor bN (8 * j) 8 := ⟨_, rfl⟩
                have HX := Lib.hid (show packTo bN (j + 1) = packTo bN j ++ [UInt8.ofNat x] by rw [hx, packTo_succ])
                rw [← hx]
                rw [← hx] at hg
                clear hx
                go_wp2_with (at_builtin; go_loud (refine wpList_append_sl rfl (.tmp 62) (.tmp 64) 23 rfl wa.heap.size 5 i0 Tryz.underlying23 hi hz0 hz1 hz2 _ j (packTo bN j) rfl (hownq.alloc _) _ 1 1 [UInt8.ofNat x] rfl (sl_cell_nat _ _ x hg (cell_new _ _ _ rfl)) (by omega) (by have := hWq.size; simp; omega) ?_); intro v1 w1 hown1 hg1)
                have hW1 := (hWq.alloc hWq.size _).grown hg1 (by have := hWq.size; simp; omega) (fun t ht => (hownq.lt t ht).1)
                rw [← HX.out] at hown1
                go_wp2_with fail
                go_roundw
                case rel => exact ⟨j + 1, by omega, by go_num, hown1, hW1⟩
                case measure => simp [intOf]; omega
          · have hlt' : (m : Int) < 8 * (j : Int) + 8 := by omega
            obtain rfl : j = m / 8 := by omega
            have HP := Lib.hid (packTo_all bN)
            rw [← HM.out] at HP
            obtain ⟨X, hX⟩ : ∃ X, X = packTo bN (m / 8) := ⟨_, rfl⟩
            rw [← hX] at hownq HP
            obtain ⟨jj, hjj⟩ : ∃ jj, jj = m / 8 := ⟨_, rfl⟩
            rw [← hjj] at hownq
            have hjl : X.length ≤ 1000000 := by
              have := hownq.1
              simp [Lib.byteCells] at this
              omega
            clear hX hjj
            obtain ⟨aq, cq, rfl, hSq⟩ := Sl.ofOwns hownq
            have HOWN : Hid (∀ n, InB (fun k => w.heap.size ≤ k) aq n) := Lib.hid (fun n => .inr (fun b o s e => Nat.le_trans hW.size (hownq.lt b (by rw [e]; rfl)).1))
            have hWW := hW.trans (hWq.mono hW.size)
            go_wp2_with fail
            refine (refB64_any _ _ _ _ _ hSq hjl).mono ?_
            rintro e wz ⟨rfl, hbz⟩
            have hWz := hWW.trans (hbz.mono hWW.size)
            by_cases hq : b64 X = s.toList
            · have HR2 := Lib.hid (show R = some X by rw [HR.out, unb64_both, HB.out, ← HP.out, if_pos (by rw [hq]; exact HSL.out)])
              go_wp2_with fail
              go_ret2
              exact ⟨aq, _, cq, by rw [HR2.out]; rfl, by rw [HR2.out]; exact hSq.after hbz, HOWN.out _, hWz⟩
            · have HR2 := Lib.hid (show R = none by rw [HR.out, unb64_both, HB.out, ← HP.out, if_neg (by intro hh; exact hq (hh.trans HSL.out.symm))])
              replace hq : (b64 X == s.toList) = false := by simpa using hq
              go_wp2_with fail
              go_ret2
              exact ⟨_, 0, 0, by rw [HR2.out]; rfl, by rw [HR2.out]; exact hempty _, .inl rfl, hWz.alloc hWz.size _⟩
      | some n =>
        obtain rfl := HV.out n hsv
        have hn := HL8.out n hsv
        have HB' := Lib.hid (show bitsOf s.data.toList = (bN ++ [n / 32 % 2, n / 16 % 2, n / 8 % 2, n / 4 % 2, n / 2 % 2, n % 2]) ++ bitsOf (s.data.toList.drop (j + 1)) by rw [HB.out, HD.out, hsv]; simp)
        clear hsv HD HV HL8 HB
        go_wp2_with fail
        refine wp_loop_rounds 7 ?_
        rw [rounds_succ]
        go_wp2_with (at_builtin; go_loud (refine wpList_append_sl rfl (.tmp 33) (.tmp 39) 23 rfl w.heap.size 5 i0 Tryz.underlying23 hi hz0 hz1 hz2 _ (bN.length) (bN.map UInt8.ofNat) rfl (hown.alloc _) _ 1 1 [UInt8.ofNat (n / 32 % 2)] rfl (sl_cell_nat _ _ (n / 32 % 2) (by omega) (cell_new wa _ _ rfl)) (by omega) (by have := hW.size; simp; omega) ?_); intro v1 w1 hown1 hg1)
        have hW1 := (hW.alloc hW.size _).grown hg1 (by have := hW.size; simp; omega) (fun t ht => (hown.lt t ht).1)
        rw [rounds_succ]
        go_wp2_with (at_builtin; go_loud (refine wpList_append_sl rfl (.tmp 33) (.tmp 39) 23 rfl w.heap.size 5 i0 Tryz.underlying23 hi hz0 hz1 hz2 _ (bN.length + 1) (bN.map UInt8.ofNat ++ [UInt8.ofNat (n / 32 % 2)]) rfl (hown1.alloc _) _ 1 1 [UInt8.ofNat (n / 16 % 2)] rfl (sl_cell_nat _ _ (n / 16 % 2) (by omega) (cell_new w1 _ _ rfl)) (by omega) (by have := hW1.size; simp; omega) ?_); intro v2 w2 hown2 hg2)
        have hW2 := (hW1.alloc hW1.size _).grown hg2 (by have := hW1.size; simp; omega) (fun t ht => (hown1.lt t ht).1)
        rw [rounds_succ]
        go_wp2_with (at_builtin; go_loud (refine wpList_append_sl rfl (.tmp 33) (.tmp 39) 23 rfl w.heap.size 5 i0 Tryz.underlying23 hi hz0 hz1 hz2 _ (bN.length + 1 + 1) (bN.map UInt8.ofNat ++ [UInt8.ofNat (n / 32 % 2)] ++ [UInt8.ofNat (n / 16 % 2)]) rfl (hown2.alloc _) _ 1 1 [UInt8.ofNat (n / 8 % 2)] rfl (sl_cell_nat _ _ (n / 8 % 2) (by omega) (cell_new w2 _ _ rfl)) (by omega) (by have := hW2.size; simp; omega) ?_); intro v3 w3 hown3 hg3)
        have hW3 := (hW2.alloc hW2.size _).grown hg3 (by have := hW2.size; simp; omega) (fun t ht => (hown2.lt t ht).1)
        rw [rounds_succ]
        go_wp2_with (at_builtin; go_loud (refine wpList_append_sl rfl (.tmp 33) (.tmp 39) 23 rfl w.heap.size 5 i0 Tryz.underlying23 hi hz0 hz1 hz2 _ (bN.length + 1 + 1 + 1) (bN.map UInt8.ofNat ++ [UInt8.ofNat (n / 32 % 2)] ++ [UInt8.ofNat (n / 16 % 2)] ++ [UInt8.ofNat (n / 8 % 2)]) rfl (hown3.alloc _) _ 1 1 [UInt8.ofNat (n / 4 % 2)] rfl (sl_cell_nat _ _ (n / 4 % 2) (by omega) (cell_new w3 _ _ rfl)) (by omega) (by have := hW3.size; simp; omega) ?_); intro v4 w4 hown4 hg4)
        have hW4 := (hW3.alloc hW3.size _).grown hg4 (by have := hW3.size; simp; omega) (fun t ht => (hown3.lt t ht).1)
        rw [rounds_succ]
        go_wp2_with (at_builtin; go_loud (refine wpList_append_sl rfl (.tmp 33) (.tmp 39) 23 rfl w.heap.size 5 i0 Tryz.underlying23 hi hz0 hz1 hz2 _ (bN.length + 1 + 1 + 1 + 1) (bN.map UInt8.ofNat ++ [UInt8.ofNat (n / 32 % 2)] ++ [UInt8.ofNat (n / 16 % 2)] ++ [UInt8.ofNat (n / 8 % 2)] ++ [UInt8.ofNat (n / 4 % 2)]) rfl (hown4.alloc _) _ 1 1 [UInt8.ofNat (n / 2 % 2)] rfl (sl_cell_nat _ _ (n / 2 % 2) (by omega) (cell_new w4 _ _ rfl)) (by omega) (by have := hW4.size; simp; omega) ?_); intro v5 w5 hown5 hg5)
        have hW5 := (hW4.alloc hW4.size _).grown hg5 (by have := hW4.size; simp; omega) (fun t ht => (hown4.lt t ht).1)
        rw [rounds_succ]
        go_wp2_with (at_builtin; go_loud (refine wpList_append_sl rfl (.tmp 33) (.tmp 39) 23 rfl w.heap.size 5 i0 Tryz.underlying23 hi hz0 hz1 hz2 _ (bN.length + 1 + 1 + 1 + 1 + 1) (bN.map UInt8.ofNat ++ [UInt8.ofNat (n / 32 % 2)] ++ [UInt8.ofNat (n / 16 % 2)] ++ [UInt8.ofNat (n / 8 % 2)] ++ [UInt8.ofNat (n / 4 % 2)] ++ [UInt8.ofNat (n / 2 % 2)]) rfl (hown5.alloc _) _ 1 1 [UInt8.ofNat (n % 2)] rfl (sl_cell_nat _ _ (n % 2) (by omega) (cell_new w5 _ _ rfl)) (by omega) (by have := hW5.size; simp; omega) ?_); intro v6 w6 hown6 hg6)
        have hW6 := (hW5.alloc hW5.size _).grown hg6 (by have := hW5.size; simp; omega) (fun t ht => (hown5.lt t ht).1)
        rw [rounds_succ]
        go_wp2_with fail
        go_roundw
        case rel => exact ⟨j + 1, bN ++ [n / 32 % 2, n / 16 % 2, n / 8 % 2, n / 4 % 2, n / 2 % 2, n % 2], by omega, by go_num, by simpa using hown6, Lib.hid (by have := hN.out; intro x hx; simp at hx; rcases hx with hx | hx | hx | hx | hx | hx | hx <;> first | exact this x hx | omega), HB', by simp; omega, hW6⟩
        case measure => simp [intOf]; omega
    · obtain rfl : j = s.size := by omega
      replace HB := Lib.hid (show bitsOf s.data.toList = bN by rw [HB.out, List.drop_of_length_le (by simp)]; simp [bitsOf])
      go_wp2_with fail
      obtain ⟨m, hm⟩ : ∃ m, m = bN.length := ⟨_, rfl⟩
      have HM := Lib.hid hm
      rw [← hm] at hnl hown
      clear hm
      obtain ⟨ab, cb, rfl, hSb⟩ := Sl.ofOwns hown
      have hown2 : (wa.alloc (.cells #[] 5)).ownsRow wa.heap.size 5 1 (.slice (some ⟨wa.heap.size, 0, none⟩) 0 0) 0 (Lib.byteCells []) := World.ownsRow_lit wa #[] 0 (Nat.le_refl _) (Nat.zero_le _) rfl
      have hW2 : Below wa.heap.size wa (wa.alloc (.cells #[] 5)) := (Below.refl _ _).alloc (Nat.le_refl _) _
      clear hown
      go_loopw [9, 10] (fun out i wq => ∃ j : Nat, 8 * j ≤ m ∧ i = .int .i64 (8 * (j : Int)) ∧ wq.ownsRow wa.heap.size 5 1 out j (Lib.byteCells (packTo bN j)) ∧ Below wa.heap.size wa wq) (fun _ i _ => m + 8 - (intOf i).toNat)
      case atStart => exact ⟨0, by omega, rfl, hown2, hW2⟩
      case round =>
        obtain ⟨wq, rfl⟩ : ∃ wq : World, wq = wr := ⟨_, rfl⟩
        obtain ⟨j, hj, rfl, hownq, hWq⟩ := hrel
        clear hown2 hW2
        by_cases hlt : 8 * j + 8 ≤ m
        · have hlt' : 8 * (j : Int) + 8 ≤ (m : Int) := by omega
          have hSq := Lib.hid (hSb.after hWq)
          go_wp2_with fail
          go_loopw [11, 12] (fun s t wz => ∃ k : Nat, k ≤ 8 ∧ t = .int .i64 k ∧ s = .int .u8 (hor bN (8 * j) k : Nat) ∧ wq = wz) (fun _ t _ => 8 - (intOf t).toNat)
          case atStart => exact ⟨0, by omega, rfl, rfl, rfl⟩
          case round =>
            obtain ⟨k, hk, rfl, rfl, rfl⟩ := hrel
            by_cases hk8 : k < 8
            · obtain ⟨b', o', rfl, hcc⟩ : ∃ b o, ab = some ⟨b, o, none⟩ ∧ ∀ i, i < m → wq.cell? ⟨b, o + i, none⟩ = some (.int .u8 (((bN.map UInt8.ofNat).getD i 0).toNat : Int)) := by
                rcases hSq.out.2.2.2.2 with hc | hc
                · omega
                · exact hc
              have c0 := hcc (8 * j + k) (by omega)
              have hbit : ((bN.map UInt8.ofNat).getD (8 * j + k) 0).toNat = bN.getD (8 * j + k) 0 := map_getD bN hN.out _
              rw [hbit] at c0
              have hgk := hor_lt bN hN.out (8 * j) k
              have hgk2 : hor bN (8 * j) k < 128 := Nat.lt_of_lt_of_le hgk (Nat.pow_le_pow_right (n := 2) (by omega) (show k ≤ 7 by omega))
              have hb := getD_lt bN hN.out (8 * j + k)
              obtain ⟨x, hx⟩ : ∃ x, x = hor bN (8 * j) k := ⟨_, rfl⟩
              obtain ⟨y, hy⟩ : ∃ y, y = bN.getD (8 * j + k) 0 := ⟨_, rfl⟩
              have HG := Lib.hid (show hor bN (8 * j) (k + 1) = 2 * x + y by rw [hx, hy]; rfl)
              rw [← hx]
              rw [← hx] at hgk2
              rw [← hy] at hb c0
              clear hgk hx hy hbit hcc
              go_wp2_with fail
              go_roundw
              case rel => exact ⟨k + 1, by omega, by go_num, by rw [HG.out]; go_num, trivial⟩
              case measure => simp [intOf]; omega
            · obtain rfl : k = 8 := by omega
              have hg : hor bN (8 * j) 8 < 256 := hor_lt bN hN.out (8 * j) 8
              obtain ⟨x, hx⟩ : ∃ x, x = hor bN (8 * j) 8 := ⟨_, rfl⟩
              have HX := Lib.hid (show packTo bN (j + 1) = packTo bN j ++ [UInt8.ofNat x] by rw [hx, packTo_succ])
              rw [← hx]
              rw [← hx] at hg
              clear hx
              go_wp2_with (at_builtin; go_loud (refine wpList_append_sl rfl (.tmp 62) (.tmp 64) 23 rfl wa.heap.size 5 i0 Tryz.underlying23 hi hz0 hz1 hz2 _ j (packTo bN j) rfl (hownq.alloc _) _ 1 1 [UInt8.ofNat x] rfl (sl_cell_nat _ _ x hg (cell_new _ _ _ rfl)) (by omega) (by have := hWq.size; simp; omega) ?_); intro v1 w1 hown1 hg1)
              have hW1 := (hWq.alloc hWq.size _).grown hg1 (by have := hWq.size; simp; omega) (fun t ht => (hownq.lt t ht).1)
              rw [← HX.out] at hown1
              go_wp2_with fail
              go_roundw
              case rel => exact ⟨j + 1, by omega, by go_num, hown1, hW1⟩
              case measure => simp [intOf]; omega
        · have hlt' : (m : Int) < 8 * (j : Int) + 8 := by omega
          obtain rfl : j = m / 8 := by omega
          have HP := Lib.hid (packTo_all bN)
          rw [← HM.out] at HP
          obtain ⟨X, hX⟩ : ∃ X, X = packTo bN (m / 8) := ⟨_, rfl⟩
          rw [← hX] at hownq HP
          obtain ⟨jj, hjj⟩ : ∃ jj, jj = m / 8 := ⟨_, rfl⟩
          rw [← hjj] at hownq
          have hjl : X.length ≤ 1000000 := by
            have := hownq.1
            simp [Lib.byteCells] at this
            omega
          clear hX hjj
          obtain ⟨aq, cq, rfl, hSq⟩ := Sl.ofOwns hownq
          have HOWN : Hid (∀ n, InB (fun k => w.heap.size ≤ k) aq n) := Lib.hid (fun n => .inr (fun b o s e => Nat.le_trans hW.size (hownq.lt b (by rw [e]; rfl)).1))
          have hWW := hW.trans (hWq.mono hW.size)
          go_wp2_with fail
          refine (refB64_any _ _ _ _ _ hSq hjl).mono ?_
          rintro e wz ⟨rfl, hbz⟩
          have hWz := hWW.trans (hbz.mono hWW.size)
          by_cases hq : b64 X = s.toList
          · have HR2 := Lib.hid (show R = some X by rw [HR.out, unb64_both, HB.out, ← HP.out, if_pos (by rw [hq]; exact HSL.out)])
            go_wp2_with fail
            go_ret2
            exact ⟨aq, _, cq, by rw [HR2.out]; rfl, by rw [HR2.out]; exact hSq.after hbz, HOWN.out _, hWz⟩
          · have HR2 := Lib.hid (show R = none by rw [HR.out, unb64_both, HB.out, ← HP.out, if_neg (by intro hh; exact hq (hh.trans HSL.out.symm))])
            replace hq : (b64 X == s.toList) = false := by simpa using hq
            go_wp2_with fail
            go_ret2
            exact ⟨_, 0, 0, by rw [HR2.out]; rfl, by rw [HR2.out]; exact hempty _, .inl rfl, hWz.alloc hWz.size _⟩
end Go.Proofs.YtkbblhioncecmaaGreatDoor
namespace Go.Proofs.YtkbblhioncecmaaGreatDoor
open Go.RowKit
set_option linter.unusedSimpArgs false
set_option linter.unusedVariables false

theorem box_result_tc {P : Program} {fn : Func} {p q : Tmp} {ty : TypeId} (h : fn.results = #[.tmp q, .cell p ty]) (tmps : Array Value) (w : World) {g : Nat} {T : TypeId} {cs : Array Value} {d : TypeDesc}
    (hp : tmps.getD p undef = .pointer (some ⟨g, 0, none⟩)) (hg : Box w g T cs) (hu : P.underlying ty = some d) (hd : (match d with | .struct _ | .array _ _ => true | _ => false) = true) (hi : (P.info? ty).map (·.size) = some cs.size) :
    (results fn tmps).run P w = .ok (.tuple #[tmps.getD q undef, .agg cs]) w := by
  have hp' : tmps[p]?.getD undef = .pointer (some ⟨g, 0, none⟩) := by simpa using hp
  simp [results, h, hp', asAddr, run_loadVar_row w g T ty cs (0, 0) d hg hu hd hi]
/-- signs that were gathered are handed back -/
def SomeP (r : BR) (w : World) (e : Ending) (w' : World) : Prop :=
  ∃ t : ByteArray, e = .returned (.tuple #[.string t, .agg #[.slice none 0 0, .int .i64 r.p, .int .i64 r.e]]) ∧ t.data.toList = r.b ∧ Below w.heap.size w w'
theorem sp_err {r : BR} {p e : Nat} (h : r = BR.err p e) {w w' : World} (hb : Below w.heap.size w w') : SomeP r w (.returned (.tuple #[.string ⟨#[]⟩, .agg #[.slice none 0 0, .int .i64 p, .int .i64 e]])) w' := by
  subst h
  exact ⟨_, rfl, rfl, hb⟩
theorem sp_ok {r : BR} {l : List UInt8} {p : Nat} (h : r = ⟨l, p, 0⟩) {w w' : World} (hb : Below w.heap.size w w') : SomeP r w (.returned (.tuple #[.string ⟨l.toArray⟩, .agg #[.slice none 0 0, .int .i64 p, .int .i64 0]])) w' := by
  subst h
  exact ⟨_, rfl, by simp, hb⟩
set_option maxHeartbeats 16000000 in
set_option maxRecDepth 100000 in
theorem rsome64_any (en : UInt8) (s : ByteArray) (p : Nat) (w : World) (hs : s.size ≤ 100000) (hp : p ≤ s.size) : Calls Tryz.prog 29 #[.string s, .int .i64 p, .int .i64 64, .int .u8 (en.toNat : Int)] w (SomeP (nSome b64C en (s.data.toList.drop p) p) w) := by
  obtain ⟨R, hR⟩ : ∃ R, R = nSome b64C en (s.data.toList.drop p) p := ⟨_, rfl⟩
  rw [← hR]
  have HR := Lib.hid hR
  have HL : Hid (s.data.toList.length = s.size) := Lib.hid (by simp)
  clear hR
  have B0 : Below w.heap.size w (w.alloc (.cells #[.slice none 0 0, .int .i64 0, .int .i64 0] 42)) := (Below.refl _ _).alloc (Nat.le_refl _) _
  have X0 := Lib.hid (Box.new w 42 #[.slice none 0 0, .int .i64 0, .int .i64 0])
  have hz0 : w.heap.size < (w.alloc (.cells #[.slice none 0 0, .int .i64 0, .int .i64 0] 42)).heap.size := X0.out.lt
  go_enter Tryz.func29, Tryz.ntmps29
  go_upto_region 1 with fail
  change Code.wp _ _ _ _ (w.alloc (.cells #[.slice none 0 0, .int .i64 0, .int .i64 0] 42))
  generalize (w.alloc (.cells #[.slice none 0 0, .int .i64 0, .int .i64 0] 42)) = v0 at *
  have B1 : Below w.heap.size w (v0.alloc (.cells #[] 5)) := B0.alloc B0.size _
  have X1 := Lib.hid (X0.out.alloc (.cells #[] 5))
  have O1 := Lib.hid (OwnB.empty v0 (w.heap.size + 1) (by omega))
  have hz1 : w.heap.size + 1 ≤ (v0.alloc (.cells #[] 5)).heap.size := X1.out.lt
  have Z0 := Lib.hid hz0
  clear hz0 X0
  go_wp2_with fail
  go_loopw [1, 10] (fun at' out wr => ∃ (k : Nat) (d : List UInt8), k ≤ s.size ∧ d.length ≤ k ∧ at' = .int .i64 k ∧ Hid (R = (nSome b64C en (s.data.toList.drop k) k).pre d) ∧ Hid (Box wr w.heap.size 42 #[.slice none 0 0, .int .i64 0, .int .i64 0]) ∧ Hid (OwnB wr (w.heap.size + 1) out d) ∧ Below w.heap.size w wr) (fun at' _ _ => s.size + 1 - (intOf at').toNat)
  case atStart => exact ⟨p, [], hp, Nat.zero_le _, rfl, Lib.hid (by rw [HR.out, pre_nil]), X1, O1, B1⟩
  case round =>
    obtain ⟨wa, rfl⟩ : ∃ wa : World, wa = wr := ⟨_, rfl⟩
    obtain ⟨k, d, hk, hd, rfl, HRK, X, O, B⟩ := hrel
    have HB : Hid (w.heap.size + 1 ≤ wa.heap.size) := Lib.hid X.out.lt
    have BB := Lib.hid B
    clear X1 O1 B1 B0 Z0 HR hz1 B
    by_cases hlt : k < s.size
    case neg =>
      have hge : ¬ (k : Int) < (s.size : Int) := by omega
      have HE : Hid (R = BR.err s.size 2) := Lib.hid (by rw [HRK.out, nSome_end (by have := HL.out; omega), show k = s.size by omega]; rfl)
      clear HRK hlt
      go_wp2_with (refine wpList_store_box (cells := #[.slice none 0 0, .int .i64 s.size, .int .i64 2]) rfl 42 _ _ rfl X.out (by rfl) (by rfl) rfl (by kernel_rfl) (by simp [Value.oneCell']) ?_; intro u9 X9 st9)
      have B9 := st9.below w.heap.size w (Nat.le_refl _) BB.out
      exact bodyPost_ret (v := .tuple #[.string ⟨#[]⟩, .agg #[.slice none 0 0, .int .i64 s.size, .int .i64 2]]) (box_result_tc (p := 9) (q := 8) rfl _ _ (by rfl) X9 Tryz.underlying42 rfl (by kernel_rfl)) rfl (sp_err HE.out B9)
    have hk0 : (0 : Int) ≤ k := by omega
    have hk1 : (k : Int) < s.size := by omega
    obtain ⟨c, hc, hc1, hc2⟩ := at_byte s k hlt
    have HST := Lib.hid (nSome_step (good := b64C) (en := en) (l := s.data.toList) (k := k) (by rw [HL.out]; exact hlt))
    rw [hc1.out] at HST
    clear hc1 hc2
    by_cases he : c = en
    case pos =>
      subst he
      have e1 : ((c.toNat : Int) == (c.toNat : Int)) = true := by simp
      have HE : Hid (R = ⟨d, k, 0⟩) := Lib.hid (by rw [HRK.out, HST.out, if_pos rfl]; simp [BR.pre])
      clear HRK HST
      obtain ⟨a1, n1, c1, rfl, sl1, in1⟩ := OwnB.parts O.out
      have q1 := conv_sl sl1
      clear O sl1 in1
      go_wp2_with (refine wpList_store_box (cells := #[.slice none 0 0, .int .i64 k, .int .i64 0]) rfl 42 _ _ rfl X.out (by rfl) (by rfl) rfl (by kernel_rfl) (by simp [Value.oneCell']) ?_; intro u9 X9 st9)
      have B9 := st9.below w.heap.size w (Nat.le_refl _) BB.out
      exact bodyPost_ret (v := .tuple #[.string ⟨d.toArray⟩, .agg #[.slice none 0 0, .int .i64 k, .int .i64 0]]) (box_result_tc (p := 9) (q := 8) rfl _ _ (by rfl) X9 Tryz.underlying42 rfl (by kernel_rfl)) rfl (sp_ok HE.out B9)
    obtain ⟨z1, z2⟩ := byteNe he
    have HNE := Lib.hid he
    clear he
    by_cases hle : letterB c = true
    case pos =>
      have HGG : b64C c = true := by unfold b64C; simp [hle]
      have HLE := Lib.hid hle
      clear hle
      have HG : Hid (b64C c = true) := Lib.hid HGG
      have HT : Hid (R = (nSome b64C en (s.data.toList.drop (k + 1)) (k + 1)).pre (d ++ [c])) := Lib.hid (by rw [HRK.out, HST.out, if_neg HNE.out, HG.out]; simp [pre_pre])
      clear HRK HST HGG
      go_wp2_with fail
      refine (refValue_any_XOctRefHex c _).mono ?_
      rintro e w1 ⟨rfl, rfl⟩
      go_wp2_with fail
      refine (rletter_any c _).mono ?_
      unfold BitP
      rintro e w1 ⟨rfl, rfl⟩
      rw [HLE.out]
      go_wp2_with (refine wpList_append_B rfl _ _ rfl (l := d) rfl (OwnG.alloc O.out _) (l2 := [c]) rfl (sl_cell1 _ c _ rfl) (by simp; omega) (by have := HB.out; simp; omega) ?_; intro v5 w5 ho5 hg5)
      have X5 := Lib.hid ((X.out.alloc _).grown hg5 (fun j hj => by have := O.out.lt j hj; omega))
      have B5 := (BB.out.alloc (by have := HB.out; omega) _).grown hg5 (by have := HB.out; simp; omega) (fun j hj => by have := O.out.lt _ hj; omega)
      have O5 := Lib.hid ho5
      clear ho5 hg5 X O BB
      go_wp2_with fail
      go_roundw
      case rel => exact ⟨k + 1, d ++ [c], by omega, by simp; omega, by go_num, HT, X5, O5, B5⟩
      case measure => simp [intOf]; omega
    have HLE : Hid (letterB c = false) := Lib.hid (by simpa using hle)
    clear hle
    by_cases hnu : numB c = true
    case pos =>
      have HGG : b64C c = true := by unfold b64C; simp [hnu]
      have HNU := Lib.hid hnu
      clear hnu
      have HG : Hid (b64C c = true) := Lib.hid HGG
      have HT : Hid (R = (nSome b64C en (s.data.toList.drop (k + 1)) (k + 1)).pre (d ++ [c])) := Lib.hid (by rw [HRK.out, HST.out, if_neg HNE.out, HG.out]; simp [pre_pre])
      clear HRK HST HGG
      go_wp2_with fail
      refine (refValue_any_XOctRefHex c _).mono ?_
      rintro e w1 ⟨rfl, rfl⟩
      go_wp2_with fail
      refine (rletter_any c _).mono ?_
      unfold BitP
      rintro e w1 ⟨rfl, rfl⟩
      rw [HLE.out]
      go_wp2_with fail
      refine (rnumber_any c _).mono ?_
      unfold BitP
      rintro e w1 ⟨rfl, rfl⟩
      rw [HNU.out]
      go_wp2_with (refine wpList_append_B rfl _ _ rfl (l := d) rfl (OwnG.alloc O.out _) (l2 := [c]) rfl (sl_cell1 _ c _ rfl) (by simp; omega) (by have := HB.out; simp; omega) ?_; intro v5 w5 ho5 hg5)
      have X5 := Lib.hid ((X.out.alloc _).grown hg5 (fun j hj => by have := O.out.lt j hj; omega))
      have B5 := (BB.out.alloc (by have := HB.out; omega) _).grown hg5 (by have := HB.out; simp; omega) (fun j hj => by have := O.out.lt _ hj; omega)
      have O5 := Lib.hid ho5
      clear ho5 hg5 X O BB
      go_wp2_with fail
      go_roundw
      case rel => exact ⟨k + 1, d ++ [c], by omega, by simp; omega, by go_num, HT, X5, O5, B5⟩
      case measure => simp [intOf]; omega
    have HNU : Hid (numB c = false) := Lib.hid (by simpa using hnu)
    clear hnu
    by_cases h43 : c.toNat = 43
    case pos =>
      have HGG : b64C c = true := by obtain rfl : c = 43 := UInt8.toNat_inj.1 h43; rfl
      obtain ⟨y1, y2, y3⟩ := bEq 43 43 rfl h43
      clear h43 y3
      have HG : Hid (b64C c = true) := Lib.hid HGG
      have HT : Hid (R = (nSome b64C en (s.data.toList.drop (k + 1)) (k + 1)).pre (d ++ [c])) := Lib.hid (by rw [HRK.out, HST.out, if_neg HNE.out, HG.out]; simp [pre_pre])
      clear HRK HST HGG
      go_wp2_with fail
      refine (refValue_any_XOctRefHex c _).mono ?_
      rintro e w1 ⟨rfl, rfl⟩
      go_wp2_with fail
      refine (rletter_any c _).mono ?_
      unfold BitP
      rintro e w1 ⟨rfl, rfl⟩
      rw [HLE.out]
      go_wp2_with fail
      refine (rnumber_any c _).mono ?_
      unfold BitP
      rintro e w1 ⟨rfl, rfl⟩
      rw [HNU.out]
      go_wp2_with (refine wpList_append_B rfl _ _ rfl (l := d) rfl (OwnG.alloc O.out _) (l2 := [c]) rfl (sl_cell1 _ c _ rfl) (by simp; omega) (by have := HB.out; simp; omega) ?_; intro v5 w5 ho5 hg5)
      have X5 := Lib.hid ((X.out.alloc _).grown hg5 (fun j hj => by have := O.out.lt j hj; omega))
      have B5 := (BB.out.alloc (by have := HB.out; omega) _).grown hg5 (by have := HB.out; simp; omega) (fun j hj => by have := O.out.lt _ hj; omega)
      have O5 := Lib.hid ho5
      clear ho5 hg5 X O BB
      go_wp2_with fail
      go_roundw
      case rel => exact ⟨k + 1, d ++ [c], by omega, by simp; omega, by go_num, HT, X5, O5, B5⟩
      case measure => simp [intOf]; omega
    obtain ⟨y43, yy43, yyy43⟩ := bNe 43 43 rfl h43
    have n43 : Hid (c ≠ 43) := Lib.hid (fun e => h43 (by rw [e]; rfl))
    clear h43 yyy43
    by_cases h47 : c.toNat = 47
    case pos =>
      have HGG : b64C c = true := by obtain rfl : c = 47 := UInt8.toNat_inj.1 h47; rfl
      obtain ⟨y1, y2, y3⟩ := bEq 47 47 rfl h47
      clear h47 y3
      have HG : Hid (b64C c = true) := Lib.hid HGG
      have HT : Hid (R = (nSome b64C en (s.data.toList.drop (k + 1)) (k + 1)).pre (d ++ [c])) := Lib.hid (by rw [HRK.out, HST.out, if_neg HNE.out, HG.out]; simp [pre_pre])
      clear HRK HST HGG
      go_wp2_with fail
      refine (refValue_any_XOctRefHex c _).mono ?_
      rintro e w1 ⟨rfl, rfl⟩
      go_wp2_with fail
      refine (rletter_any c _).mono ?_
      unfold BitP
      rintro e w1 ⟨rfl, rfl⟩
      rw [HLE.out]
      go_wp2_with fail
      refine (rnumber_any c _).mono ?_
      unfold BitP
      rintro e w1 ⟨rfl, rfl⟩
      rw [HNU.out]
      go_wp2_with (refine wpList_append_B rfl _ _ rfl (l := d) rfl (OwnG.alloc O.out _) (l2 := [c]) rfl (sl_cell1 _ c _ rfl) (by simp; omega) (by have := HB.out; simp; omega) ?_; intro v5 w5 ho5 hg5)
      have X5 := Lib.hid ((X.out.alloc _).grown hg5 (fun j hj => by have := O.out.lt j hj; omega))
      have B5 := (BB.out.alloc (by have := HB.out; omega) _).grown hg5 (by have := HB.out; simp; omega) (fun j hj => by have := O.out.lt _ hj; omega)
      have O5 := Lib.hid ho5
      clear ho5 hg5 X O BB
      go_wp2_with fail
      go_roundw
      case rel => exact ⟨k + 1, d ++ [c], by omega, by simp; omega, by go_num, HT, X5, O5, B5⟩
      case measure => simp [intOf]; omega
    obtain ⟨y47, yy47, yyy47⟩ := bNe 47 47 rfl h47
    have n47 : Hid (c ≠ 47) := Lib.hid (fun e => h47 (by rw [e]; rfl))
    clear h47 yyy47
    by_cases h61 : c.toNat = 61
    case pos =>
      have HGG : b64C c = true := by obtain rfl : c = 61 := UInt8.toNat_inj.1 h61; rfl
      obtain ⟨y1, y2, y3⟩ := bEq 61 61 rfl h61
      clear h61 y3
      have HG : Hid (b64C c = true) := Lib.hid HGG
      have HT : Hid (R = (nSome b64C en (s.data.toList.drop (k + 1)) (k + 1)).pre (d ++ [c])) := Lib.hid (by rw [HRK.out, HST.out, if_neg HNE.out, HG.out]; simp [pre_pre])
      clear HRK HST HGG
      go_wp2_with fail
      refine (refValue_any_XOctRefHex c _).mono ?_
      rintro e w1 ⟨rfl, rfl⟩
      go_wp2_with fail
      refine (rletter_any c _).mono ?_
      unfold BitP
      rintro e w1 ⟨rfl, rfl⟩
      rw [HLE.out]
      go_wp2_with fail
      refine (rnumber_any c _).mono ?_
      unfold BitP
      rintro e w1 ⟨rfl, rfl⟩
      rw [HNU.out]
      go_wp2_with (refine wpList_append_B rfl _ _ rfl (l := d) rfl (OwnG.alloc O.out _) (l2 := [c]) rfl (sl_cell1 _ c _ rfl) (by simp; omega) (by have := HB.out; simp; omega) ?_; intro v5 w5 ho5 hg5)
      have X5 := Lib.hid ((X.out.alloc _).grown hg5 (fun j hj => by have := O.out.lt j hj; omega))
      have B5 := (BB.out.alloc (by have := HB.out; omega) _).grown hg5 (by have := HB.out; simp; omega) (fun j hj => by have := O.out.lt _ hj; omega)
      have O5 := Lib.hid ho5
      clear ho5 hg5 X O BB
      go_wp2_with fail
      go_roundw
      case rel => exact ⟨k + 1, d ++ [c], by omega, by simp; omega, by go_num, HT, X5, O5, B5⟩
      case measure => simp [intOf]; omega
    obtain ⟨y61, yy61, yyy61⟩ := bNe 61 61 rfl h61
    have n61 : Hid (c ≠ 61) := Lib.hid (fun e => h61 (by rw [e]; rfl))
    clear h61 yyy61
    have HGG : b64C c = false := by unfold b64C; simp [HLE.out, HNU.out, n43.out, n47.out, n61.out]
    clear n43 n47 n61
    cases hb : blankB c with
    | true =>
      have HB1 := Lib.hid hb
      have HT : Hid (R = (nSome b64C en (s.data.toList.drop (k + 1)) (k + 1)).pre d) := Lib.hid (by rw [HRK.out, HST.out, if_neg HNE.out, HGG, hb]; simp [pre_nil])
      clear HRK HST HGG hb
      go_wp2_with fail
      refine (refValue_any_XOctRefHex c _).mono ?_
      rintro e w1 ⟨rfl, rfl⟩
      go_wp2_with fail
      refine (rletter_any c _).mono ?_
      unfold BitP
      rintro e w1 ⟨rfl, rfl⟩
      rw [HLE.out]
      go_wp2_with fail
      refine (rnumber_any c _).mono ?_
      unfold BitP
      rintro e w1 ⟨rfl, rfl⟩
      rw [HNU.out]
      go_wp2_with fail
      refine (rblank_any c _).mono ?_
      unfold BitP
      rintro e w1 ⟨rfl, rfl⟩
      rw [HB1.out]
      go_wp2_with fail
      go_roundw
      case rel => exact ⟨k + 1, d, by omega, by omega, by go_num, HT, X, O, BB.out⟩
      case measure => simp [intOf]; omega
    | false =>
      have HB1 := Lib.hid hb
      have HE : Hid (R = BR.err k 3) := Lib.hid (by rw [HRK.out, HST.out, if_neg HNE.out, HGG, hb]; rfl)
      clear HRK HST HGG hb
      go_wp2_with fail
      refine (refValue_any_XOctRefHex c _).mono ?_
      rintro e w1 ⟨rfl, rfl⟩
      go_wp2_with fail
      refine (rletter_any c _).mono ?_
      unfold BitP
      rintro e w1 ⟨rfl, rfl⟩
      rw [HLE.out]
      go_wp2_with fail
      refine (rnumber_any c _).mono ?_
      unfold BitP
      rintro e w1 ⟨rfl, rfl⟩
      rw [HNU.out]
      go_wp2_with fail
      refine (rblank_any c _).mono ?_
      unfold BitP
      rintro e w1 ⟨rfl, rfl⟩
      rw [HB1.out]
      go_wp2_with (refine wpList_store_box (cells := #[.slice none 0 0, .int .i64 k, .int .i64 3]) rfl 42 _ _ rfl X.out (by rfl) (by rfl) rfl (by kernel_rfl) (by simp [Value.oneCell']) ?_; intro u9 X9 st9)
      have B9 := st9.below w.heap.size w (Nat.le_refl _) BB.out
      exact bodyPost_ret (v := .tuple #[.string ⟨#[]⟩, .agg #[.slice none 0 0, .int .i64 k, .int .i64 3]]) (box_result_tc (p := 9) (q := 8) rfl _ _ (by rfl) X9 Tryz.underlying42 rfl (by kernel_rfl)) rfl (sp_err HE.out B9)
end Go.Proofs.YtkbblhioncecmaaGreatDoor
namespace Go.Proofs.YtkbblhioncecmaaGreatDoor
open Go.RowKit
set_option linter.unusedSimpArgs false
set_option linter.unusedVariables false

set_option maxHeartbeats 8000000 in
set_option maxRecDepth 100000 in
theorem rbase64_any (en : UInt8) (s : ByteArray) (p : Nat) (w : World) (hs : s.size ≤ 100000) (hp : p ≤ s.size) : Calls Tryz.prog 13 #[.string s, .int .i64 p, .int .u8 (en.toNat : Int)] w (BPost (nB64 s.data.toList p en) w) := by
  obtain ⟨R, hR⟩ : ∃ R, R = nB64 s.data.toList p en := ⟨_, rfl⟩
  rw [← hR]
  have hlen := nSome_len b64C en (s.data.toList.drop p) p
  obtain ⟨x, hx⟩ : ∃ x, x = nSome b64C en (s.data.toList.drop p) p := ⟨_, rfl⟩
  have HR : Hid (R = if x.e ≠ 0 then BR.err x.p x.e else match unb64 x.b with | some b => ⟨b, x.p + 1, 0⟩ | none => BR.err x.p 3) := Lib.hid (by rw [hR]; unfold nB64; rw [← hx]; rfl)
  have CS : ∀ w', Calls Tryz.prog 29 #[.string s, .int .i64 p, .int .i64 64, .int .u8 (en.toNat : Int)] w' (SomeP x w') := fun w' => by rw [hx]; exact rsome64_any en s p w' hs hp
  replace CS := Lib.hid CS
  rw [← hx] at hlen
  simp only [List.length_drop, Array.length_toList] at hlen
  have hxb : x.b.length ≤ 100000 := by have : s.data.size = s.size := rfl; omega
  have hxp : x.p ≤ 100000 := by have : s.data.size = s.size := rfl; omega
  clear hR hx hlen
  obtain ⟨xb, xp, xe⟩ := x
  dsimp only at HR hxb hxp
  have B0 : Below w.heap.size w (w.alloc (.cells #[.slice none 0 0, .int .i64 0, .int .i64 0] 42)) := (Below.refl _ _).alloc (Nat.le_refl _) _
  have X0 := Lib.hid (Box.new w 42 #[.slice none 0 0, .int .i64 0, .int .i64 0])
  go_enter Tryz.func13, Tryz.ntmps13
  go_upto_region 1 with fail
  change Code.wp _ _ _ _ (w.alloc (.cells #[.slice none 0 0, .int .i64 0, .int .i64 0] 42))
  generalize (w.alloc (.cells #[.slice none 0 0, .int .i64 0, .int .i64 0] 42)) = v0 at *
  go_wp2_with fail
  refine (CS.out _).mono ?_
  rintro e w1 ⟨t, rfl, ht, b1⟩
  dsimp only at ht ⊢
  have X1 := Lib.hid (X0.out.after b1)
  have B1 := B0.trans (b1.mono B0.size)
  have HT := Lib.hid ht
  have hts : t.size ≤ 100000 := by have h : t.data.toList.length ≤ 100000 := by rw [ht]; exact hxb
                                   simpa using h
  clear ht b1 CS X0 B0
  go_upto_region 2 with (refine wpList_store_box (cells := #[.slice none 0 0, .int .i64 xp, .int .i64 xe]) rfl 42 _ _ rfl (Box.new _ _ _) (by rfl) (by rfl) rfl (by kernel_rfl) (by simp [Value.oneCell']) ?_; intro u2 Z2 st2)
  have hx1 := X1.out.lt
  have B2 := st2.below w.heap.size w B1.size (B1.alloc B1.size _)
  have X2 := Lib.hid (st2.box (X1.out.alloc _) (Nat.ne_of_lt hx1))
  have hz1 := Z2.lt
  have e2 := Z2.cell 2 rfl
  have e1 := Z2.cell 1 rfl
  have Z := Lib.hid Z2
  clear Z2 st2 B1 X1
  generalize w1.heap.size = g2 at *
  by_cases he : xe = 0
  case neg =>
    obtain ⟨z1, z2⟩ := nat_ne he
    have HE : Hid (R = BR.err xp xe) := Lib.hid (by rw [HR.out, if_pos he])
    clear HR
    go_wp2_with first | (refine wpList_load_box rfl 42 _ rfl Z.out (by rfl) Tryz.underlying42 rfl (by kernel_rfl) ?_) | (refine wpList_store_box (cells := #[.slice none 0 0, .int .i64 xp, .int .i64 xe]) rfl 42 _ _ rfl X2.out (by rfl) (by rfl) rfl (by kernel_rfl) (by simp [Value.oneCell']) ?_; intro u9 X9 st9)
    have B9 := st9.below w.heap.size w (Nat.le_refl _) B2
    exact bodyPost_ret (v := .agg #[.slice none 0 0, .int .i64 xp, .int .i64 xe]) (box_result rfl _ _ (by rfl) X9 Tryz.underlying42 rfl (by kernel_rfl)) rfl (bp_err HE.out B9)
  subst he
  have HR2 : Hid (R = match unb64 xb with | some b => ⟨b, xp + 1, 0⟩ | none => BR.err xp 3) := Lib.hid (by rw [HR.out]; simp)
  clear HR
  go_wp2_with fail
  refine (refUnbO_any t u2 hts).mono ?_
  rw [HT.out]
  cases hu : unb64 xb with
  | none =>
    rintro e w3 ⟨a, n, c, rfl, hs3, hi3, b3⟩
    have HE : Hid (R = BR.err xp 3) := Lib.hid (by rw [HR2.out, hu])
    have X3 := Lib.hid (X2.out.after b3)
    have B3 := B2.trans (b3.mono B2.size)
    have e3 := (Z.out.after b3).cell 1 rfl
    clear hs3 hi3 b3 HR2 hu X2 B2 Z e1 e2
    go_wp2_with (refine wpList_store_box (cells := #[.slice none 0 0, .int .i64 xp, .int .i64 3]) rfl 42 _ _ rfl X3.out (by rfl) (by rfl) rfl (by kernel_rfl) (by simp [Value.oneCell']) ?_; intro u9 X9 st9)
    have B9 := st9.below w.heap.size w (Nat.le_refl _) B3
    exact bodyPost_ret (v := .agg #[.slice none 0 0, .int .i64 xp, .int .i64 3]) (box_result rfl _ _ (by rfl) X9 Tryz.underlying42 rfl (by kernel_rfl)) rfl (bp_err HE.out B9)
  | some b =>
    rintro e w3 ⟨a, n, c, rfl, hs3, hi3, b3⟩
    have HE : Hid (R = ⟨b, xp + 1, 0⟩) := Lib.hid (by rw [HR2.out, hu])
    have X3 := Lib.hid (X2.out.after b3)
    have B3 := B2.trans (b3.mono B2.size)
    have e3 := (Z.out.after b3).cell 1 rfl
    have HS3 := Lib.hid hs3
    have HI3 := Lib.hid hi3
    have HZ := Lib.hid X2.out.lt
    clear hs3 hi3 b3 HR2 hu X2 B2 Z e1 e2
    go_wp2_with (refine wpList_store_box (cells := #[.slice a n c, .int .i64 ((xp : Int) + 1), .int .i64 0]) rfl 42 _ _ rfl X3.out (by rfl) (by rfl) rfl (by kernel_rfl) (by simp [Value.oneCell']) ?_; intro u9 X9 st9)
    have B9 := st9.below w.heap.size w (Nat.le_refl _) B3
    exact bodyPost_ret (v := .agg #[.slice a n c, .int .i64 ((xp : Int) + 1), .int .i64 0]) (box_result rfl _ _ (by rfl) X9 Tryz.underlying42 rfl (by kernel_rfl)) rfl (bp_ok HE.out (by omega) (HS3.out.keepSt HI3.out st9 HZ.out) (HI3.out.mono (fun k hk => Nat.le_trans (Nat.le_of_lt HZ.out) hk)) B9)

end Go.Proofs.YtkbblhioncecmaaGreatDoor
namespace Go.Proofs.YtkbblhioncecmaaGreatDoor
open Go.RowKit
set_option linter.unusedSimpArgs false
set_option linter.unusedVariables false

end Go.Proofs.YtkbblhioncecmaaGreatDoor
namespace Go.Proofs.YtkbblhioncecmaaGreatDoor
open Go.RowKit
set_option linter.unusedSimpArgs false
set_option linter.unusedVariables false

end Go.Proofs.YtkbblhioncecmaaGreatDoor
namespace Go.Proofs.YtkbblhioncecmaaGreatDoor
open Go.RowKit
set_option linter.unusedSimpArgs false
set_option linter.unusedVariables false

/-- a reading's outcome is handed back -/
def RN (l : List UInt8) (p lv m : Nat) (w : World) (e : Ending) (w' : World) : Prop := ∃ r, Nt l none p lv m r ∧ RP (fun _ => False) r w e w'
theorem RN.of {l : List UInt8} {p lv m : Nat} {r : RV} {w : World} {e : Ending} {w' : World} (h : Nt l none p lv m r) (h' : RP (fun _ => False) r w e w') : RN l p lv m w e w' := ⟨r, h, h'⟩
end Go.Proofs.YtkbblhioncecmaaGreatDoor
namespace Go.Proofs.YtkbblhioncecmaaGreatDoor
open Go.RowKit
set_option linter.unusedSimpArgs false
set_option linter.unusedVariables false

/-- what is told of what was read -/
def EndC (l : List UInt8) (r : RV) (sx : Sx) (p e : Nat) : Prop :=
  (r.e ≠ 0 ∧ sx = Sx.nil ∧ p = r.p ∧ e = r.e) ∨ (r.e = 0 ∧ skipN l r.p < l.length ∧ sx = Sx.nil ∧ p = skipN l r.p ∧ e = 5) ∨
    (r.e = 0 ∧ l.length ≤ skipN l r.p ∧ r.v.may = false ∧ sx = Sx.nil ∧ p = l.length ∧ e = 4) ∨ (r.e = 0 ∧ l.length ≤ skipN l r.p ∧ r.v.may = true ∧ sx = r.v ∧ p = 0 ∧ e = 0)
def EndP (ok : Nat → Prop) (l : List UInt8) (r : RV) (w : World) (e : Ending) (w' : World) : Prop :=
  ∃ (v : SV) (s : Sx) (p x : Nat), EndC l r s p x ∧ e = .returned (.tuple #[.agg #[.bool v.l, .bool v.h, .slice v.a1 v.n1 v.c1, .slice v.a2 v.n2 v.c2, .slice v.a3 v.n3 v.c3], .int .i64 p, .int .i64 x]) ∧ RdI ok w' v s ∧ Below w.heap.size w w'
set_option maxHeartbeats 8000000 in
set_option maxRecDepth 100000 in
theorem rended_any (ok : Nat → Prop) (s : ByteArray) (hs : s.size ≤ 100000) (v : SV) (r : RV) (w : World) (hr : RdI ok w v r.v) (hok : ∀ k, ok k → k < w.heap.size) (hp : r.e = 0 → r.p ≤ s.size) (hb : r.e = 0 → r.v.nodes ≤ 1000000 ∧ r.v.deep ≤ 1000000 ∧ r.v.form.length ≤ 1000000000000) :
    Calls Tryz.prog 15 #[.string s, .agg #[.bool v.l, .bool v.h, .slice v.a1 v.n1 v.c1, .slice v.a2 v.n2 v.c2, .slice v.a3 v.n3 v.c3, .int .i64 r.p, .int .i64 r.n, .int .i64 r.e]] w (EndP ok s.data.toList r w) := by
  have HL : Hid (s.data.toList.length = s.size) := Lib.hid (by simp)
  have HRD := Lib.hid hr
  have HP := Lib.hid hp
  have HBD := Lib.hid hb
  have HOK := Lib.hid hok
  obtain ⟨vl, vh, a1, n1, c1, a2, n2, c2, a3, n3, c3⟩ := v
  obtain ⟨rv, rp, rn, re⟩ := r
  dsimp only at HRD HP HBD ⊢
  clear hr hp hb hok
  have B0 : Below w.heap.size w ((w.alloc (.cells #[.bool vl, .bool vh, .slice a1 n1 c1, .slice a2 n2 c2, .slice a3 n3 c3, .int .i64 rp, .int .i64 rn, .int .i64 re] 47)).alloc (.cells #[.bool false, .bool false, .slice none 0 0, .slice none 0 0, .slice none 0 0] 26)) := ((Below.refl _ _).alloc (Nat.le_refl _) _).alloc (by simp) _
  have Z0 : Hid (Box ((w.alloc (.cells #[.bool vl, .bool vh, .slice a1 n1 c1, .slice a2 n2 c2, .slice a3 n3 c3, .int .i64 rp, .int .i64 rn, .int .i64 re] 47)).alloc (.cells #[.bool false, .bool false, .slice none 0 0, .slice none 0 0, .slice none 0 0] 26)) w.heap.size 47 #[.bool vl, .bool vh, .slice a1 n1 c1, .slice a2 n2 c2, .slice a3 n3 c3, .int .i64 rp, .int .i64 rn, .int .i64 re]) := Lib.hid ((Box.new _ _ _).alloc _)
  have X0 : Hid (Box ((w.alloc (.cells #[.bool vl, .bool vh, .slice a1 n1 c1, .slice a2 n2 c2, .slice a3 n3 c3, .int .i64 rp, .int .i64 rn, .int .i64 re] 47)).alloc (.cells #[.bool false, .bool false, .slice none 0 0, .slice none 0 0, .slice none 0 0] 26)) (w.heap.size + 1) 26 #[.bool false, .bool false, .slice none 0 0, .slice none 0 0, .slice none 0 0]) := Lib.hid (by have := Box.new (w.alloc (.cells #[.bool vl, .bool vh, .slice a1 n1 c1, .slice a2 n2 c2, .slice a3 n3 c3, .int .i64 rp, .int .i64 rn, .int .i64 re] 47)) 26 #[.bool false, .bool false, .slice none 0 0, .slice none 0 0, .slice none 0 0]; simpa using this)
  go_enter Tryz.func15, Tryz.ntmps15
  go_upto_region 1 with fail
  change Code.wp _ _ _ _ ((w.alloc (.cells #[.bool vl, .bool vh, .slice a1 n1 c1, .slice a2 n2 c2, .slice a3 n3 c3, .int .i64 rp, .int .i64 rn, .int .i64 re] 47)).alloc (.cells #[.bool false, .bool false, .slice none 0 0, .slice none 0 0, .slice none 0 0] 26))
  generalize ((w.alloc (.cells #[.bool vl, .bool vh, .slice a1 n1 c1, .slice a2 n2 c2, .slice a3 n3 c3, .int .i64 rp, .int .i64 rn, .int .i64 re] 47)).alloc (.cells #[.bool false, .bool false, .slice none 0 0, .slice none 0 0, .slice none 0 0] 26)) = u2 at *
  have B2 := B0
  have HZZ := Z0
  have HXX := X0
  have HR2 := Lib.hid (HRD.out.there.mono (ok' := fun k => k < w.heap.size ∧ ok k) (fun k hk => ⟨hk.2, hk.1⟩))
  replace HR2 := Lib.hid (HR2.out.keep (fun k hk => B2.block k hk.1))
  have e7 : u2.cell? ⟨w.heap.size, 7, none⟩ = some (.int .i64 re) := HZZ.out.cell 7 rfl
  have e5 : u2.cell? ⟨w.heap.size, 5, none⟩ = some (.int .i64 rp) := HZZ.out.cell 5 rfl
  clear B0 Z0 X0 HRD
  by_cases he : re = 0
  case neg =>
    obtain ⟨z1, z2⟩ := nat_ne he
    clear HP HBD
    go_upto_region 2 with fail
    have hKS : Keeps (fun w' => Box w' w.heap.size 47 #[.bool vl, .bool vh, .slice a1 n1 c1, .slice a2 n2 c2, .slice a3 n3 c3, .int .i64 rp, .int .i64 rn, .int .i64 re]) := fun w w' h b => h.after b
    refine wp_region_U (w := u2) (fun w' => Box w' w.heap.size 47 #[.bool vl, .bool vh, .slice a1 n1 c1, .slice a2 n2 c2, .slice a3 n3 c3, .int .i64 rp, .int .i64 rn, .int .i64 re]) rfl HZZ.out.drew ?_
    refine wpU_val 0 hKS rfl (by kernel_rfl) (by kernel_rfl) (by kernel_rfl) rfl (fun _ _ _ _ h => h) (.agg #[.bool false, .bool false, .slice none 0 0, .slice none 0 0, .slice none 0 0]) (fun w' h => by simp [go_sem]) ?_
    simp only [Act.put, List.setIfInBounds_toArray, List.set_cons_zero, List.set_cons_succ]
    refine wpU_val 1 hKS rfl (by kernel_rfl) (by kernel_rfl) (by kernel_rfl) rfl (fun _ _ _ _ h => h) (.pointer (some ⟨w.heap.size, 5, none⟩)) (fun w' h => by simp [go_sem]) ?_
    simp only [Act.put, List.setIfInBounds_toArray, List.set_cons_zero, List.set_cons_succ]
    refine wpU_val 2 hKS rfl (by kernel_rfl) (by kernel_rfl) (by kernel_rfl) rfl (fun _ _ _ _ h => h) (.int .i64 rp) (fun w' h => by simp [go_sem, h.cell 5 rfl]) ?_
    simp only [Act.put, List.setIfInBounds_toArray, List.set_cons_zero, List.set_cons_succ]
    refine wpU_val 3 hKS rfl (by kernel_rfl) (by kernel_rfl) (by kernel_rfl) rfl (fun _ _ _ _ h => h) (.pointer (some ⟨w.heap.size, 7, none⟩)) (fun w' h => by simp [go_sem]) ?_
    simp only [Act.put, List.setIfInBounds_toArray, List.set_cons_zero, List.set_cons_succ]
    refine wpU_val 4 hKS rfl (by kernel_rfl) (by kernel_rfl) (by kernel_rfl) rfl (fun _ _ _ _ h => h) (.int .i64 re) (fun w' h => by simp [go_sem, h.cell 7 rfl]) ?_
    simp only [Act.put, List.setIfInBounds_toArray, List.set_cons_zero, List.set_cons_succ]
    refine wpU_store_box (cells := #[.bool false, .bool false, .slice none 0 0, .slice none 0 0, .slice none 0 0]) 5 rfl (by kernel_rfl) rfl 26 _ _ rfl HXX.out.drew (by rfl) (by rfl) rfl (by kernel_rfl) (by simp [Value.oneCell']) ?_
    intro w8 u9 b8 s8 X9 st9
    refine ⟨st9.box s8 (by omega), ?_⟩
    simp only [Act.put, List.setIfInBounds_toArray, List.set_cons_zero, List.set_cons_succ]
    refine wpU_val 6 hKS rfl (by kernel_rfl) (by kernel_rfl) (by kernel_rfl) rfl (fun _ _ _ _ h => h) (.int .i64 rp) (fun w' h => by simp [go_sem]) ?_
    simp only [Act.put, List.setIfInBounds_toArray, List.set_cons_zero, List.set_cons_succ]
    refine wpU_val 7 hKS rfl (by kernel_rfl) (by kernel_rfl) (by kernel_rfl) rfl (fun _ _ _ _ h => h) (.int .i64 re) (fun w' h => by simp [go_sem]) ?_
    simp only [Act.put, List.setIfInBounds_toArray, List.set_cons_zero, List.set_cons_succ]
    refine wpU_done (by kernel_rfl) ?_
    intro w9 b9 s9
    have HX9 := Lib.hid (X9.after b9)
    have B9 := (st9.below w.heap.size w (Nat.le_succ _) (B2.drew.trans (b8.mono B2.size))).trans (b9.mono (Nat.le_trans (Nat.le_trans B2.size b8.size) (Nat.le_of_eq st9.size.symm)))
    clear X9 b9 s9 hKS b8 s8 st9
    go_wp2_with fail
    exact bodyPost_ret (v := .tuple #[.agg #[.bool false, .bool false, .slice none 0 0, .slice none 0 0, .slice none 0 0], .int .i64 rp, .int .i64 re]) (box_result22 (p := 4) (q := 5) (r := 6) rfl _ _ (by rfl) HX9.out Tryz.underlying26 rfl (by kernel_rfl)) rfl ⟨⟨false, false, none, 0, 0, none, 0, 0, none, 0, 0⟩, Sx.nil, rp, re, .inl ⟨he, rfl, rfl, rfl⟩, rfl, rd_nil _ _, B9⟩
  subst he
  have hrp := HP.out rfl
  obtain ⟨q, hq⟩ : ∃ q, q = skipN s.data.toList rp := ⟨_, rfl⟩
  have hql := skipN_le (l := s.data.toList) (p := rp) (by rw [HL.out]; exact hrp)
  rw [← hq, HL.out] at hql
  have CS : Hid (∀ w', Calls Tryz.prog 12 #[.string s, .int .i64 rp] w' (fun e w2 => e = .returned (.int .i64 q) ∧ w2 = w')) := Lib.hid (fun w' => by rw [hq]; exact rskip_any s rp w' (by omega) hrp)
  have HQ := Lib.hid hq
  obtain ⟨hql1, hql2⟩ := hql
  clear hq
  go_wp2_with fail
  refine (CS.out _).mono ?_
  rintro e wn ⟨rfl, h0⟩
  obtain rfl := h0.symm
  clear CS
  by_cases hmore : q < s.size
  case pos =>
    have hmore' : (q : Int) < (s.size : Int) := by omega
    have HE : Hid (EndC s.data.toList ⟨rv, rp, rn, 0⟩ Sx.nil q 5) := Lib.hid (.inr (.inl ⟨rfl, by rw [← HQ.out, HL.out]; exact hmore, rfl, HQ.out, rfl⟩))
    go_wp2_with (refine wpList_store_box (cells := #[.bool false, .bool false, .slice none 0 0, .slice none 0 0, .slice none 0 0]) rfl 26 _ _ rfl HXX.out (by rfl) (by rfl) rfl (by kernel_rfl) (by simp [Value.oneCell']) ?_; intro u9 X9 st9)
    have B9 := st9.below w.heap.size w (by omega) B2
    exact bodyPost_ret (v := .tuple #[.agg #[.bool false, .bool false, .slice none 0 0, .slice none 0 0, .slice none 0 0], .int .i64 q, .int .i64 5]) (box_result22 (p := 4) (q := 5) (r := 6) rfl _ _ (by rfl) X9 Tryz.underlying26 rfl (by kernel_rfl)) rfl ⟨⟨false, false, none, 0, 0, none, 0, 0, none, 0, 0⟩, Sx.nil, _, _, HE.out, rfl, rd_nil _ _, B9⟩
  have hmore' : ¬ (q : Int) < (s.size : Int) := by omega
  have HLD := Lib.hid (Box.range HZZ.out 0 (SV.cells (⟨vl, vh, a1, n1, c1, a2, n2, c2, a3, n3, c3⟩ : SV)).toList (fun j u hu => by match j, hu with
    | 0, hu => exact hu
    | 1, hu => exact hu
    | 2, hu => exact hu
    | 3, hu => exact hu
    | 4, hu => exact hu
    | k + 5, hu => simp [SV.cells] at hu))
  have CM := Lib.hid (refMay_any rv (⟨vl, vh, a1, n1, c1, a2, n2, c2, a3, n3, c3⟩ : SV) u2 (HR2.out.mono (fun _ _ => trivial)) (by have := (HBD.out (by trivial)).1; omega) (by have := (HBD.out (by trivial)).2.1; omega) (fun _ => by have := (HBD.out (by trivial)).2.2; omega))
  go_wp2_with (refine wpList_load_sv rfl _ rfl w.heap.size 0 rfl (⟨vl, vh, a1, n1, c1, a2, n2, c2, a3, n3, c3⟩ : SV) HLD.out ?_; simp only [SV.val])
  refine CM.out.mono ?_
  rintro e w3 ⟨rfl, b3⟩
  have HXX' := Lib.hid (HXX.out.after b3)
  have HZZ' := Lib.hid (HZZ.out.after b3)
  have HR3 := Lib.hid (HR2.out.after b3)
  have B3 := B2.trans (b3.mono B2.size)
  clear HXX HZZ HR2 B2 b3 CM HLD e5 e7
  have HXX := HXX'
  have HZZ := HZZ'
  have B2 := B3
  clear HXX' HZZ' B3
  cases hmy : rv.may with
  | false =>
    have HE : Hid (EndC s.data.toList ⟨rv, rp, rn, 0⟩ Sx.nil s.size 4) := Lib.hid (.inr (.inr (.inl ⟨rfl, by rw [← HQ.out, HL.out]; omega, hmy, rfl, HL.out.symm, rfl⟩)))
    clear hmy
    go_wp2_with (refine wpList_store_box (cells := #[.bool false, .bool false, .slice none 0 0, .slice none 0 0, .slice none 0 0]) rfl 26 _ _ rfl HXX.out (by rfl) (by rfl) rfl (by kernel_rfl) (by simp [Value.oneCell']) ?_; intro u9 X9 st9)
    have B9 := st9.below w.heap.size w (by omega) B2
    exact bodyPost_ret (v := .tuple #[.agg #[.bool false, .bool false, .slice none 0 0, .slice none 0 0, .slice none 0 0], .int .i64 s.size, .int .i64 4]) (box_result22 (p := 4) (q := 5) (r := 6) rfl _ _ (by rfl) X9 Tryz.underlying26 rfl (by kernel_rfl)) rfl ⟨⟨false, false, none, 0, 0, none, 0, 0, none, 0, 0⟩, Sx.nil, _, _, HE.out, rfl, rd_nil _ _, B9⟩
  | true =>
    have HE : Hid (EndC s.data.toList ⟨rv, rp, rn, 0⟩ rv 0 0) := Lib.hid (.inr (.inr (.inr ⟨rfl, by rw [← HQ.out, HL.out]; omega, hmy, rfl, rfl, rfl⟩)))
    have HLD := Lib.hid (Box.range HZZ.out 0 (SV.cells (⟨vl, vh, a1, n1, c1, a2, n2, c2, a3, n3, c3⟩ : SV)).toList (fun j u hu => by match j, hu with
      | 0, hu => exact hu
      | 1, hu => exact hu
      | 2, hu => exact hu
      | 3, hu => exact hu
      | 4, hu => exact hu
      | k + 5, hu => simp [SV.cells] at hu))
    clear hmy
    go_wp2_with first | (refine wpList_load_sv rfl _ rfl w.heap.size 0 rfl (⟨vl, vh, a1, n1, c1, a2, n2, c2, a3, n3, c3⟩ : SV) HLD.out ?_; simp only [SV.val]) | (refine wpList_store_box (cells := #[.bool vl, .bool vh, .slice a1 n1 c1, .slice a2 n2 c2, .slice a3 n3 c3]) rfl 26 _ _ rfl HXX.out (by rfl) (by rfl) rfl (by kernel_rfl) (by simp [Value.oneCell']) ?_; intro u9 X9 st9)
    have B9 := st9.below w.heap.size w (by omega) B2
    exact bodyPost_ret (v := .tuple #[.agg #[.bool vl, .bool vh, .slice a1 n1 c1, .slice a2 n2 c2, .slice a3 n3 c3], .int .i64 0, .int .i64 0]) (box_result22 (p := 4) (q := 5) (r := 6) rfl _ _ (by rfl) X9 Tryz.underlying26 rfl (by kernel_rfl)) rfl ⟨(⟨vl, vh, a1, n1, c1, a2, n2, c2, a3, n3, c3⟩ : SV), rv, _, _, HE.out, rfl, ((HR3.out.keep (fun k hk => st9.other k (by have := hk.1; omega))).mono (fun k hk => hk.2)), B9⟩

end Go.Proofs.YtkbblhioncecmaaGreatDoor

/- The program's reader of advanced forms: bytes with their length, plain atoms. -/
import Derived.Test.YtkbblhioncecmaaDoorNtD
namespace Go.Proofs.YtkbblhioncecmaaDoor
open Go.RowKit
set_option linter.unusedSimpArgs false
set_option linter.unusedVariables false

theorem extract_data (s : ByteArray) (i j : Nat) : (s.extract i j).data.toList = (s.data.toList.drop i).take (j - i) := by
  rw [ByteArray.data_extract, Array.toList_extract, List.extract_eq_take_drop]
/-- the place behind signs -/
def runN (l : List UInt8) (p : Nat) : Nat := p + ((l.drop p).takeWhile signB).length
theorem runN_end {l : List UInt8} {p : Nat} (h : l.length ≤ p) : runN l p = p := by unfold runN; rw [List.drop_eq_nil_of_le h]; rfl
theorem runN_sign {l : List UInt8} {p : Nat} (h : p < l.length) (hb : signB l[p] = true) : runN l p = runN l (p + 1) := by
  unfold runN
  rw [List.drop_eq_getElem_cons h, List.takeWhile_cons_of_pos hb, List.length_cons]
  omega
theorem runN_other {l : List UInt8} {p : Nat} (h : p < l.length) (hb : signB l[p] = false) : runN l p = p := by
  unfold runN
  rw [List.drop_eq_getElem_cons h, List.takeWhile_cons_of_neg (by rw [hb]; simp)]
  rfl
theorem run_take (l : List UInt8) (p : Nat) : (l.drop p).take (runN l p - p) = (l.drop p).takeWhile signB := by
  unfold runN
  rw [Nat.add_sub_cancel_left]
  generalize l.drop p = r
  exact (List.prefix_iff_eq_take.1 (List.takeWhile_prefix signB)).symm
theorem goodS (c : UInt8) : isIn (ByteArray.mk signL.toArray).data.toList c = signB c := isIn_of isIn_sign c
theorem goodD (c : UInt8) : isIn (ByteArray.mk #[48, 49, 50, 51, 52, 53, 54, 55, 56, 57]).data.toList c = numB c := isIn_of isIn_num c
theorem BytesN.trans {g : Nat} {s : ByteArray} {m : Nat} {R : BR} {w w1 w2 : World} {e : Ending} (hb : But (fun k => k = g) w w1) (h : BytesN g s m R w1 e w2) : BytesN g s m R w e w2 := by
  refine ⟨hb.trans h.1 (fun k hk => .inl hk), h.2.imp id ?_⟩
  rintro ⟨h1, a, n, c, h2, h3, h4, h5⟩
  exact ⟨h1, a, n, c, h2, h3, h4.mono (fun k hk => Nat.le_trans hb.size hk), h5⟩

set_option maxHeartbeats 16000000 in
set_option maxRecDepth 100000 in
theorem lengthN_any (g : Nat) (s : ByteArray) (p m : Nat) (w : World) (hX : Box w g 72 (RdN s p m)) (hs : s.size ≤ 100000) (hp : p ≤ s.size) :
    Calls Tryd.prog 64 #[.pointer (some ⟨g, 0, none⟩)] w (BytesN g s m (nLen s.data.toList p) w) := by
  have HL : Hid (s.data.toList.length = s.size) := Lib.hid (by simp)
  obtain ⟨R, hR⟩ : ∃ R, R = nLen s.data.toList p := ⟨_, rfl⟩
  rw [← hR]
  have HR := Lib.hid hR
  have hgw := hX.lt
  have HX := Lib.hid hX
  clear hR hX
  rcases lenR_cases s.data.toList p 4096 with ⟨h1, e1⟩ | ⟨h1, h2, e1⟩ | ⟨h1, e1⟩ | ⟨k, N, hk, hpk, hmk, ht, e1⟩
  · have E1 := Lib.hid e1
    clear e1
    go_enter Tryd.func64, Tryd.ntmps64
    have HE : Hid (R = BR.err p 2) := Lib.hid (by rw [HR.out]; unfold nLen; simp only [E1.out]; simp)
    go_upto_region 1 with fail
    have hKS : Keeps (fun w' => Box w' g 72 (RdN s p m)) := fun w w' h b => h.after b
    refine wp_region_U (w := w) (fun w' => Box w' g 72 (RdN s p m)) rfl HX.out.drew ?_
    refine wpU_val 0 hKS rfl (by kernel_rfl) (by kernel_rfl) (by kernel_rfl) rfl (fun _ _ _ _ h => h) (.pointer (some ⟨g, 0, none⟩)) (fun w' h => by simp [go_sem]) ?_
    simp only [Act.put, List.setIfInBounds_toArray, List.set_cons_zero, List.set_cons_succ]
    refine wpU_val 1 hKS rfl (by kernel_rfl) (by kernel_rfl) (by kernel_rfl) rfl (fun _ _ _ _ h => h) (.pointer (some ⟨g, 0, none⟩)) (fun w' h => by simp [go_sem]) ?_
    simp only [Act.put, List.setIfInBounds_toArray, List.set_cons_zero, List.set_cons_succ]
    refine wpU_val 2 hKS rfl (by kernel_rfl) (by kernel_rfl) (by kernel_rfl) rfl (fun _ _ _ _ h => h) (.pointer (some ⟨g, 0, none⟩)) (fun w' h => by simp [go_sem]) ?_
    simp only [Act.put, List.setIfInBounds_toArray, List.set_cons_zero, List.set_cons_succ]
    refine wpU_val 3 hKS rfl (by kernel_rfl) (by kernel_rfl) (by kernel_rfl) rfl (fun _ _ _ _ h => h) (.string s) (fun w' h => by simp [go_sem, h.cell 0 rfl]) ?_
    simp only [Act.put, List.setIfInBounds_toArray, List.set_cons_zero, List.set_cons_succ]
    refine wpU_val 5 hKS rfl (by kernel_rfl) (by kernel_rfl) (by kernel_rfl) rfl (fun _ _ _ _ h => h) (.pointer (some ⟨g, 0, none⟩)) (fun w' h => by simp [go_sem]) ?_
    simp only [Act.put, List.setIfInBounds_toArray, List.set_cons_zero, List.set_cons_succ]
    refine wpU_val 6 hKS rfl (by kernel_rfl) (by kernel_rfl) (by kernel_rfl) rfl (fun _ _ _ _ h => h) (.pointer (some ⟨g, 0, none⟩)) (fun w' h => by simp [go_sem]) ?_
    simp only [Act.put, List.setIfInBounds_toArray, List.set_cons_zero, List.set_cons_succ]
    refine wpU_val 7 hKS rfl (by kernel_rfl) (by kernel_rfl) (by kernel_rfl) rfl (fun _ _ _ _ h => h) (.pointer (some ⟨g, 1, none⟩)) (fun w' h => by simp [go_sem]) ?_
    simp only [Act.put, List.setIfInBounds_toArray, List.set_cons_zero, List.set_cons_succ]
    refine wpU_val 8 hKS rfl (by kernel_rfl) (by kernel_rfl) (by kernel_rfl) rfl (fun _ _ _ _ h => h) (.int .i64 p) (fun w' h => by simp [go_sem, h.cell 1 rfl]) ?_
    simp only [Act.put, List.setIfInBounds_toArray, List.set_cons_zero, List.set_cons_succ]
    refine wpU_one 4 rfl (by kernel_rfl) rfl ?_
    intro w5 b5 s5
    obtain ⟨v6, w6, hr6, ho6, b6⟩ := conv_own w5 s (by omega)
    refine wp_of_run v6 w6 (by simp [go_sem, hr6]) ?_
    refine ⟨hKS _ _ s5 b6, ?_⟩
    simp only [Act.put, List.setIfInBounds_toArray, List.set_cons_zero, List.set_cons_succ]
    obtain ⟨a6, n6, c6, rfl, sl6, in6⟩ := OwnB.parts ho6
    refine wpU_one 9 rfl (by kernel_rfl) rfl ?_
    intro w7 b7 s7
    refine wp_callR 87 #[.slice a6 n6 c6, .int .i64 p, .int .i64 4096] (by simp [go_sem]) _ (getLen_any a6 n6 c6 s.data.toList p 4096 4096 w7 (sl6.after b7) (by rw [sl6.1, HL.out]; omega) (by omega) (by omega) rfl (by omega)) ?_
    rintro e w8 ⟨rfl, b8⟩
    refine ⟨_, rfl, hKS _ _ s7 b8, ?_⟩
    rw [E1.out]
    simp only [Act.put, List.setIfInBounds_toArray, List.set_cons_zero, List.set_cons_succ]
    refine wpU_val 10 hKS rfl (by kernel_rfl) (by kernel_rfl) (by kernel_rfl) rfl (fun _ _ _ _ h => h) (.tuple #[.int .i64 0, .int .i64 p, .int .i64 2]) (fun w' h => by simp [go_sem]) ?_
    simp only [Act.put, List.setIfInBounds_toArray, List.set_cons_zero, List.set_cons_succ]
    refine wpU_val 11 hKS rfl (by kernel_rfl) (by kernel_rfl) (by kernel_rfl) rfl (fun _ _ _ _ h => h) (.int .i64 0) (fun w' h => by simp [go_sem]) ?_
    simp only [Act.put, List.setIfInBounds_toArray, List.set_cons_zero, List.set_cons_succ]
    refine wpU_val 12 hKS rfl (by kernel_rfl) (by kernel_rfl) (by kernel_rfl) rfl (fun _ _ _ _ h => h) (.int .i64 p) (fun w' h => by simp [go_sem]) ?_
    simp only [Act.put, List.setIfInBounds_toArray, List.set_cons_zero, List.set_cons_succ]
    refine wpU_val 13 hKS rfl (by kernel_rfl) (by kernel_rfl) (by kernel_rfl) rfl (fun _ _ _ _ h => h) (.int .i64 2) (fun w' h => by simp [go_sem]) ?_
    simp only [Act.put, List.setIfInBounds_toArray, List.set_cons_zero, List.set_cons_succ]
    refine wpU_val 14 hKS rfl (by kernel_rfl) (by kernel_rfl) (by kernel_rfl) rfl (fun _ _ _ _ h => h) (.int .i64 0) (fun w' h => by simp [go_sem]) ?_
    simp only [Act.put, List.setIfInBounds_toArray, List.set_cons_zero, List.set_cons_succ]
    refine wpU_val 15 hKS rfl (by kernel_rfl) (by kernel_rfl) (by kernel_rfl) rfl (fun _ _ _ _ h => h) (.int .i64 p) (fun w' h => by simp [go_sem]) ?_
    simp only [Act.put, List.setIfInBounds_toArray, List.set_cons_zero, List.set_cons_succ]
    refine wpU_val 16 hKS rfl (by kernel_rfl) (by kernel_rfl) (by kernel_rfl) rfl (fun _ _ _ _ h => h) (.int .i64 2) (fun w' h => by simp [go_sem]) ?_
    simp only [Act.put, List.setIfInBounds_toArray, List.set_cons_zero, List.set_cons_succ]
    refine wpU_done (by kernel_rfl) ?_
    intro w9 b9 s9
    have U9 : Hid (But (fun k => k = g) w w9) := Lib.hid (But.ofBelow ((((((Below.refl _ w).drew.trans b5).trans (b6.mono b5.size)).trans (b7.mono (Nat.le_trans b5.size b6.size))).trans (b8.mono (Nat.le_trans (Nat.le_trans b5.size b6.size) b7.size))).trans (b9.mono (Nat.le_trans (Nat.le_trans (Nat.le_trans b5.size b6.size) b7.size) b8.size))))
    have HX9 := Lib.hid s9
    have x9 := s9.cell 1 rfl
    have f9 := s9.frozen 1
    clear hKS b5 s5 b6 sl6 in6 hr6 ho6 b7 s7 b8 b9 s9
    go_wp2_with fail
    refine (wrong_any p 2 _).mono ?_
    rintro e w10 ⟨rfl, rfl⟩
    unfold FaultN
    go_wp2_with fail
    exact ⟨rfl, bn_no HE.out (by decide) U9.out⟩
  · have E1 := Lib.hid e1
    clear e1
    go_enter Tryd.func64, Tryd.ntmps64
    have HE : Hid (R = BR.err p 3) := Lib.hid (by rw [HR.out]; unfold nLen; simp only [E1.out]; simp)
    go_upto_region 1 with fail
    have hKS : Keeps (fun w' => Box w' g 72 (RdN s p m)) := fun w w' h b => h.after b
    refine wp_region_U (w := w) (fun w' => Box w' g 72 (RdN s p m)) rfl HX.out.drew ?_
    refine wpU_val 0 hKS rfl (by kernel_rfl) (by kernel_rfl) (by kernel_rfl) rfl (fun _ _ _ _ h => h) (.pointer (some ⟨g, 0, none⟩)) (fun w' h => by simp [go_sem]) ?_
    simp only [Act.put, List.setIfInBounds_toArray, List.set_cons_zero, List.set_cons_succ]
    refine wpU_val 1 hKS rfl (by kernel_rfl) (by kernel_rfl) (by kernel_rfl) rfl (fun _ _ _ _ h => h) (.pointer (some ⟨g, 0, none⟩)) (fun w' h => by simp [go_sem]) ?_
    simp only [Act.put, List.setIfInBounds_toArray, List.set_cons_zero, List.set_cons_succ]
    refine wpU_val 2 hKS rfl (by kernel_rfl) (by kernel_rfl) (by kernel_rfl) rfl (fun _ _ _ _ h => h) (.pointer (some ⟨g, 0, none⟩)) (fun w' h => by simp [go_sem]) ?_
    simp only [Act.put, List.setIfInBounds_toArray, List.set_cons_zero, List.set_cons_succ]
    refine wpU_val 3 hKS rfl (by kernel_rfl) (by kernel_rfl) (by kernel_rfl) rfl (fun _ _ _ _ h => h) (.string s) (fun w' h => by simp [go_sem, h.cell 0 rfl]) ?_
    simp only [Act.put, List.setIfInBounds_toArray, List.set_cons_zero, List.set_cons_succ]
    refine wpU_val 5 hKS rfl (by kernel_rfl) (by kernel_rfl) (by kernel_rfl) rfl (fun _ _ _ _ h => h) (.pointer (some ⟨g, 0, none⟩)) (fun w' h => by simp [go_sem]) ?_
    simp only [Act.put, List.setIfInBounds_toArray, List.set_cons_zero, List.set_cons_succ]
    refine wpU_val 6 hKS rfl (by kernel_rfl) (by kernel_rfl) (by kernel_rfl) rfl (fun _ _ _ _ h => h) (.pointer (some ⟨g, 0, none⟩)) (fun w' h => by simp [go_sem]) ?_
    simp only [Act.put, List.setIfInBounds_toArray, List.set_cons_zero, List.set_cons_succ]
    refine wpU_val 7 hKS rfl (by kernel_rfl) (by kernel_rfl) (by kernel_rfl) rfl (fun _ _ _ _ h => h) (.pointer (some ⟨g, 1, none⟩)) (fun w' h => by simp [go_sem]) ?_
    simp only [Act.put, List.setIfInBounds_toArray, List.set_cons_zero, List.set_cons_succ]
    refine wpU_val 8 hKS rfl (by kernel_rfl) (by kernel_rfl) (by kernel_rfl) rfl (fun _ _ _ _ h => h) (.int .i64 p) (fun w' h => by simp [go_sem, h.cell 1 rfl]) ?_
    simp only [Act.put, List.setIfInBounds_toArray, List.set_cons_zero, List.set_cons_succ]
    refine wpU_one 4 rfl (by kernel_rfl) rfl ?_
    intro w5 b5 s5
    obtain ⟨v6, w6, hr6, ho6, b6⟩ := conv_own w5 s (by omega)
    refine wp_of_run v6 w6 (by simp [go_sem, hr6]) ?_
    refine ⟨hKS _ _ s5 b6, ?_⟩
    simp only [Act.put, List.setIfInBounds_toArray, List.set_cons_zero, List.set_cons_succ]
    obtain ⟨a6, n6, c6, rfl, sl6, in6⟩ := OwnB.parts ho6
    refine wpU_one 9 rfl (by kernel_rfl) rfl ?_
    intro w7 b7 s7
    refine wp_callR 87 #[.slice a6 n6 c6, .int .i64 p, .int .i64 4096] (by simp [go_sem]) _ (getLen_any a6 n6 c6 s.data.toList p 4096 4096 w7 (sl6.after b7) (by rw [sl6.1, HL.out]; omega) (by omega) (by omega) rfl (by omega)) ?_
    rintro e w8 ⟨rfl, b8⟩
    refine ⟨_, rfl, hKS _ _ s7 b8, ?_⟩
    rw [E1.out]
    simp only [Act.put, List.setIfInBounds_toArray, List.set_cons_zero, List.set_cons_succ]
    refine wpU_val 10 hKS rfl (by kernel_rfl) (by kernel_rfl) (by kernel_rfl) rfl (fun _ _ _ _ h => h) (.tuple #[.int .i64 0, .int .i64 p, .int .i64 3]) (fun w' h => by simp [go_sem]) ?_
    simp only [Act.put, List.setIfInBounds_toArray, List.set_cons_zero, List.set_cons_succ]
    refine wpU_val 11 hKS rfl (by kernel_rfl) (by kernel_rfl) (by kernel_rfl) rfl (fun _ _ _ _ h => h) (.int .i64 0) (fun w' h => by simp [go_sem]) ?_
    simp only [Act.put, List.setIfInBounds_toArray, List.set_cons_zero, List.set_cons_succ]
    refine wpU_val 12 hKS rfl (by kernel_rfl) (by kernel_rfl) (by kernel_rfl) rfl (fun _ _ _ _ h => h) (.int .i64 p) (fun w' h => by simp [go_sem]) ?_
    simp only [Act.put, List.setIfInBounds_toArray, List.set_cons_zero, List.set_cons_succ]
    refine wpU_val 13 hKS rfl (by kernel_rfl) (by kernel_rfl) (by kernel_rfl) rfl (fun _ _ _ _ h => h) (.int .i64 3) (fun w' h => by simp [go_sem]) ?_
    simp only [Act.put, List.setIfInBounds_toArray, List.set_cons_zero, List.set_cons_succ]
    refine wpU_val 14 hKS rfl (by kernel_rfl) (by kernel_rfl) (by kernel_rfl) rfl (fun _ _ _ _ h => h) (.int .i64 0) (fun w' h => by simp [go_sem]) ?_
    simp only [Act.put, List.setIfInBounds_toArray, List.set_cons_zero, List.set_cons_succ]
    refine wpU_val 15 hKS rfl (by kernel_rfl) (by kernel_rfl) (by kernel_rfl) rfl (fun _ _ _ _ h => h) (.int .i64 p) (fun w' h => by simp [go_sem]) ?_
    simp only [Act.put, List.setIfInBounds_toArray, List.set_cons_zero, List.set_cons_succ]
    refine wpU_val 16 hKS rfl (by kernel_rfl) (by kernel_rfl) (by kernel_rfl) rfl (fun _ _ _ _ h => h) (.int .i64 3) (fun w' h => by simp [go_sem]) ?_
    simp only [Act.put, List.setIfInBounds_toArray, List.set_cons_zero, List.set_cons_succ]
    refine wpU_done (by kernel_rfl) ?_
    intro w9 b9 s9
    have U9 : Hid (But (fun k => k = g) w w9) := Lib.hid (But.ofBelow ((((((Below.refl _ w).drew.trans b5).trans (b6.mono b5.size)).trans (b7.mono (Nat.le_trans b5.size b6.size))).trans (b8.mono (Nat.le_trans (Nat.le_trans b5.size b6.size) b7.size))).trans (b9.mono (Nat.le_trans (Nat.le_trans (Nat.le_trans b5.size b6.size) b7.size) b8.size))))
    have HX9 := Lib.hid s9
    have x9 := s9.cell 1 rfl
    have f9 := s9.frozen 1
    clear hKS b5 s5 b6 sl6 in6 hr6 ho6 b7 s7 b8 b9 s9
    go_wp2_with fail
    refine (wrong_any p 3 _).mono ?_
    rintro e w10 ⟨rfl, rfl⟩
    unfold FaultN
    go_wp2_with fail
    exact ⟨rfl, bn_no HE.out (by decide) U9.out⟩
  · have E1 := Lib.hid e1
    clear e1
    go_enter Tryd.func64, Tryd.ntmps64
    have HE : Hid (R = BR.err p 4) := Lib.hid (by rw [HR.out]; unfold nLen; simp only [E1.out]; simp)
    go_upto_region 1 with fail
    have hKS : Keeps (fun w' => Box w' g 72 (RdN s p m)) := fun w w' h b => h.after b
    refine wp_region_U (w := w) (fun w' => Box w' g 72 (RdN s p m)) rfl HX.out.drew ?_
    refine wpU_val 0 hKS rfl (by kernel_rfl) (by kernel_rfl) (by kernel_rfl) rfl (fun _ _ _ _ h => h) (.pointer (some ⟨g, 0, none⟩)) (fun w' h => by simp [go_sem]) ?_
    simp only [Act.put, List.setIfInBounds_toArray, List.set_cons_zero, List.set_cons_succ]
    refine wpU_val 1 hKS rfl (by kernel_rfl) (by kernel_rfl) (by kernel_rfl) rfl (fun _ _ _ _ h => h) (.pointer (some ⟨g, 0, none⟩)) (fun w' h => by simp [go_sem]) ?_
    simp only [Act.put, List.setIfInBounds_toArray, List.set_cons_zero, List.set_cons_succ]
    refine wpU_val 2 hKS rfl (by kernel_rfl) (by kernel_rfl) (by kernel_rfl) rfl (fun _ _ _ _ h => h) (.pointer (some ⟨g, 0, none⟩)) (fun w' h => by simp [go_sem]) ?_
    simp only [Act.put, List.setIfInBounds_toArray, List.set_cons_zero, List.set_cons_succ]
    refine wpU_val 3 hKS rfl (by kernel_rfl) (by kernel_rfl) (by kernel_rfl) rfl (fun _ _ _ _ h => h) (.string s) (fun w' h => by simp [go_sem, h.cell 0 rfl]) ?_
    simp only [Act.put, List.setIfInBounds_toArray, List.set_cons_zero, List.set_cons_succ]
    refine wpU_val 5 hKS rfl (by kernel_rfl) (by kernel_rfl) (by kernel_rfl) rfl (fun _ _ _ _ h => h) (.pointer (some ⟨g, 0, none⟩)) (fun w' h => by simp [go_sem]) ?_
    simp only [Act.put, List.setIfInBounds_toArray, List.set_cons_zero, List.set_cons_succ]
    refine wpU_val 6 hKS rfl (by kernel_rfl) (by kernel_rfl) (by kernel_rfl) rfl (fun _ _ _ _ h => h) (.pointer (some ⟨g, 0, none⟩)) (fun w' h => by simp [go_sem]) ?_
    simp only [Act.put, List.setIfInBounds_toArray, List.set_cons_zero, List.set_cons_succ]
    refine wpU_val 7 hKS rfl (by kernel_rfl) (by kernel_rfl) (by kernel_rfl) rfl (fun _ _ _ _ h => h) (.pointer (some ⟨g, 1, none⟩)) (fun w' h => by simp [go_sem]) ?_
    simp only [Act.put, List.setIfInBounds_toArray, List.set_cons_zero, List.set_cons_succ]
    refine wpU_val 8 hKS rfl (by kernel_rfl) (by kernel_rfl) (by kernel_rfl) rfl (fun _ _ _ _ h => h) (.int .i64 p) (fun w' h => by simp [go_sem, h.cell 1 rfl]) ?_
    simp only [Act.put, List.setIfInBounds_toArray, List.set_cons_zero, List.set_cons_succ]
    refine wpU_one 4 rfl (by kernel_rfl) rfl ?_
    intro w5 b5 s5
    obtain ⟨v6, w6, hr6, ho6, b6⟩ := conv_own w5 s (by omega)
    refine wp_of_run v6 w6 (by simp [go_sem, hr6]) ?_
    refine ⟨hKS _ _ s5 b6, ?_⟩
    simp only [Act.put, List.setIfInBounds_toArray, List.set_cons_zero, List.set_cons_succ]
    obtain ⟨a6, n6, c6, rfl, sl6, in6⟩ := OwnB.parts ho6
    refine wpU_one 9 rfl (by kernel_rfl) rfl ?_
    intro w7 b7 s7
    refine wp_callR 87 #[.slice a6 n6 c6, .int .i64 p, .int .i64 4096] (by simp [go_sem]) _ (getLen_any a6 n6 c6 s.data.toList p 4096 4096 w7 (sl6.after b7) (by rw [sl6.1, HL.out]; omega) (by omega) (by omega) rfl (by omega)) ?_
    rintro e w8 ⟨rfl, b8⟩
    refine ⟨_, rfl, hKS _ _ s7 b8, ?_⟩
    rw [E1.out]
    simp only [Act.put, List.setIfInBounds_toArray, List.set_cons_zero, List.set_cons_succ]
    refine wpU_val 10 hKS rfl (by kernel_rfl) (by kernel_rfl) (by kernel_rfl) rfl (fun _ _ _ _ h => h) (.tuple #[.int .i64 0, .int .i64 p, .int .i64 4]) (fun w' h => by simp [go_sem]) ?_
    simp only [Act.put, List.setIfInBounds_toArray, List.set_cons_zero, List.set_cons_succ]
    refine wpU_val 11 hKS rfl (by kernel_rfl) (by kernel_rfl) (by kernel_rfl) rfl (fun _ _ _ _ h => h) (.int .i64 0) (fun w' h => by simp [go_sem]) ?_
    simp only [Act.put, List.setIfInBounds_toArray, List.set_cons_zero, List.set_cons_succ]
    refine wpU_val 12 hKS rfl (by kernel_rfl) (by kernel_rfl) (by kernel_rfl) rfl (fun _ _ _ _ h => h) (.int .i64 p) (fun w' h => by simp [go_sem]) ?_
    simp only [Act.put, List.setIfInBounds_toArray, List.set_cons_zero, List.set_cons_succ]
    refine wpU_val 13 hKS rfl (by kernel_rfl) (by kernel_rfl) (by kernel_rfl) rfl (fun _ _ _ _ h => h) (.int .i64 4) (fun w' h => by simp [go_sem]) ?_
    simp only [Act.put, List.setIfInBounds_toArray, List.set_cons_zero, List.set_cons_succ]
    refine wpU_val 14 hKS rfl (by kernel_rfl) (by kernel_rfl) (by kernel_rfl) rfl (fun _ _ _ _ h => h) (.int .i64 0) (fun w' h => by simp [go_sem]) ?_
    simp only [Act.put, List.setIfInBounds_toArray, List.set_cons_zero, List.set_cons_succ]
    refine wpU_val 15 hKS rfl (by kernel_rfl) (by kernel_rfl) (by kernel_rfl) rfl (fun _ _ _ _ h => h) (.int .i64 p) (fun w' h => by simp [go_sem]) ?_
    simp only [Act.put, List.setIfInBounds_toArray, List.set_cons_zero, List.set_cons_succ]
    refine wpU_val 16 hKS rfl (by kernel_rfl) (by kernel_rfl) (by kernel_rfl) rfl (fun _ _ _ _ h => h) (.int .i64 4) (fun w' h => by simp [go_sem]) ?_
    simp only [Act.put, List.setIfInBounds_toArray, List.set_cons_zero, List.set_cons_succ]
    refine wpU_done (by kernel_rfl) ?_
    intro w9 b9 s9
    have U9 : Hid (But (fun k => k = g) w w9) := Lib.hid (But.ofBelow ((((((Below.refl _ w).drew.trans b5).trans (b6.mono b5.size)).trans (b7.mono (Nat.le_trans b5.size b6.size))).trans (b8.mono (Nat.le_trans (Nat.le_trans b5.size b6.size) b7.size))).trans (b9.mono (Nat.le_trans (Nat.le_trans (Nat.le_trans b5.size b6.size) b7.size) b8.size))))
    have HX9 := Lib.hid s9
    have x9 := s9.cell 1 rfl
    have f9 := s9.frozen 1
    clear hKS b5 s5 b6 sl6 in6 hr6 ho6 b7 s7 b8 b9 s9
    go_wp2_with fail
    refine (wrong_any p 4 _).mono ?_
    rintro e w10 ⟨rfl, rfl⟩
    unfold FaultN
    go_wp2_with fail
    exact ⟨rfl, bn_no HE.out (by decide) U9.out⟩
  · obtain ⟨q, hq⟩ : ∃ q, q = p + k := ⟨_, rfl⟩
    rw [← hq] at e1
    rw [← hq, HL.out] at hpk
    have E1 := Lib.hid e1
    have HRE : Hid (R = if s.data.toList.length ≤ q then BR.err s.data.toList.length 2 else if s.data.toList.getD q 0 ≠ 58 then BR.err q 3 else
      if s.data.toList.length - q - 1 < N then BR.err s.data.toList.length 2 else ⟨(s.data.toList.drop (q + 1)).take N, q + 1 + N, 0⟩) := Lib.hid (by rw [HR.out]; unfold nLen; simp only [E1.out]; simp)
    clear e1 ht hq HR
    go_enter Tryd.func64, Tryd.ntmps64
    go_upto_region 1 with fail
    have hKS : Keeps (fun w' => Box w' g 72 (RdN s p m)) := fun w w' h b => h.after b
    refine wp_region_U (w := w) (fun w' => Box w' g 72 (RdN s p m)) rfl HX.out.drew ?_
    refine wpU_val 0 hKS rfl (by kernel_rfl) (by kernel_rfl) (by kernel_rfl) rfl (fun _ _ _ _ h => h) (.pointer (some ⟨g, 0, none⟩)) (fun w' h => by simp [go_sem]) ?_
    simp only [Act.put, List.setIfInBounds_toArray, List.set_cons_zero, List.set_cons_succ]
    refine wpU_val 1 hKS rfl (by kernel_rfl) (by kernel_rfl) (by kernel_rfl) rfl (fun _ _ _ _ h => h) (.pointer (some ⟨g, 0, none⟩)) (fun w' h => by simp [go_sem]) ?_
    simp only [Act.put, List.setIfInBounds_toArray, List.set_cons_zero, List.set_cons_succ]
    refine wpU_val 2 hKS rfl (by kernel_rfl) (by kernel_rfl) (by kernel_rfl) rfl (fun _ _ _ _ h => h) (.pointer (some ⟨g, 0, none⟩)) (fun w' h => by simp [go_sem]) ?_
    simp only [Act.put, List.setIfInBounds_toArray, List.set_cons_zero, List.set_cons_succ]
    refine wpU_val 3 hKS rfl (by kernel_rfl) (by kernel_rfl) (by kernel_rfl) rfl (fun _ _ _ _ h => h) (.string s) (fun w' h => by simp [go_sem, h.cell 0 rfl]) ?_
    simp only [Act.put, List.setIfInBounds_toArray, List.set_cons_zero, List.set_cons_succ]
    refine wpU_val 5 hKS rfl (by kernel_rfl) (by kernel_rfl) (by kernel_rfl) rfl (fun _ _ _ _ h => h) (.pointer (some ⟨g, 0, none⟩)) (fun w' h => by simp [go_sem]) ?_
    simp only [Act.put, List.setIfInBounds_toArray, List.set_cons_zero, List.set_cons_succ]
    refine wpU_val 6 hKS rfl (by kernel_rfl) (by kernel_rfl) (by kernel_rfl) rfl (fun _ _ _ _ h => h) (.pointer (some ⟨g, 0, none⟩)) (fun w' h => by simp [go_sem]) ?_
    simp only [Act.put, List.setIfInBounds_toArray, List.set_cons_zero, List.set_cons_succ]
    refine wpU_val 7 hKS rfl (by kernel_rfl) (by kernel_rfl) (by kernel_rfl) rfl (fun _ _ _ _ h => h) (.pointer (some ⟨g, 1, none⟩)) (fun w' h => by simp [go_sem]) ?_
    simp only [Act.put, List.setIfInBounds_toArray, List.set_cons_zero, List.set_cons_succ]
    refine wpU_val 8 hKS rfl (by kernel_rfl) (by kernel_rfl) (by kernel_rfl) rfl (fun _ _ _ _ h => h) (.int .i64 p) (fun w' h => by simp [go_sem, h.cell 1 rfl]) ?_
    simp only [Act.put, List.setIfInBounds_toArray, List.set_cons_zero, List.set_cons_succ]
    refine wpU_one 4 rfl (by kernel_rfl) rfl ?_
    intro w5 b5 s5
    obtain ⟨v6, w6, hr6, ho6, b6⟩ := conv_own w5 s (by omega)
    refine wp_of_run v6 w6 (by simp [go_sem, hr6]) ?_
    refine ⟨hKS _ _ s5 b6, ?_⟩
    simp only [Act.put, List.setIfInBounds_toArray, List.set_cons_zero, List.set_cons_succ]
    obtain ⟨a6, n6, c6, rfl, sl6, in6⟩ := OwnB.parts ho6
    refine wpU_one 9 rfl (by kernel_rfl) rfl ?_
    intro w7 b7 s7
    refine wp_callR 87 #[.slice a6 n6 c6, .int .i64 p, .int .i64 4096] (by simp [go_sem]) _ (getLen_any a6 n6 c6 s.data.toList p 4096 4096 w7 (sl6.after b7) (by rw [sl6.1, HL.out]; omega) (by omega) (by omega) rfl (by omega)) ?_
    rintro e w8 ⟨rfl, b8⟩
    refine ⟨_, rfl, hKS _ _ s7 b8, ?_⟩
    rw [E1.out]
    simp only [Act.put, List.setIfInBounds_toArray, List.set_cons_zero, List.set_cons_succ]
    refine wpU_val 10 hKS rfl (by kernel_rfl) (by kernel_rfl) (by kernel_rfl) rfl (fun _ _ _ _ h => h) (.tuple #[.int .i64 N, .int .i64 q, .int .i64 0]) (fun w' h => by simp [go_sem]) ?_
    simp only [Act.put, List.setIfInBounds_toArray, List.set_cons_zero, List.set_cons_succ]
    refine wpU_val 11 hKS rfl (by kernel_rfl) (by kernel_rfl) (by kernel_rfl) rfl (fun _ _ _ _ h => h) (.int .i64 N) (fun w' h => by simp [go_sem]) ?_
    simp only [Act.put, List.setIfInBounds_toArray, List.set_cons_zero, List.set_cons_succ]
    refine wpU_val 12 hKS rfl (by kernel_rfl) (by kernel_rfl) (by kernel_rfl) rfl (fun _ _ _ _ h => h) (.int .i64 q) (fun w' h => by simp [go_sem]) ?_
    simp only [Act.put, List.setIfInBounds_toArray, List.set_cons_zero, List.set_cons_succ]
    refine wpU_val 13 hKS rfl (by kernel_rfl) (by kernel_rfl) (by kernel_rfl) rfl (fun _ _ _ _ h => h) (.int .i64 0) (fun w' h => by simp [go_sem]) ?_
    simp only [Act.put, List.setIfInBounds_toArray, List.set_cons_zero, List.set_cons_succ]
    refine wpU_val 14 hKS rfl (by kernel_rfl) (by kernel_rfl) (by kernel_rfl) rfl (fun _ _ _ _ h => h) (.int .i64 N) (fun w' h => by simp [go_sem]) ?_
    simp only [Act.put, List.setIfInBounds_toArray, List.set_cons_zero, List.set_cons_succ]
    refine wpU_val 15 hKS rfl (by kernel_rfl) (by kernel_rfl) (by kernel_rfl) rfl (fun _ _ _ _ h => h) (.int .i64 q) (fun w' h => by simp [go_sem]) ?_
    simp only [Act.put, List.setIfInBounds_toArray, List.set_cons_zero, List.set_cons_succ]
    refine wpU_val 16 hKS rfl (by kernel_rfl) (by kernel_rfl) (by kernel_rfl) rfl (fun _ _ _ _ h => h) (.int .i64 0) (fun w' h => by simp [go_sem]) ?_
    simp only [Act.put, List.setIfInBounds_toArray, List.set_cons_zero, List.set_cons_succ]
    refine wpU_done (by kernel_rfl) ?_
    intro w9 b9 s9
    have U9 : Hid (But (fun k => k = g) w w9) := Lib.hid (But.ofBelow ((((((Below.refl _ w).drew.trans b5).trans (b6.mono b5.size)).trans (b7.mono (Nat.le_trans b5.size b6.size))).trans (b8.mono (Nat.le_trans (Nat.le_trans b5.size b6.size) b7.size))).trans (b9.mono (Nat.le_trans (Nat.le_trans (Nat.le_trans b5.size b6.size) b7.size) b8.size))))
    have HX9 := Lib.hid s9
    have x9 := s9.cell 1 rfl
    have f9 := s9.frozen 1
    clear hKS b5 s5 b6 sl6 in6 hr6 ho6 b7 s7 b8 b9 s9
    go_upto_region 5 with fail
    have X10 : Box (w9.setCell ⟨g, 1, none⟩ (.int .i64 q)) g 72 (RdN s q m) := HX9.out.set 1 _
    have U10 := Lib.hid (U9.out.setCell (p := ⟨g, 1, none⟩) (.inl rfl) (.int .i64 q))
    change Code.wp _ _ _ _ (w9.setCell ⟨g, 1, none⟩ (.int .i64 q))
    generalize (w9.setCell ⟨g, 1, none⟩ (.int .i64 q)) = w10 at *
    have HX10 := Lib.hid X10
    clear X10 U9 HX9 x9 f9 E1
    go_wp2_with fail
    refine (signN_any g s q m 58 w10 HX10.out (by omega)).mono ?_
    rintro e w11 ⟨b11, ⟨h11, rfl⟩ | ⟨h11, k11, rfl⟩ | ⟨h11, k11, rfl, X11⟩⟩
    · unfold FaultN
      go_wp2_with fail
      exact ⟨rfl, bn_no (by rw [HRE.out, if_pos (by rw [HL.out]; exact h11), HL.out]) (by decide) (U10.out.trans b11 (fun k hk => .inl hk))⟩
    · unfold FaultN
      go_wp2_with fail
      exact ⟨rfl, bn_no (by rw [HRE.out, if_neg (by rw [HL.out]; omega), if_pos k11]) (by decide) (U10.out.trans b11 (fun k hk => .inl hk))⟩
    · have HRF : Hid (R = if s.size - q - 1 < N then BR.err s.size 2 else ⟨(s.data.toList.drop (q + 1)).take N, q + 1 + N, 0⟩) := Lib.hid (by rw [HRE.out, if_neg (by rw [HL.out]; omega), if_neg (by rw [k11]; simp), HL.out])
      obtain ⟨Q, hQ⟩ : ∃ Q, Q = q + 1 := ⟨_, rfl⟩
      rw [← hQ] at X11 HRF
      have HX11 := Lib.hid X11
      have U11 := Lib.hid (U10.out.trans b11 (fun k hk => .inl hk))
      have x0 := X11.cell 0 rfl
      have x1 := X11.cell 1 rfl
      have f1 := X11.frozen 1
      have hQs : Q ≤ s.size := by omega
      clear X11 b11 k11 HX10 U10 HRE
      by_cases hN : s.size - q - 1 < N
      · have hN' : (s.size : Int) - (Q : Int) < (N : Int) := by omega
        clear hQ
        go_upto_region 6 with fail
        go_quiet (fail)
        go_wp2_with fail
        refine (wrong_any s.size 2 _).mono ?_
        rintro e w12 ⟨rfl, rfl⟩
        unfold FaultN
        go_wp2_with fail
        exact ⟨rfl, bn_no (by rw [HRF.out, if_pos hN]) (by decide) (by first | exact U11.out | exact U11.out.drewN _ | exact (U11.out.drewN _).drewN _)⟩
      · have hN' : (N : Int) ≤ (s.size : Int) - (Q : Int) := by omega
        obtain ⟨T, hT⟩ : ∃ T, T = Q + N := ⟨_, rfl⟩
        have qT : (Q : Int) + (N : Int) = (T : Int) := by omega
        have qT2 : (T : Int) - (N : Int) = (Q : Int) := by omega
        have hTs : (T : Int) ≤ s.size := by omega
        have hQ0 : (0 : Int) ≤ Q := by omega
        have hQT : (Q : Int) ≤ T := by omega
        have hTQ : T - Q = N := by omega
        have hs6 : (s.size : Int) ≤ 100000 := by omega
        have HRG : Hid (R = ⟨(s.data.toList.drop Q).take N, T, 0⟩) := Lib.hid (by rw [HRF.out, if_neg hN, ← hT])
        have hwQ : IntKind.i64.wrap (Q : Int) = (Q : Int) := by rw [IntKind.wrap_i64]; omega
        clear HRF hN hT hQ
        go_upto_region 6 with fail
        go_quiet (fail)
        have X12 := HX11.out.drewN nq
        have U12 := U11.out.drewN nq
        generalize w11.drewN nq = w12 at *
        have x0 := X12.cell 0 rfl
        have x1 := X12.cell 1 rfl
        have f1 := X12.frozen 1
        go_upto_region 9 with fail
        have X13 : Box (w12.setCell ⟨g, 1, none⟩ (.int .i64 T)) g 72 (RdN s T m) := X12.set 1 _
        have U13 := U12.setCell (p := ⟨g, 1, none⟩) (.inl rfl) (.int .i64 T)
        first | rw [qT] | skip
        change Code.wp _ _ _ _ (w12.setCell ⟨g, 1, none⟩ (.int .i64 T))
        generalize (w12.setCell ⟨g, 1, none⟩ (.int .i64 T)) = w13 at *
        have hKS : Keeps (fun w' => Box w' g 72 (RdN s T m)) := fun w w' h b => h.after b
        have HX13 := Lib.hid X13
        have HU13 := Lib.hid U13
        clear X12 U12 x0 x1 f1 X13 U13 HX11 U11
        refine wp_region_U (w := w13) (fun w' => Box w' g 72 (RdN s T m)) rfl HX13.out.drew ?_
        refine wpU_val 0 hKS rfl (by kernel_rfl) (by kernel_rfl) (by kernel_rfl) rfl (fun _ _ _ _ h => h) (.pointer (some ⟨g, 0, none⟩)) (fun w' h => by simp [go_sem]) ?_
        simp only [Act.put, List.setIfInBounds_toArray, List.set_cons_zero, List.set_cons_succ]
        refine wpU_val 1 hKS rfl (by kernel_rfl) (by kernel_rfl) (by kernel_rfl) rfl (fun _ _ _ _ h => h) (.pointer (some ⟨g, 0, none⟩)) (fun w' h => by simp [go_sem]) ?_
        simp only [Act.put, List.setIfInBounds_toArray, List.set_cons_zero, List.set_cons_succ]
        refine wpU_val 2 hKS rfl (by kernel_rfl) (by kernel_rfl) (by kernel_rfl) rfl (fun _ _ _ _ h => h) (.pointer (some ⟨g, 0, none⟩)) (fun w' h => by simp [go_sem]) ?_
        simp only [Act.put, List.setIfInBounds_toArray, List.set_cons_zero, List.set_cons_succ]
        refine wpU_val 3 hKS rfl (by kernel_rfl) (by kernel_rfl) (by kernel_rfl) rfl (fun _ _ _ _ h => h) (.string s) (fun w' h => by simp [go_sem, h.cell 0 rfl]) ?_
        simp only [Act.put, List.setIfInBounds_toArray, List.set_cons_zero, List.set_cons_succ]
        refine wpU_val 4 hKS rfl (by kernel_rfl) (by kernel_rfl) (by kernel_rfl) rfl (fun _ _ _ _ h => h) (.pointer (some ⟨g, 0, none⟩)) (fun w' h => by simp [go_sem]) ?_
        simp only [Act.put, List.setIfInBounds_toArray, List.set_cons_zero, List.set_cons_succ]
        refine wpU_val 5 hKS rfl (by kernel_rfl) (by kernel_rfl) (by kernel_rfl) rfl (fun _ _ _ _ h => h) (.pointer (some ⟨g, 0, none⟩)) (fun w' h => by simp [go_sem]) ?_
        simp only [Act.put, List.setIfInBounds_toArray, List.set_cons_zero, List.set_cons_succ]
        refine wpU_val 6 hKS rfl (by kernel_rfl) (by kernel_rfl) (by kernel_rfl) rfl (fun _ _ _ _ h => h) (.pointer (some ⟨g, 1, none⟩)) (fun w' h => by simp [go_sem]) ?_
        simp only [Act.put, List.setIfInBounds_toArray, List.set_cons_zero, List.set_cons_succ]
        refine wpU_val 7 hKS rfl (by kernel_rfl) (by kernel_rfl) (by kernel_rfl) rfl (fun _ _ _ _ h => h) (.int .i64 T) (fun w' h => by simp [go_sem, h.cell 1 rfl]) ?_
        simp only [Act.put, List.setIfInBounds_toArray, List.set_cons_zero, List.set_cons_succ]
        refine wpU_val 8 hKS rfl (by kernel_rfl) (by kernel_rfl) (by kernel_rfl) rfl (fun _ _ _ _ h => h) (.int .i64 N) (fun w' h => by simp [go_sem]) ?_
        simp only [Act.put, List.setIfInBounds_toArray, List.set_cons_zero, List.set_cons_succ]
        refine wpU_val 9 hKS rfl (by kernel_rfl) (by kernel_rfl) (by kernel_rfl) rfl (fun _ _ _ _ h => h) (.int .i64 Q) (fun w' h => by simp [go_sem, qT2, hwQ]) ?_
        simp only [Act.put, List.setIfInBounds_toArray, List.set_cons_zero, List.set_cons_succ]
        refine wpU_val 10 hKS rfl (by kernel_rfl) (by kernel_rfl) (by kernel_rfl) rfl (fun _ _ _ _ h => h) (.pointer (some ⟨g, 0, none⟩)) (fun w' h => by simp [go_sem]) ?_
        simp only [Act.put, List.setIfInBounds_toArray, List.set_cons_zero, List.set_cons_succ]
        refine wpU_val 11 hKS rfl (by kernel_rfl) (by kernel_rfl) (by kernel_rfl) rfl (fun _ _ _ _ h => h) (.pointer (some ⟨g, 0, none⟩)) (fun w' h => by simp [go_sem]) ?_
        simp only [Act.put, List.setIfInBounds_toArray, List.set_cons_zero, List.set_cons_succ]
        refine wpU_val 12 hKS rfl (by kernel_rfl) (by kernel_rfl) (by kernel_rfl) rfl (fun _ _ _ _ h => h) (.pointer (some ⟨g, 1, none⟩)) (fun w' h => by simp [go_sem]) ?_
        simp only [Act.put, List.setIfInBounds_toArray, List.set_cons_zero, List.set_cons_succ]
        refine wpU_val 13 hKS rfl (by kernel_rfl) (by kernel_rfl) (by kernel_rfl) rfl (fun _ _ _ _ h => h) (.int .i64 T) (fun w' h => by simp [go_sem, h.cell 1 rfl]) ?_
        simp only [Act.put, List.setIfInBounds_toArray, List.set_cons_zero, List.set_cons_succ]
        refine wpU_val 14 hKS rfl (by kernel_rfl) (by kernel_rfl) (by kernel_rfl) rfl (fun _ _ _ _ h => h) (.string (s.extract Q T)) (fun w' h => by simp [go_sem, hQ0, hQT, hTs]; try omega) ?_
        simp only [Act.put, List.setIfInBounds_toArray, List.set_cons_zero, List.set_cons_succ]
        refine wpU_one 15 rfl (by kernel_rfl) rfl ?_
        intro w14 b14 s14
        obtain ⟨v15, w15, hr15, ho15, b15⟩ := conv_own w14 (s.extract Q T) (by simp; omega)
        refine wp_of_run v15 w15 (by simp [go_sem, hr15]) ?_
        refine ⟨hKS _ _ s14 b15, ?_⟩
        simp only [Act.put, List.setIfInBounds_toArray, List.set_cons_zero, List.set_cons_succ]
        obtain ⟨a15, n15, c15, rfl, sl15, in15⟩ := OwnB.parts ho15
        refine wpU_val 16 hKS rfl (by kernel_rfl) (by kernel_rfl) (by kernel_rfl) rfl (fun _ _ _ _ h => h) (.slice a15 n15 c15) (fun w' h => by simp [go_sem]) ?_
        simp only [Act.put, List.setIfInBounds_toArray, List.set_cons_zero, List.set_cons_succ]
        refine wpU_done (by kernel_rfl) ?_
        intro w16 b16 s16
        have Bl : Below w13.heap.size w13 w16 := (((Below.refl _ w13).drew.trans b14).trans (b15.mono b14.size)).trans (b16.mono (Nat.le_trans b14.size b15.size))
        rw [extract_data, hTQ] at sl15
        have HF := Lib.hid (bn_yes (m := m) HRG.out (HU13.out.trans (But.ofBelow (S := fun _ => False) Bl) (fun _ h => h.elim)) (sl15.after b16) (in15.mono (fun k hk => Nat.le_trans HU13.out.size (Nat.le_trans b14.size hk))) s16)
        clear hKS b14 s14 b15 sl15 in15 hr15 ho15 b16 s16 Bl
        go_wp2_with fail
        go_ret
        exact HF.out

end Go.Proofs.YtkbblhioncecmaaDoor

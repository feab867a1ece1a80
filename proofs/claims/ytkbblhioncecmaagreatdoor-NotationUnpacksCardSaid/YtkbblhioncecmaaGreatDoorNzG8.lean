/- The program's reader of advanced forms: bytes with their length, plain atoms. Advanced forms in plain words: the places behind what is read. The program's reader of advanced forms: plain atoms. -/
import Derived.Test.YtkbblhioncecmaaGreatDoorNzG7
namespace Go.Proofs.YtkbblhioncecmaaGreatDoor
open Go.RowKit
set_option linter.unusedSimpArgs false
set_option linter.unusedVariables false

theorem extract_data (s : ByteArray) (i j : Nat) : (s.extract i j).data.toList = (s.data.toList.drop i).take (j - i) := by
  rw [ByteArray.data_extract, Array.toList_extract, List.extract_eq_take_drop]
/-- the place behind signs -/
def runN (l : List UInt8) (p : Nat) : Nat := p + ((l.drop p).takeWhile signB).length
theorem runN_end {l : List UInt8} {p : Nat} (h : l.length ≤ p) : runN l p = p := by unfold runN; rw [List.drop_eq_nil_of_le h]; rfl
theorem runN_sign {l : List UInt8} {p : Nat} (h : p < l.length) (hb : signB l[p] = true) : runN l p = runN l (p + 1) := by
  unfold runN
  rw [List.drop_eq_getElem_cons h, List.takeWhile_cons_of_pos hb, List.length_cons]
  omega
theorem runN_other {l : List UInt8} {p : Nat} (h : p < l.length) (hb : signB l[p] = false) : runN l p = p := by
  unfold runN
  rw [List.drop_eq_getElem_cons h, List.takeWhile_cons_of_neg (by rw [hb]; simp)]
  rfl
theorem run_take (l : List UInt8) (p : Nat) : (l.drop p).take (runN l p - p) = (l.drop p).takeWhile signB := by
  unfold runN
  rw [Nat.add_sub_cancel_left]
  generalize l.drop p = r
  exact (List.prefix_iff_eq_take.1 (List.takeWhile_prefix signB)).symm
theorem goodS (c : UInt8) : isIn (ByteArray.mk signL.toArray).data.toList c = signB c := isIn_of isIn_sign c
theorem goodD (c : UInt8) : isIn (ByteArray.mk #[48, 49, 50, 51, 52, 53, 54, 55, 56, 57]).data.toList c = numB c := isIn_of isIn_num c
theorem BytesN.trans {g : Nat} {s : ByteArray} {m : Nat} {R : BR} {w w1 w2 : World} {e : Ending} (hb : But (fun k => k = g) w w1) (h : BytesN g s m R w1 e w2) : BytesN g s m R w e w2 := by
  refine ⟨hb.trans h.1 (fun k hk => .inl hk), h.2.imp id ?_⟩
  rintro ⟨h1, a, n, c, h2, h3, h4, h5⟩
  exact ⟨h1, a, n, c, h2, h3, h4.mono (fun k hk => Nat.le_trans hb.size hk), h5⟩

set_option maxHeartbeats 16000000 in
set_option maxRecDepth 100000 in
theorem lengthN_any (g : Nat) (s : ByteArray) (p m : Nat) (w : World) (hX : Box w g 59 (RdN s p m)) (hs : s.size ≤ 100000) (hp : p ≤ s.size) :
    Calls Tryz.prog 55 #[.pointer (some ⟨g, 0, none⟩)] w (BytesN g s m (nLen s.data.toList p) w) := by
  have HL : Hid (s.data.toList.length = s.size) := Lib.hid (by simp)
  obtain ⟨R, hR⟩ : ∃ R, R = nLen s.data.toList p := ⟨_, rfl⟩
  rw [← hR]
  have HR := Lib.hid hR
  have hgw := hX.lt
  have HX := Lib.hid hX
  clear hR hX
  rcases lenR_cases s.data.toList p 4096 with ⟨h1, e1⟩ | ⟨h1, h2, e1⟩ | ⟨h1, e1⟩ | ⟨k, N, hk, hpk, hmk, ht, e1⟩
  · have E1 := Lib.hid e1
    clear e1
    go_enter Tryz.func55, Tryz.ntmps55
    have HE : Hid (R = BR.err p 2) := Lib.hid (by rw [HR.out]; unfold nLen; simp only [E1.out]; simp)
    go_upto_region 1 with fail
    have hKS : Keeps (fun w' => Box w' g 59 (RdN s p m)) := fun w w' h b => h.after b
    refine wp_region_U (w := w) (fun w' => Box w' g 59 (RdN s p m)) rfl HX.out.drew ?_
    refine wpU_val 0 hKS rfl (by kernel_rfl) (by kernel_rfl) (by kernel_rfl) rfl (fun _ _ _ _ h => h) (.pointer (some ⟨g, 0, none⟩)) (fun w' h => by simp [go_sem]) ?_
    simp only [Act.put, List.setIfInBounds_toArray, List.set_cons_zero, List.set_cons_succ]
    refine wpU_val 1 hKS rfl (by kernel_rfl) (by kernel_rfl) (by kernel_rfl) rfl (fun _ _ _ _ h => h) (.pointer (some ⟨g, 0, none⟩)) (fun w' h => by simp [go_sem]) ?_
    simp only [Act.put, List.setIfInBounds_toArray, List.set_cons_zero, List.set_cons_succ]
    refine wpU_val 2 hKS rfl (by kernel_rfl) (by kernel_rfl) (by kernel_rfl) rfl (fun _ _ _ _ h => h) (.pointer (some ⟨g, 0, none⟩)) (fun w' h => by simp [go_sem]) ?_
    simp only [Act.put, List.setIfInBounds_toArray, List.set_cons_zero, List.set_cons_succ]
    refine wpU_val 3 hKS rfl (by kernel_rfl) (by kernel_rfl) (by kernel_rfl) rfl (fun _ _ _ _ h => h) (.string s) (fun w' h => by simp [go_sem, h.cell 0 rfl]) ?_
    simp only [Act.put, List.setIfInBounds_toArray, List.set_cons_zero, List.set_cons_succ]
    refine wpU_val 5 hKS rfl (by kernel_rfl) (by kernel_rfl) (by kernel_rfl) rfl (fun _ _ _ _ h => h) (.pointer (some ⟨g, 0, none⟩)) (fun w' h => by simp [go_sem]) ?_
    simp only [Act.put, List.setIfInBounds_toArray, List.set_cons_zero, List.set_cons_succ]
    refine wpU_val 6 hKS rfl (by kernel_rfl) (by kernel_rfl) (by kernel_rfl) rfl (fun _ _ _ _ h => h) (.pointer (some ⟨g, 0, none⟩)) (fun w' h => by simp [go_sem]) ?_
    simp only [Act.put, List.setIfInBounds_toArray, List.set_cons_zero, List.set_cons_succ]
    refine wpU_val 7 hKS rfl (by kernel_rfl) (by kernel_rfl) (by kernel_rfl) rfl (fun _ _ _ _ h => h) (.pointer (some ⟨g, 1, none⟩)) (fun w' h => by simp [go_sem]) ?_
    simp only [Act.put, List.setIfInBounds_toArray, List.set_cons_zero, List.set_cons_succ]
    refine wpU_val 8 hKS rfl (by kernel_rfl) (by kernel_rfl) (by kernel_rfl) rfl (fun _ _ _ _ h => h) (.int .i64 p) (fun w' h => by simp [go_sem, h.cell 1 rfl]) ?_
    simp only [Act.put, List.setIfInBounds_toArray, List.set_cons_zero, List.set_cons_succ]
    refine wpU_one 4 rfl (by kernel_rfl) rfl ?_
    intro w5 b5 s5
    obtain ⟨v6, w6, hr6, ho6, b6⟩ := conv_own w5 s (by omega)
    refine wp_of_run v6 w6 (by simp [go_sem, hr6]) ?_
    refine ⟨hKS _ _ s5 b6, ?_⟩
    simp only [Act.put, List.setIfInBounds_toArray, List.set_cons_zero, List.set_cons_succ]
    obtain ⟨a6, n6, c6, rfl, sl6, in6⟩ := OwnB.parts ho6
    refine wpU_one 9 rfl (by kernel_rfl) rfl ?_
    intro w7 b7 s7
    refine wp_callR 73 #[.slice a6 n6 c6, .int .i64 p, .int .i64 4096] (by simp [go_sem]) _ (getLen_any a6 n6 c6 s.data.toList p 4096 4096 w7 (sl6.after b7) (by rw [sl6.1, HL.out]; omega) (by omega) (by omega) rfl (by omega)) ?_
    rintro e w8 ⟨rfl, b8⟩
    refine ⟨_, rfl, hKS _ _ s7 b8, ?_⟩
    rw [E1.out]
    simp only [Act.put, List.setIfInBounds_toArray, List.set_cons_zero, List.set_cons_succ]
    refine wpU_val 10 hKS rfl (by kernel_rfl) (by kernel_rfl) (by kernel_rfl) rfl (fun _ _ _ _ h => h) (.tuple #[.int .i64 0, .int .i64 p, .int .i64 2]) (fun w' h => by simp [go_sem]) ?_
    simp only [Act.put, List.setIfInBounds_toArray, List.set_cons_zero, List.set_cons_succ]
    refine wpU_val 11 hKS rfl (by kernel_rfl) (by kernel_rfl) (by kernel_rfl) rfl (fun _ _ _ _ h => h) (.int .i64 0) (fun w' h => by simp [go_sem]) ?_
    simp only [Act.put, List.setIfInBounds_toArray, List.set_cons_zero, List.set_cons_succ]
    refine wpU_val 12 hKS rfl (by kernel_rfl) (by kernel_rfl) (by kernel_rfl) rfl (fun _ _ _ _ h => h) (.int .i64 p) (fun w' h => by simp [go_sem]) ?_
    simp only [Act.put, List.setIfInBounds_toArray, List.set_cons_zero, List.set_cons_succ]
    refine wpU_val 13 hKS rfl (by kernel_rfl) (by kernel_rfl) (by kernel_rfl) rfl (fun _ _ _ _ h => h) (.int .i64 2) (fun w' h => by simp [go_sem]) ?_
    simp only [Act.put, List.setIfInBounds_toArray, List.set_cons_zero, List.set_cons_succ]
    refine wpU_val 14 hKS rfl (by kernel_rfl) (by kernel_rfl) (by kernel_rfl) rfl (fun _ _ _ _ h => h) (.int .i64 0) (fun w' h => by simp [go_sem]) ?_
    simp only [Act.put, List.setIfInBounds_toArray, List.set_cons_zero, List.set_cons_succ]
    refine wpU_val 15 hKS rfl (by kernel_rfl) (by kernel_rfl) (by kernel_rfl) rfl (fun _ _ _ _ h => h) (.int .i64 p) (fun w' h => by simp [go_sem]) ?_
    simp only [Act.put, List.setIfInBounds_toArray, List.set_cons_zero, List.set_cons_succ]
    refine wpU_val 16 hKS rfl (by kernel_rfl) (by kernel_rfl) (by kernel_rfl) rfl (fun _ _ _ _ h => h) (.int .i64 2) (fun w' h => by simp [go_sem]) ?_
    simp only [Act.put, List.setIfInBounds_toArray, List.set_cons_zero, List.set_cons_succ]
    refine wpU_done (by kernel_rfl) ?_
    intro w9 b9 s9
    have U9 : Hid (But (fun k => k = g) w w9) := Lib.hid (But.ofBelow ((((((Below.refl _ w).drew.trans b5).trans (b6.mono b5.size)).trans (b7.mono (Nat.le_trans b5.size b6.size))).trans (b8.mono (Nat.le_trans (Nat.le_trans b5.size b6.size) b7.size))).trans (b9.mono (Nat.le_trans (Nat.le_trans (Nat.le_trans b5.size b6.size) b7.size) b8.size))))
    have HX9 := Lib.hid s9
    have x9 := s9.cell 1 rfl
    have f9 := s9.frozen 1
    clear hKS b5 s5 b6 sl6 in6 hr6 ho6 b7 s7 b8 b9 s9
    go_wp2_with fail
    refine (wrong_any p 2 _).mono ?_
    rintro e w10 ⟨rfl, rfl⟩
    unfold FaultN
    go_wp2_with fail
    exact ⟨rfl, bn_no HE.out (by decide) U9.out⟩
  · have E1 := Lib.hid e1
    clear e1
    go_enter Tryz.func55, Tryz.ntmps55
    have HE : Hid (R = BR.err p 3) := Lib.hid (by rw [HR.out]; unfold nLen; simp only [E1.out]; simp)
    go_upto_region 1 with fail
    have hKS : Keeps (fun w' => Box w' g 59 (RdN s p m)) := fun w w' h b => h.after b
    refine wp_region_U (w := w) (fun w' => Box w' g 59 (RdN s p m)) rfl HX.out.drew ?_
    refine wpU_val 0 hKS rfl (by kernel_rfl) (by kernel_rfl) (by kernel_rfl) rfl (fun _ _ _ _ h => h) (.pointer (some ⟨g, 0, none⟩)) (fun w' h => by simp [go_sem]) ?_
    simp only [Act.put, List.setIfInBounds_toArray, List.set_cons_zero, List.set_cons_succ]
    refine wpU_val 1 hKS rfl (by kernel_rfl) (by kernel_rfl) (by kernel_rfl) rfl (fun _ _ _ _ h => h) (.pointer (some ⟨g, 0, none⟩)) (fun w' h => by simp [go_sem]) ?_
    simp only [Act.put, List.setIfInBounds_toArray, List.set_cons_zero, List.set_cons_succ]
    refine wpU_val 2 hKS rfl (by kernel_rfl) (by kernel_rfl) (by kernel_rfl) rfl (fun _ _ _ _ h => h) (.pointer (some ⟨g, 0, none⟩)) (fun w' h => by simp [go_sem]) ?_
    simp only [Act.put, List.setIfInBounds_toArray, List.set_cons_zero, List.set_cons_succ]
    refine wpU_val 3 hKS rfl (by kernel_rfl) (by kernel_rfl) (by kernel_rfl) rfl (fun _ _ _ _ h => h) (.string s) (fun w' h => by simp [go_sem, h.cell 0 rfl]) ?_
    simp only [Act.put, List.setIfInBounds_toArray, List.set_cons_zero, List.set_cons_succ]
    refine wpU_val 5 hKS rfl (by kernel_rfl) (by kernel_rfl) (by kernel_rfl) rfl (fun _ _ _ _ h => h) (.pointer (some ⟨g, 0, none⟩)) (fun w' h => by simp [go_sem]) ?_
    simp only [Act.put, List.setIfInBounds_toArray, List.set_cons_zero, List.set_cons_succ]
    refine wpU_val 6 hKS rfl (by kernel_rfl) (by kernel_rfl) (by kernel_rfl) rfl (fun _ _ _ _ h => h) (.pointer (some ⟨g, 0, none⟩)) (fun w' h => by simp [go_sem]) ?_
    simp only [Act.put, List.setIfInBounds_toArray, List.set_cons_zero, List.set_cons_succ]
    refine wpU_val 7 hKS rfl (by kernel_rfl) (by kernel_rfl) (by kernel_rfl) rfl (fun _ _ _ _ h => h) (.pointer (some ⟨g, 1, none⟩)) (fun w' h => by simp [go_sem]) ?_
    simp only [Act.put, List.setIfInBounds_toArray, List.set_cons_zero, List.set_cons_succ]
    refine wpU_val 8 hKS rfl (by kernel_rfl) (by kernel_rfl) (by kernel_rfl) rfl (fun _ _ _ _ h => h) (.int .i64 p) (fun w' h => by simp [go_sem, h.cell 1 rfl]) ?_
    simp only [Act.put, List.setIfInBounds_toArray, List.set_cons_zero, List.set_cons_succ]
    refine wpU_one 4 rfl (by kernel_rfl) rfl ?_
    intro w5 b5 s5
    obtain ⟨v6, w6, hr6, ho6, b6⟩ := conv_own w5 s (by omega)
    refine wp_of_run v6 w6 (by simp [go_sem, hr6]) ?_
    refine ⟨hKS _ _ s5 b6, ?_⟩
    simp only [Act.put, List.setIfInBounds_toArray, List.set_cons_zero, List.set_cons_succ]
    obtain ⟨a6, n6, c6, rfl, sl6, in6⟩ := OwnB.parts ho6
    refine wpU_one 9 rfl (by kernel_rfl) rfl ?_
    intro w7 b7 s7
    refine wp_callR 73 #[.slice a6 n6 c6, .int .i64 p, .int .i64 4096] (by simp [go_sem]) _ (getLen_any a6 n6 c6 s.data.toList p 4096 4096 w7 (sl6.after b7) (by rw [sl6.1, HL.out]; omega) (by omega) (by omega) rfl (by omega)) ?_
    rintro e w8 ⟨rfl, b8⟩
    refine ⟨_, rfl, hKS _ _ s7 b8, ?_⟩
    rw [E1.out]
    simp only [Act.put, List.setIfInBounds_toArray, List.set_cons_zero, List.set_cons_succ]
    refine wpU_val 10 hKS rfl (by kernel_rfl) (by kernel_rfl) (by kernel_rfl) rfl (fun _ _ _ _ h => h) (.tuple #[.int .i64 0, .int .i64 p, .int .i64 3]) (fun w' h => by simp [go_sem]) ?_
    simp only [Act.put, List.setIfInBounds_toArray, List.set_cons_zero, List.set_cons_succ]
    refine wpU_val 11 hKS rfl (by kernel_rfl) (by kernel_rfl) (by kernel_rfl) rfl (fun _ _ _ _ h => h) (.int .i64 0) (fun w' h => by simp [go_sem]) ?_
    simp only [Act.put, List.setIfInBounds_toArray, List.set_cons_zero, List.set_cons_succ]
    refine wpU_val 12 hKS rfl (by kernel_rfl) (by kernel_rfl) (by kernel_rfl) rfl (fun _ _ _ _ h => h) (.int .i64 p) (fun w' h => by simp [go_sem]) ?_
    simp only [Act.put, List.setIfInBounds_toArray, List.set_cons_zero, List.set_cons_succ]
    refine wpU_val 13 hKS rfl (by kernel_rfl) (by kernel_rfl) (by kernel_rfl) rfl (fun _ _ _ _ h => h) (.int .i64 3) (fun w' h => by simp [go_sem]) ?_
    simp only [Act.put, List.setIfInBounds_toArray, List.set_cons_zero, List.set_cons_succ]
    refine wpU_val 14 hKS rfl (by kernel_rfl) (by kernel_rfl) (by kernel_rfl) rfl (fun _ _ _ _ h => h) (.int .i64 0) (fun w' h => by simp [go_sem]) ?_
    simp only [Act.put, List.setIfInBounds_toArray, List.set_cons_zero, List.set_cons_succ]
    refine wpU_val 15 hKS rfl (by kernel_rfl) (by kernel_rfl) (by kernel_rfl) rfl (fun _ _ _ _ h => h) (.int .i64 p) (fun w' h => by simp [go_sem]) ?_
    simp only [Act.put, List.setIfInBounds_toArray, List.set_cons_zero, List.set_cons_succ]
    refine wpU_val 16 hKS rfl (by kernel_rfl) (by kernel_rfl) (by kernel_rfl) rfl (fun _ _ _ _ h => h) (.int .i64 3) (fun w' h => by simp [go_sem]) ?_
    simp only [Act.put, List.setIfInBounds_toArray, List.set_cons_zero, List.set_cons_succ]
    refine wpU_done (by kernel_rfl) ?_
    intro w9 b9 s9
    have U9 : Hid (But (fun k => k = g) w w9) := Lib.hid (But.ofBelow ((((((Below.refl _ w).drew.trans b5).trans (b6.mono b5.size)).trans (b7.mono (Nat.le_trans b5.size b6.size))).trans (b8.mono (Nat.le_trans (Nat.le_trans b5.size b6.size) b7.size))).trans (b9.mono (Nat.le_trans (Nat.le_trans (Nat.le_trans b5.size b6.size) b7.size) b8.size))))
    have HX9 := Lib.hid s9
    have x9 := s9.cell 1 rfl
    have f9 := s9.frozen 1
    clear hKS b5 s5 b6 sl6 in6 hr6 ho6 b7 s7 b8 b9 s9
    go_wp2_with fail
    refine (wrong_any p 3 _).mono ?_
    rintro e w10 ⟨rfl, rfl⟩
    unfold FaultN
    go_wp2_with fail
    exact ⟨rfl, bn_no HE.out (by decide) U9.out⟩
  · have E1 := Lib.hid e1
    clear e1
    go_enter Tryz.func55, Tryz.ntmps55
    have HE : Hid (R = BR.err p 4) := Lib.hid (by rw [HR.out]; unfold nLen; simp only [E1.out]; simp)
    go_upto_region 1 with fail
    have hKS : Keeps (fun w' => Box w' g 59 (RdN s p m)) := fun w w' h b => h.after b
    refine wp_region_U (w := w) (fun w' => Box w' g 59 (RdN s p m)) rfl HX.out.drew ?_
    refine wpU_val 0 hKS rfl (by kernel_rfl) (by kernel_rfl) (by kernel_rfl) rfl (fun _ _ _ _ h => h) (.pointer (some ⟨g, 0, none⟩)) (fun w' h => by simp [go_sem]) ?_
    simp only [Act.put, List.setIfInBounds_toArray, List.set_cons_zero, List.set_cons_succ]
    refine wpU_val 1 hKS rfl (by kernel_rfl) (by kernel_rfl) (by kernel_rfl) rfl (fun _ _ _ _ h => h) (.pointer (some ⟨g, 0, none⟩)) (fun w' h => by simp [go_sem]) ?_
    simp only [Act.put, List.setIfInBounds_toArray, List.set_cons_zero, List.set_cons_succ]
    refine wpU_val 2 hKS rfl (by kernel_rfl) (by kernel_rfl) (by kernel_rfl) rfl (fun _ _ _ _ h => h) (.pointer (some ⟨g, 0, none⟩)) (fun w' h => by simp [go_sem]) ?_
    simp only [Act.put, List.setIfInBounds_toArray, List.set_cons_zero, List.set_cons_succ]
    refine wpU_val 3 hKS rfl (by kernel_rfl) (by kernel_rfl) (by kernel_rfl) rfl (fun _ _ _ _ h => h) (.string s) (fun w' h => by simp [go_sem, h.cell 0 rfl]) ?_
    simp only [Act.put, List.setIfInBounds_toArray, List.set_cons_zero, List.set_cons_succ]
    refine wpU_val 5 hKS rfl (by kernel_rfl) (by kernel_rfl) (by kernel_rfl) rfl (fun _ _ _ _ h => h) (.pointer (some ⟨g, 0, none⟩)) (fun w' h => by simp [go_sem]) ?_
    simp only [Act.put, List.setIfInBounds_toArray, List.set_cons_zero, List.set_cons_succ]
    refine wpU_val 6 hKS rfl (by kernel_rfl) (by kernel_rfl) (by kernel_rfl) rfl (fun _ _ _ _ h => h) (.pointer (some ⟨g, 0, none⟩)) (fun w' h => by simp [go_sem]) ?_
    simp only [Act.put, List.setIfInBounds_toArray, List.set_cons_zero, List.set_cons_succ]
    refine wpU_val 7 hKS rfl (by kernel_rfl) (by kernel_rfl) (by kernel_rfl) rfl (fun _ _ _ _ h => h) (.pointer (some ⟨g, 1, none⟩)) (fun w' h => by simp [go_sem]) ?_
    simp only [Act.put, List.setIfInBounds_toArray, List.set_cons_zero, List.set_cons_succ]
    refine wpU_val 8 hKS rfl (by kernel_rfl) (by kernel_rfl) (by kernel_rfl) rfl (fun _ _ _ _ h => h) (.int .i64 p) (fun w' h => by simp [go_sem, h.cell 1 rfl]) ?_
    simp only [Act.put, List.setIfInBounds_toArray, List.set_cons_zero, List.set_cons_succ]
    refine wpU_one 4 rfl (by kernel_rfl) rfl ?_
    intro w5 b5 s5
    obtain ⟨v6, w6, hr6, ho6, b6⟩ := conv_own w5 s (by omega)
    refine wp_of_run v6 w6 (by simp [go_sem, hr6]) ?_
    refine ⟨hKS _ _ s5 b6, ?_⟩
    simp only [Act.put, List.setIfInBounds_toArray, List.set_cons_zero, List.set_cons_succ]
    obtain ⟨a6, n6, c6, rfl, sl6, in6⟩ := OwnB.parts ho6
    refine wpU_one 9 rfl (by kernel_rfl) rfl ?_
    intro w7 b7 s7
    refine wp_callR 73 #[.slice a6 n6 c6, .int .i64 p, .int .i64 4096] (by simp [go_sem]) _ (getLen_any a6 n6 c6 s.data.toList p 4096 4096 w7 (sl6.after b7) (by rw [sl6.1, HL.out]; omega) (by omega) (by omega) rfl (by omega)) ?_
    rintro e w8 ⟨rfl, b8⟩
    refine ⟨_, rfl, hKS _ _ s7 b8, ?_⟩
    rw [E1.out]
    simp only [Act.put, List.setIfInBounds_toArray, List.set_cons_zero, List.set_cons_succ]
    refine wpU_val 10 hKS rfl (by kernel_rfl) (by kernel_rfl) (by kernel_rfl) rfl (fun _ _ _ _ h => h) (.tuple #[.int .i64 0, .int .i64 p, .int .i64 4]) (fun w' h => by simp [go_sem]) ?_
    simp only [Act.put, List.setIfInBounds_toArray, List.set_cons_zero, List.set_cons_succ]
    refine wpU_val 11 hKS rfl (by kernel_rfl) (by kernel_rfl) (by kernel_rfl) rfl (fun _ _ _ _ h => h) (.int .i64 0) (fun w' h => by simp [go_sem]) ?_
    simp only [Act.put, List.setIfInBounds_toArray, List.set_cons_zero, List.set_cons_succ]
    refine wpU_val 12 hKS rfl (by kernel_rfl) (by kernel_rfl) (by kernel_rfl) rfl (fun _ _ _ _ h => h) (.int .i64 p) (fun w' h => by simp [go_sem]) ?_
    simp only [Act.put, List.setIfInBounds_toArray, List.set_cons_zero, List.set_cons_succ]
    refine wpU_val 13 hKS rfl (by kernel_rfl) (by kernel_rfl) (by kernel_rfl) rfl (fun _ _ _ _ h => h) (.int .i64 4) (fun w' h => by simp [go_sem]) ?_
    simp only [Act.put, List.setIfInBounds_toArray, List.set_cons_zero, List.set_cons_succ]
    refine wpU_val 14 hKS rfl (by kernel_rfl) (by kernel_rfl) (by kernel_rfl) rfl (fun _ _ _ _ h => h) (.int .i64 0) (fun w' h => by simp [go_sem]) ?_
    simp only [Act.put, List.setIfInBounds_toArray, List.set_cons_zero, List.set_cons_succ]
    refine wpU_val 15 hKS rfl (by kernel_rfl) (by kernel_rfl) (by kernel_rfl) rfl (fun _ _ _ _ h => h) (.int .i64 p) (fun w' h => by simp [go_sem]) ?_
    simp only [Act.put, List.setIfInBounds_toArray, List.set_cons_zero, List.set_cons_succ]
    refine wpU_val 16 hKS rfl (by kernel_rfl) (by kernel_rfl) (by kernel_rfl) rfl (fun _ _ _ _ h => h) (.int .i64 4) (fun w' h => by simp [go_sem]) ?_
    simp only [Act.put, List.setIfInBounds_toArray, List.set_cons_zero, List.set_cons_succ]
    refine wpU_done (by kernel_rfl) ?_
    intro w9 b9 s9
    have U9 : Hid (But (fun k => k = g) w w9) := Lib.hid (But.ofBelow ((((((Below.refl _ w).drew.trans b5).trans (b6.mono b5.size)).trans (b7.mono (Nat.le_trans b5.size b6.size))).trans (b8.mono (Nat.le_trans (Nat.le_trans b5.size b6.size) b7.size))).trans (b9.mono (Nat.le_trans (Nat.le_trans (Nat.le_trans b5.size b6.size) b7.size) b8.size))))
    have HX9 := Lib.hid s9
    have x9 := s9.cell 1 rfl
    have f9 := s9.frozen 1
    clear hKS b5 s5 b6 sl6 in6 hr6 ho6 b7 s7 b8 b9 s9
    go_wp2_with fail
    refine (wrong_any p 4 _).mono ?_
    rintro e w10 ⟨rfl, rfl⟩
    unfold FaultN
    go_wp2_with fail
    exact ⟨rfl, bn_no HE.out (by decide) U9.out⟩
  · obtain ⟨q, hq⟩ : ∃ q, q = p + k := ⟨_, rfl⟩
    rw [← hq] at e1
    rw [← hq, HL.out] at hpk
    have E1 := Lib.hid e1
    have HRE : Hid (R = if s.data.toList.length ≤ q then BR.err s.data.toList.length 2 else if s.data.toList.getD q 0 ≠ 58 then BR.err q 3 else
      if s.data.toList.length - q - 1 < N then BR.err s.data.toList.length 2 else ⟨(s.data.toList.drop (q + 1)).take N, q + 1 + N, 0⟩) := Lib.hid (by rw [HR.out]; unfold nLen; simp only [E1.out]; simp)
    clear e1 ht hq HR
    go_enter Tryz.func55, Tryz.ntmps55
    go_upto_region 1 with fail
    have hKS : Keeps (fun w' => Box w' g 59 (RdN s p m)) := fun w w' h b => h.after b
    refine wp_region_U (w := w) (fun w' => Box w' g 59 (RdN s p m)) rfl HX.out.drew ?_
    refine wpU_val 0 hKS rfl (by kernel_rfl) (by kernel_rfl) (by kernel_rfl) rfl (fun _ _ _ _ h => h) (.pointer (some ⟨g, 0, none⟩)) (fun w' h => by simp [go_sem]) ?_
    simp only [Act.put, List.setIfInBounds_toArray, List.set_cons_zero, List.set_cons_succ]
    refine wpU_val 1 hKS rfl (by kernel_rfl) (by kernel_rfl) (by kernel_rfl) rfl (fun _ _ _ _ h => h) (.pointer (some ⟨g, 0, none⟩)) (fun w' h => by simp [go_sem]) ?_
    simp only [Act.put, List.setIfInBounds_toArray, List.set_cons_zero, List.set_cons_succ]
    refine wpU_val 2 hKS rfl (by kernel_rfl) (by kernel_rfl) (by kernel_rfl) rfl (fun _ _ _ _ h => h) (.pointer (some ⟨g, 0, none⟩)) (fun w' h => by simp [go_sem]) ?_
    simp only [Act.put, List.setIfInBounds_toArray, List.set_cons_zero, List.set_cons_succ]
    refine wpU_val 3 hKS rfl (by kernel_rfl) (by kernel_rfl) (by kernel_rfl) rfl (fun _ _ _ _ h => h) (.string s) (fun w' h => by simp [go_sem, h.cell 0 rfl]) ?_
    simp only [Act.put, List.setIfInBounds_toArray, List.set_cons_zero, List.set_cons_succ]
    refine wpU_val 5 hKS rfl (by kernel_rfl) (by kernel_rfl) (by kernel_rfl) rfl (fun _ _ _ _ h => h) (.pointer (some ⟨g, 0, none⟩)) (fun w' h => by simp [go_sem]) ?_
    simp only [Act.put, List.setIfInBounds_toArray, List.set_cons_zero, List.set_cons_succ]
    refine wpU_val 6 hKS rfl (by kernel_rfl) (by kernel_rfl) (by kernel_rfl) rfl (fun _ _ _ _ h => h) (.pointer (some ⟨g, 0, none⟩)) (fun w' h => by simp [go_sem]) ?_
    simp only [Act.put, List.setIfInBounds_toArray, List.set_cons_zero, List.set_cons_succ]
    refine wpU_val 7 hKS rfl (by kernel_rfl) (by kernel_rfl) (by kernel_rfl) rfl (fun _ _ _ _ h => h) (.pointer (some ⟨g, 1, none⟩)) (fun w' h => by simp [go_sem]) ?_
    simp only [Act.put, List.setIfInBounds_toArray, List.set_cons_zero, List.set_cons_succ]
    refine wpU_val 8 hKS rfl (by kernel_rfl) (by kernel_rfl) (by kernel_rfl) rfl (fun _ _ _ _ h => h) (.int .i64 p) (fun w' h => by simp [go_sem, h.cell 1 rfl]) ?_
    simp only [Act.put, List.setIfInBounds_toArray, List.set_cons_zero, List.set_cons_succ]
    refine wpU_one 4 rfl (by kernel_rfl) rfl ?_
    intro w5 b5 s5
    obtain ⟨v6, w6, hr6, ho6, b6⟩ := conv_own w5 s (by omega)
    refine wp_of_run v6 w6 (by simp [go_sem, hr6]) ?_
    refine ⟨hKS _ _ s5 b6, ?_⟩
    simp only [Act.put, List.setIfInBounds_toArray, List.set_cons_zero, List.set_cons_succ]
    obtain ⟨a6, n6, c6, rfl, sl6, in6⟩ := OwnB.parts ho6
    refine wpU_one 9 rfl (by kernel_rfl) rfl ?_
    intro w7 b7 s7
    refine wp_callR 73 #[.slice a6 n6 c6, .int .i64 p, .int .i64 4096] (by simp [go_sem]) _ (getLen_any a6 n6 c6 s.data.toList p 4096 4096 w7 (sl6.after b7) (by rw [sl6.1, HL.out]; omega) (by omega) (by omega) rfl (by omega)) ?_
    rintro e w8 ⟨rfl, b8⟩
    refine ⟨_, rfl, hKS _ _ s7 b8, ?_⟩
    rw [E1.out]
    simp only [Act.put, List.setIfInBounds_toArray, List.set_cons_zero, List.set_cons_succ]
    refine wpU_val 10 hKS rfl (by kernel_rfl) (by kernel_rfl) (by kernel_rfl) rfl (fun _ _ _ _ h => h) (.tuple #[.int .i64 N, .int .i64 q, .int .i64 0]) (fun w' h => by simp [go_sem]) ?_
    simp only [Act.put, List.setIfInBounds_toArray, List.set_cons_zero, List.set_cons_succ]
    refine wpU_val 11 hKS rfl (by kernel_rfl) (by kernel_rfl) (by kernel_rfl) rfl (fun _ _ _ _ h => h) (.int .i64 N) (fun w' h => by simp [go_sem]) ?_
    simp only [Act.put, List.setIfInBounds_toArray, List.set_cons_zero, List.set_cons_succ]
    refine wpU_val 12 hKS rfl (by kernel_rfl) (by kernel_rfl) (by kernel_rfl) rfl (fun _ _ _ _ h => h) (.int .i64 q) (fun w' h => by simp [go_sem]) ?_
    simp only [Act.put, List.setIfInBounds_toArray, List.set_cons_zero, List.set_cons_succ]
    refine wpU_val 13 hKS rfl (by kernel_rfl) (by kernel_rfl) (by kernel_rfl) rfl (fun _ _ _ _ h => h) (.int .i64 0) (fun w' h => by simp [go_sem]) ?_
    simp only [Act.put, List.setIfInBounds_toArray, List.set_cons_zero, List.set_cons_succ]
    refine wpU_val 14 hKS rfl (by kernel_rfl) (by kernel_rfl) (by kernel_rfl) rfl (fun _ _ _ _ h => h) (.int .i64 N) (fun w' h => by simp [go_sem]) ?_
    simp only [Act.put, List.setIfInBounds_toArray, List.set_cons_zero, List.set_cons_succ]
    refine wpU_val 15 hKS rfl (by kernel_rfl) (by kernel_rfl) (by kernel_rfl) rfl (fun _ _ _ _ h => h) (.int .i64 q) (fun w' h => by simp [go_sem]) ?_
    simp only [Act.put, List.setIfInBounds_toArray, List.set_cons_zero, List.set_cons_succ]
    refine wpU_val 16 hKS rfl (by kernel_rfl) (by kernel_rfl) (by kernel_rfl) rfl (fun _ _ _ _ h => h) (.int .i64 0) (fun w' h => by simp [go_sem]) ?_
    simp only [Act.put, List.setIfInBounds_toArray, List.set_cons_zero, List.set_cons_succ]
    refine wpU_done (by kernel_rfl) ?_
    intro w9 b9 s9
    have U9 : Hid (But (fun k => k = g) w w9) := Lib.hid (But.ofBelow ((((((Below.refl _ w).drew.trans b5).trans (b6.mono b5.size)).trans (b7.mono (Nat.le_trans b5.size b6.size))).trans (b8.mono (Nat.le_trans (Nat.le_trans b5.size b6.size) b7.size))).trans (b9.mono (Nat.le_trans (Nat.le_trans (Nat.le_trans b5.size b6.size) b7.size) b8.size))))
    have HX9 := Lib.hid s9
    have x9 := s9.cell 1 rfl
    have f9 := s9.frozen 1
    clear hKS b5 s5 b6 sl6 in6 hr6 ho6 b7 s7 b8 b9 s9
    go_upto_region 5 with fail
    have X10 : Box (w9.setCell ⟨g, 1, none⟩ (.int .i64 q)) g 59 (RdN s q m) := HX9.out.set 1 _
    have U10 := Lib.hid (U9.out.setCell (p := ⟨g, 1, none⟩) (.inl rfl) (.int .i64 q))
    change Code.wp _ _ _ _ (w9.setCell ⟨g, 1, none⟩ (.int .i64 q))
    generalize (w9.setCell ⟨g, 1, none⟩ (.int .i64 q)) = w10 at *
    have HX10 := Lib.hid X10
    clear X10 U9 HX9 x9 f9 E1
    go_wp2_with fail
    refine (signN_any g s q m 58 w10 HX10.out (by omega)).mono ?_
    rintro e w11 ⟨b11, ⟨h11, rfl⟩ | ⟨h11, k11, rfl⟩ | ⟨h11, k11, rfl, X11⟩⟩
    · unfold FaultN
      go_wp2_with fail
      exact ⟨rfl, bn_no (by rw [HRE.out, if_pos (by rw [HL.out]; exact h11), HL.out]) (by decide) (U10.out.trans b11 (fun k hk => .inl hk))⟩
    · unfold FaultN
      go_wp2_with fail
      exact ⟨rfl, bn_no (by rw [HRE.out, if_neg (by rw [HL.out]; omega), if_pos k11]) (by decide) (U10.out.trans b11 (fun k hk => .inl hk))⟩
    · have HRF : Hid (R = if s.size - q - 1 < N then BR.err s.size 2 else ⟨(s.data.toList.drop (q + 1)).take N, q + 1 + N, 0⟩) := Lib.hid (by rw [HRE.out, if_neg (by rw [HL.out]; omega), if_neg (by rw [k11]; simp), HL.out])
      obtain ⟨Q, hQ⟩ : ∃ Q, Q = q + 1 := ⟨_, rfl⟩
      rw [← hQ] at X11 HRF
      have HX11 := Lib.hid X11
      have U11 := Lib.hid (U10.out.trans b11 (fun k hk => .inl hk))
      have x0 := X11.cell 0 rfl
      have x1 := X11.cell 1 rfl
      have f1 := X11.frozen 1
      have hQs : Q ≤ s.size := by omega
      clear X11 b11 k11 HX10 U10 HRE
      by_cases hN : s.size - q - 1 < N
      · have hN' : (s.size : Int) - (Q : Int) < (N : Int) := by omega
        clear hQ
        go_upto_region 6 with fail
        go_quiet (fail)
        go_wp2_with fail
        refine (wrong_any s.size 2 _).mono ?_
        rintro e w12 ⟨rfl, rfl⟩
        unfold FaultN
        go_wp2_with fail
        exact ⟨rfl, bn_no (by rw [HRF.out, if_pos hN]) (by decide) (by first | exact U11.out | exact U11.out.drewN _ | exact (U11.out.drewN _).drewN _)⟩
      · have hN' : (N : Int) ≤ (s.size : Int) - (Q : Int) := by omega
        obtain ⟨T, hT⟩ : ∃ T, T = Q + N := ⟨_, rfl⟩
        have qT : (Q : Int) + (N : Int) = (T : Int) := by omega
        have qT2 : (T : Int) - (N : Int) = (Q : Int) := by omega
        have hTs : (T : Int) ≤ s.size := by omega
        have hQ0 : (0 : Int) ≤ Q := by omega
        have hQT : (Q : Int) ≤ T := by omega
        have hTQ : T - Q = N := by omega
        have hs6 : (s.size : Int) ≤ 100000 := by omega
        have HRG : Hid (R = ⟨(s.data.toList.drop Q).take N, T, 0⟩) := Lib.hid (by rw [HRF.out, if_neg hN, ← hT])
        have hwQ : IntKind.i64.wrap (Q : Int) = (Q : Int) := by rw [IntKind.wrap_i64]; omega
        clear HRF hN hT hQ
        go_upto_region 6 with fail
        go_quiet (fail)
        have X12 := HX11.out.drewN nq
        have U12 := U11.out.drewN nq
        generalize w11.drewN nq = w12 at *
        have x0 := X12.cell 0 rfl
        have x1 := X12.cell 1 rfl
        have f1 := X12.frozen 1
        go_upto_region 9 with fail
        have X13 : Box (w12.setCell ⟨g, 1, none⟩ (.int .i64 T)) g 59 (RdN s T m) := X12.set 1 _
        have U13 := U12.setCell (p := ⟨g, 1, none⟩) (.inl rfl) (.int .i64 T)
        first | rw [qT] | skip
        change Code.wp _ _ _ _ (w12.setCell ⟨g, 1, none⟩ (.int .i64 T))
        generalize (w12.setCell ⟨g, 1, none⟩ (.int .i64 T)) = w13 at *
        have hKS : Keeps (fun w' => Box w' g 59 (RdN s T m)) := fun w w' h b => h.after b
        have HX13 := Lib.hid X13
        have HU13 := Lib.hid U13
        clear X12 U12 x0 x1 f1 X13 U13 HX11 U11
        refine wp_region_U (w := w13) (fun w' => Box w' g 59 (RdN s T m)) rfl HX13.out.drew ?_
        refine wpU_val 0 hKS rfl (by kernel_rfl) (by kernel_rfl) (by kernel_rfl) rfl (fun _ _ _ _ h => h) (.pointer (some ⟨g, 0, none⟩)) (fun w' h => by simp [go_sem]) ?_
        simp only [Act.put, List.setIfInBounds_toArray, List.set_cons_zero, List.set_cons_succ]
        refine wpU_val 1 hKS rfl (by kernel_rfl) (by kernel_rfl) (by kernel_rfl) rfl (fun _ _ _ _ h => h) (.pointer (some ⟨g, 0, none⟩)) (fun w' h => by simp [go_sem]) ?_
        simp only [Act.put, List.setIfInBounds_toArray, List.set_cons_zero, List.set_cons_succ]
        refine wpU_val 2 hKS rfl (by kernel_rfl) (by kernel_rfl) (by kernel_rfl) rfl (fun _ _ _ _ h => h) (.pointer (some ⟨g, 0, none⟩)) (fun w' h => by simp [go_sem]) ?_
        simp only [Act.put, List.setIfInBounds_toArray, List.set_cons_zero, List.set_cons_succ]
        refine wpU_val 3 hKS rfl (by kernel_rfl) (by kernel_rfl) (by kernel_rfl) rfl (fun _ _ _ _ h => h) (.string s) (fun w' h => by simp [go_sem, h.cell 0 rfl]) ?_
        simp only [Act.put, List.setIfInBounds_toArray, List.set_cons_zero, List.set_cons_succ]
        refine wpU_val 4 hKS rfl (by kernel_rfl) (by kernel_rfl) (by kernel_rfl) rfl (fun _ _ _ _ h => h) (.pointer (some ⟨g, 0, none⟩)) (fun w' h => by simp [go_sem]) ?_
        simp only [Act.put, List.setIfInBounds_toArray, List.set_cons_zero, List.set_cons_succ]
        refine wpU_val 5 hKS rfl (by kernel_rfl) (by kernel_rfl) (by kernel_rfl) rfl (fun _ _ _ _ h => h) (.pointer (some ⟨g, 0, none⟩)) (fun w' h => by simp [go_sem]) ?_
        simp only [Act.put, List.setIfInBounds_toArray, List.set_cons_zero, List.set_cons_succ]
        refine wpU_val 6 hKS rfl (by kernel_rfl) (by kernel_rfl) (by kernel_rfl) rfl (fun _ _ _ _ h => h) (.pointer (some ⟨g, 1, none⟩)) (fun w' h => by simp [go_sem]) ?_
        simp only [Act.put, List.setIfInBounds_toArray, List.set_cons_zero, List.set_cons_succ]
        refine wpU_val 7 hKS rfl (by kernel_rfl) (by kernel_rfl) (by kernel_rfl) rfl (fun _ _ _ _ h => h) (.int .i64 T) (fun w' h => by simp [go_sem, h.cell 1 rfl]) ?_
        simp only [Act.put, List.setIfInBounds_toArray, List.set_cons_zero, List.set_cons_succ]
        refine wpU_val 8 hKS rfl (by kernel_rfl) (by kernel_rfl) (by kernel_rfl) rfl (fun _ _ _ _ h => h) (.int .i64 N) (fun w' h => by simp [go_sem]) ?_
        simp only [Act.put, List.setIfInBounds_toArray, List.set_cons_zero, List.set_cons_succ]
        refine wpU_val 9 hKS rfl (by kernel_rfl) (by kernel_rfl) (by kernel_rfl) rfl (fun _ _ _ _ h => h) (.int .i64 Q) (fun w' h => by simp [go_sem, qT2, hwQ]) ?_
        simp only [Act.put, List.setIfInBounds_toArray, List.set_cons_zero, List.set_cons_succ]
        refine wpU_val 10 hKS rfl (by kernel_rfl) (by kernel_rfl) (by kernel_rfl) rfl (fun _ _ _ _ h => h) (.pointer (some ⟨g, 0, none⟩)) (fun w' h => by simp [go_sem]) ?_
        simp only [Act.put, List.setIfInBounds_toArray, List.set_cons_zero, List.set_cons_succ]
        refine wpU_val 11 hKS rfl (by kernel_rfl) (by kernel_rfl) (by kernel_rfl) rfl (fun _ _ _ _ h => h) (.pointer (some ⟨g, 0, none⟩)) (fun w' h => by simp [go_sem]) ?_
        simp only [Act.put, List.setIfInBounds_toArray, List.set_cons_zero, List.set_cons_succ]
        refine wpU_val 12 hKS rfl (by kernel_rfl) (by kernel_rfl) (by kernel_rfl) rfl (fun _ _ _ _ h => h) (.pointer (some ⟨g, 1, none⟩)) (fun w' h => by simp [go_sem]) ?_
        simp only [Act.put, List.setIfInBounds_toArray, List.set_cons_zero, List.set_cons_succ]
        refine wpU_val 13 hKS rfl (by kernel_rfl) (by kernel_rfl) (by kernel_rfl) rfl (fun _ _ _ _ h => h) (.int .i64 T) (fun w' h => by simp [go_sem, h.cell 1 rfl]) ?_
        simp only [Act.put, List.setIfInBounds_toArray, List.set_cons_zero, List.set_cons_succ]
        refine wpU_val 14 hKS rfl (by kernel_rfl) (by kernel_rfl) (by kernel_rfl) rfl (fun _ _ _ _ h => h) (.string (s.extract Q T)) (fun w' h => by simp [go_sem, hQ0, hQT, hTs]; try omega) ?_
        simp only [Act.put, List.setIfInBounds_toArray, List.set_cons_zero, List.set_cons_succ]
        refine wpU_one 15 rfl (by kernel_rfl) rfl ?_
        intro w14 b14 s14
        obtain ⟨v15, w15, hr15, ho15, b15⟩ := conv_own w14 (s.extract Q T) (by simp; omega)
        refine wp_of_run v15 w15 (by simp [go_sem, hr15]) ?_
        refine ⟨hKS _ _ s14 b15, ?_⟩
        simp only [Act.put, List.setIfInBounds_toArray, List.set_cons_zero, List.set_cons_succ]
        obtain ⟨a15, n15, c15, rfl, sl15, in15⟩ := OwnB.parts ho15
        refine wpU_val 16 hKS rfl (by kernel_rfl) (by kernel_rfl) (by kernel_rfl) rfl (fun _ _ _ _ h => h) (.slice a15 n15 c15) (fun w' h => by simp [go_sem]) ?_
        simp only [Act.put, List.setIfInBounds_toArray, List.set_cons_zero, List.set_cons_succ]
        refine wpU_done (by kernel_rfl) ?_
        intro w16 b16 s16
        have Bl : Below w13.heap.size w13 w16 := (((Below.refl _ w13).drew.trans b14).trans (b15.mono b14.size)).trans (b16.mono (Nat.le_trans b14.size b15.size))
        rw [extract_data, hTQ] at sl15
        have HF := Lib.hid (bn_yes (m := m) HRG.out (HU13.out.trans (But.ofBelow (S := fun _ => False) Bl) (fun _ h => h.elim)) (sl15.after b16) (in15.mono (fun k hk => Nat.le_trans HU13.out.size (Nat.le_trans b14.size hk))) s16)
        clear hKS b14 s14 b15 sl15 in15 hr15 ho15 b16 s16 Bl
        go_wp2_with fail
        go_ret
        exact HF.out

end Go.Proofs.YtkbblhioncecmaaGreatDoor
namespace Go.Proofs.YtkbblhioncecmaaGreatDoor
open Go.RowKit
set_option linter.unusedSimpArgs false
set_option linter.unusedVariables false

theorem drop_head (f : UInt8 → Bool) : ∀ (r : List UInt8) (h : (r.takeWhile f).length < r.length), f (r[(r.takeWhile f).length]'h) = false
  | [], h => by simp at h
  | c :: r, h => by
    cases hf : f c with
    | true =>
      have e : (c :: r).takeWhile f = c :: r.takeWhile f := List.takeWhile_cons_of_pos hf
      have h' : (r.takeWhile f).length < r.length := by rw [e] at h; simpa using h
      have := drop_head f r h'
      simp only [e, List.length_cons, List.getElem_cons_succ]
      exact this
    | false =>
      have e : (c :: r).takeWhile f = [] := List.takeWhile_cons_of_neg (by rw [hf]; simp)
      simp only [e, List.length_nil, List.getElem_cons_zero]
      exact hf
theorem skipN_idem (l : List UInt8) (p : Nat) : skipN l (skipN l p) = skipN l p := by
  rcases Nat.lt_or_ge (skipN l p) l.length with h | h
  · refine skipN_other h ?_
    have h2 : ((l.drop p).takeWhile blankB).length < (l.drop p).length := by
      unfold skipN at h
      simp
      omega
    have := drop_head blankB (l.drop p) h2
    rw [List.getElem_drop] at this
    exact this
  · exact skipN_end h
theorem nLen_place {l : List UInt8} {p : Nat} (h : (nLen l p).e = 0) : p < (nLen l p).p ∧ (nLen l p).p ≤ l.length := by
  unfold nLen at h ⊢
  rcases lenR_cases l p 4096 with ⟨h1, e1⟩ | ⟨h1, h2, e1⟩ | ⟨h1, e1⟩ | ⟨k, N, hk, hpk, hmk, ht, e1⟩
  · simp [e1, BR.err] at h
  · simp [e1, BR.err] at h
  · simp [e1, BR.err] at h
  · simp only [e1, ne_eq, not_true, if_false, Int.toNat_natCast] at h ⊢
    split at h
    · simp [BR.err] at h
    · split at h
      · simp [BR.err] at h
      · split at h
        · simp [BR.err] at h
        · rename_i h1 h2 h3
          rw [if_neg h1, if_neg h2, if_neg h3]
          dsimp only
          omega
theorem pre_e {y : List UInt8} {R : BR} (h : (R.pre y).e = 0) : R.e = 0 ∧ (R.pre y).p = R.p := by
  unfold BR.pre at h ⊢
  split at h
  · rename_i h1
    rw [if_pos h1]
    exact ⟨h1, rfl⟩
  · rename_i h1
    exact absurd h h1
theorem nQuo_place (l : List UInt8) : ∀ f p, (nQuo l f p).e = 0 → p < (nQuo l f p).p ∧ (nQuo l f p).p ≤ l.length
  | 0, p, h => by simp [nQuo, BR.err] at h
  | f + 1, p, h => by
    unfold nQuo at h ⊢
    by_cases h1 : l.length ≤ p
    · rw [if_pos h1] at h; simp [BR.err] at h
    · rw [if_neg h1] at h ⊢
      by_cases h2 : l.getD p 0 = 34
      · rw [if_pos h2]; dsimp only; omega
      · rw [if_neg h2] at h ⊢
        by_cases h3 : l.getD p 0 ≠ 92
        · rw [if_pos h3] at h ⊢
          obtain ⟨h4, h5⟩ := pre_e h
          rw [h5]
          have := nQuo_place l f (p + 1) h4
          omega
        · rw [if_neg h3] at h ⊢
          by_cases h6 : (nEsc l (p + 1)).e ≠ 0
          · rw [if_pos h6] at h; exact absurd h h6
          · rw [if_neg h6] at h ⊢
            obtain ⟨h4, h5⟩ := pre_e h
            rw [h5]
            have := nQuo_place l f _ h4
            have := nEsc_place l (p + 1) (by omega)
            omega
theorem nHex_place {l : List UInt8} {p : Nat} (hp : p ≤ l.length) (h : (nHex l p).e = 0) : p < (nHex l p).p ∧ (nHex l p).p ≤ l.length := by
  have hl := nSome_len hexC 35 (l.drop p) p
  unfold nHex at h ⊢
  dsimp only at h ⊢
  generalize nSome hexC 35 (l.drop p) p = x at *
  rw [List.length_drop] at hl
  split at h
  · rename_i h1; exact absurd h h1
  · rename_i h1
    rw [if_neg h1]
    have := hl.2.2.1 (by omega)
    cases hu : unhex x.b with
    | none => rw [hu] at h; simp [BR.err] at h
    | some b => dsimp only; omega
theorem nB64_place {l : List UInt8} {p : Nat} {en : UInt8} (hp : p ≤ l.length) (h : (nB64 l p en).e = 0) : p < (nB64 l p en).p ∧ (nB64 l p en).p ≤ l.length := by
  have hl := nSome_len b64C en (l.drop p) p
  unfold nB64 at h ⊢
  dsimp only at h ⊢
  generalize nSome b64C en (l.drop p) p = x at *
  rw [List.length_drop] at hl
  split at h
  · rename_i h1; exact absurd h h1
  · rename_i h1
    rw [if_neg h1]
    have := hl.2.2.1 (by omega)
    cases hu : unb64 x.b with
    | none => rw [hu] at h; simp [BR.err] at h
    | some b => dsimp only; omega
theorem nPlain_place {l : List UInt8} {p : Nat} (h : (nPlain l p).e = 0) : p < (nPlain l p).p ∧ (nPlain l p).p ≤ l.length := by
  unfold nPlain at h ⊢
  by_cases h1 : l.length ≤ p
  · rw [if_pos h1] at h; simp [BR.err] at h
  · rw [if_neg h1] at h ⊢
    split at h
    · rename_i h2; rw [if_pos h2]; exact nLen_place h
    · rename_i h2; rw [if_neg h2]
      split at h
      · rename_i h3; rw [if_pos h3]
        have := nQuo_place l (l.length + 1) (p + 1) h
        unfold nQuote
        omega
      · rename_i h3; rw [if_neg h3]
        split at h
        · rename_i h4; rw [if_pos h4]
          have := nHex_place (by omega) h
          omega
        · rename_i h4; rw [if_neg h4]
          split at h
          · rename_i h5; rw [if_pos h5]
            have := nB64_place (by omega) h
            omega
          · rename_i h5; rw [if_neg h5]
            split at h
            · rename_i h6
              rw [if_pos h6]
              have e : (l.drop p) = l[p] :: l.drop (p + 1) := List.drop_eq_getElem_cons (by omega)
              have e2 : l.getD p 0 = l[p] := by rw [List.getD_eq_getElem?_getD, List.getElem?_eq_getElem (by omega)]; rfl
              rw [e2] at h6
              have := (List.takeWhile_sublist (l := l.drop p) signB).length_le
              rw [List.length_drop] at this
              dsimp only
              refine ⟨?_, by omega⟩
              rw [e, List.takeWhile_cons_of_pos h6, List.length_cons]
              omega
            · simp [BR.err] at h
theorem Nt_place {l : List UInt8} {m : Option (List Sx)} {p lv n : Nat} {r : RV} (h : Nt l m p lv n r) (he : r.e = 0) (hp : p ≤ l.length) : p < r.p ∧ r.p ≤ l.length ∧ (n ≤ 512 → r.n ≤ 512) ∧ n ≤ r.n := by
  induction h with
  | short h1 => simp [RV.err] at he
  | bad h1 h2 => simp [RV.err] at he
  | long h1 h2 h3 => simp [RV.err] at he
  | @hint p lv n h1 h2 h3 =>
    have := skipN_le hp
    unfold nHint at he ⊢
    dsimp only at he ⊢
    split at he
    · rename_i h4; exact absurd he h4
    · rename_i h4
      rw [if_neg h4]
      split at he
      · simp [RV.err] at he
      · rename_i h5
        rw [if_neg h5]
        split at he
        · simp [RV.err] at he
        · rename_i h6
          rw [if_neg h6]
          split at he
          · rename_i h7; exact absurd he h7
          · rename_i h7
            rw [if_neg h7]
            dsimp only
            have a1 := skipN_le (l := l) (p := skipN l p + 1) (by omega)
            have a2 := nPlain_place (l := l) (p := skipN l (skipN l p + 1)) (by omega)
            have a3 := skipN_le (l := l) (p := (nPlain l (skipN l (skipN l p + 1))).p) (by omega)
            have a4 := skipN_le (l := l) (p := skipN l (nPlain l (skipN l (skipN l p + 1))).p + 1) (by omega)
            have a5 := nPlain_place (l := l) (p := skipN l (skipN l (nPlain l (skipN l (skipN l p + 1))).p + 1)) (by omega)
            exact ⟨by omega, by omega, fun _ => h3, by omega⟩
  | @atom p lv n h1 h2 h3 h4 h5 =>
    have := skipN_le hp
    unfold nAtom at he ⊢
    dsimp only at he ⊢
    split at he
    · rename_i h6; exact absurd he h6
    · rename_i h6
      rw [if_neg h6]
      have a1 := nPlain_place (l := l) (p := skipN l p) (by omega)
      dsimp only
      exact ⟨by omega, by omega, fun _ => h5, by omega⟩
  | list h1 h2 h3 h4 h5 ih =>
    have := skipN_le hp
    have := ih he (by omega)
    exact ⟨by omega, by omega, fun _ => this.2.2.1 h3, by omega⟩
  | close h1 h2 =>
    have := skipN_le hp
    dsimp only
    exact ⟨by omega, by omega, fun h => h, Nat.le_refl _⟩
  | fail h1 h2 h3 ih => exact absurd he h3
  | more h1 h2 h3 h4 h5 ih1 ih2 =>
    have := skipN_le hp
    have a1 := ih1 h4 (by omega)
    have a2 := ih2 he (by omega)
    exact ⟨by omega, by omega, fun h => a2.2.2.1 (a1.2.2.1 h), by omega⟩
end Go.Proofs.YtkbblhioncecmaaGreatDoor
namespace Go.Proofs.YtkbblhioncecmaaGreatDoor
open Go.RowKit
set_option linter.unusedSimpArgs false
set_option linter.unusedVariables false


set_option maxHeartbeats 16000000 in
set_option maxRecDepth 100000 in
theorem plainN_any (g : Nat) (s : ByteArray) (p m : Nat) (w : World) (hX : Box w g 59 (RdN s p m)) (hs : s.size ≤ 100000) (hp : p ≤ s.size) :
    Calls Tryz.prog 36 #[.pointer (some ⟨g, 0, none⟩)] w (BytesN g s m (nPlain s.data.toList p) w) := by
  have HL : Hid (s.data.toList.length = s.size) := Lib.hid (by simp)
  obtain ⟨R, hR⟩ : ∃ R, R = nPlain s.data.toList p := ⟨_, rfl⟩
  rw [← hR]
  have HR := Lib.hid hR
  have hgw := hX.lt
  have HX := Lib.hid hX
  clear hR hX
  go_enter Tryz.func36, Tryz.ntmps36
  go_wp2_with fail
  refine (peek_any g s p m w HX.out (by omega)).mono ?_
  rintro e w1 ⟨hb1, ⟨h1, rfl⟩ | ⟨h1, rfl⟩⟩
  · unfold FaultN
    go_wp2_with fail
    exact ⟨rfl, bn_no (by rw [HR.out]; unfold nPlain; rw [if_pos (by rw [HL.out]; exact h1), HL.out]) (by decide) (But.ofBelow hb1)⟩
  obtain ⟨x, hx⟩ : ∃ x, x = s.data.toList.getD p 0 := ⟨_, rfl⟩
  rw [← hx]
  have HR1 : Hid (R = if numB x then nLen s.data.toList p else if x = 34 then nQuote s.data.toList (p + 1) else if x = 35 then nHex s.data.toList (p + 1) else if x = 124 then nB64 s.data.toList (p + 1) 124 else
      if signB x then ⟨(s.data.toList.drop p).takeWhile signB, p + ((s.data.toList.drop p).takeWhile signB).length, 0⟩ else BR.err p 3) := Lib.hid (by rw [HR.out]; unfold nPlain; rw [if_neg (by rw [HL.out]; omega), ← hx])
  have HXC := Lib.hid hx
  have X1 := Lib.hid (HX.out.after hb1)
  have U1 : Hid (But (fun k => k = g) w w1) := Lib.hid (But.ofBelow hb1)
  have hx255 := x.toNat_lt
  clear hx hb1 HX HR
  have hp6 : (p : Int) ≤ 1000000 := by omega
  go_wp2_with fail
  refine (is_any _ x _).mono ?_
  rintro e w9 ⟨rfl, rfl⟩
  rw [goodD]
  cases hn : numB x with
  | true =>
    have HRE : Hid (R = nLen s.data.toList p) := Lib.hid (by rw [HR1.out, hn]; rfl)
    clear hn
    go_wp2_with fail
    refine (lengthN_any g s p m w9 X1.out hs (by omega)).mono ?_
    rintro e w2 hP
    have HP := Lib.hid hP
    obtain ⟨b2, ⟨h2, rfl⟩ | ⟨h2, a, n, c, rfl, s2, i2, X2⟩⟩ := hP
    · clear b2 h2
      unfold FaultN at HP ⊢
      go_wp2_with fail
      exact ⟨rfl, by rw [HRE.out]; exact BytesN.trans U1.out HP.out⟩
    · clear b2 h2 s2 i2 X2
      go_wp2_with fail
      go_ret
      rw [HRE.out]
      exact BytesN.trans U1.out HP.out
  | false =>
    replace HR1 := Lib.hid (HR1.out.trans (if_neg (by rw [hn]; simp)))
    clear hn
    by_cases h34 : x = 34
    · obtain ⟨e1, e2, e3⟩ := bEq (a := x) 34 34 rfl (by rw [h34]; rfl)
      have HRE : Hid (R = nQuote s.data.toList (p + 1)) := Lib.hid (HR1.out.trans (if_pos h34))
      clear h34 e3
      go_wp2_with fail
      refine (quotedN_any g s p m w9 X1.out hs h1).mono ?_
      rintro e w2 hP
      have HP := Lib.hid hP
      obtain ⟨b2, ⟨h2, rfl⟩ | ⟨h2, a, n, c, rfl, s2, i2, X2⟩⟩ := hP
      · clear b2 h2
        unfold FaultN at HP ⊢
        go_wp2_with fail
        exact ⟨rfl, by rw [HRE.out]; exact BytesN.trans U1.out HP.out⟩
      · clear b2 h2 s2 i2 X2
        go_wp2_with fail
        go_ret
        rw [HRE.out]
        exact BytesN.trans U1.out HP.out
    · obtain ⟨e1, e2, e3⟩ := bNe (a := x) 34 34 rfl (fun e => h34 (by rw [← UInt8.toNat_inj]; exact e))
      replace HR1 := Lib.hid (HR1.out.trans (if_neg h34))
      clear h34 e3
      have x1 := X1.out.cell 1 rfl
      have f1 := X1.out.frozen 1
      by_cases h35 : x = 35
      · obtain ⟨e4, e5, e6⟩ := bEq (a := x) 35 35 rfl (by rw [h35]; rfl)
        have HRE : Hid (R = nHex s.data.toList (p + 1)) := Lib.hid (HR1.out.trans (if_pos h35))
        clear h35 e6
        have hln : (nSome hexC 35 (s.data.toList.drop (p + 1)) (p + 1)).b.length ≤ 100000 ∧ (nSome hexC 35 (s.data.toList.drop (p + 1)) (p + 1)).p ≤ 100000 := by
          have := nSome_len hexC 35 (s.data.toList.drop (p + 1)) (p + 1)
          rw [List.length_drop, HL.out] at this
          exact ⟨by omega, by omega⟩
        have X2 : Box (w9.setCell ⟨g, 1, none⟩ (.int .i64 ((p : Int) + 1))) g 59 (RdN s (p + 1) m) := X1.out.set 1 _
        have U2 := Lib.hid (U1.out.setCell (p := ⟨g, 1, none⟩) (.inl rfl) (.int .i64 ((p : Int) + 1)))
        have HX2 := Lib.hid X2
        go_upto_region 8 with fail
        change Code.wp _ _ _ _ (w9.setCell ⟨g, 1, none⟩ (.int .i64 ((p : Int) + 1)))
        generalize (w9.setCell ⟨g, 1, none⟩ (.int .i64 ((p : Int) + 1))) = w0 at *
        clear X2 X1 U1 x1 f1
        go_wp2_with fail
        refine (untilN_any hexC 35 ⟨hexsL.toArray⟩ good16 g s (p + 1) m w0 HX2.out (by omega) (by omega)).mono ?_
        rintro e w1 ⟨b1, ⟨h1, rfl⟩ | ⟨h1, rfl, X1⟩⟩
        · unfold FaultN
          go_wp2_with fail
          exact ⟨rfl, bn_no (by rw [HRE.out]; unfold nHex; dsimp only; rw [if_pos h1]) h1 (U2.out.trans b1 (fun k hk => .inl hk))⟩
        · have HX1 := Lib.hid X1
          have HB1 := Lib.hid (U2.out.trans b1 (fun k hk => .inl hk))
          have H1 := Lib.hid h1
          have HLN := Lib.hid hln
          clear X1 b1 h1 hln
          obtain ⟨x, hx⟩ : ∃ x, x = nSome hexC 35 (s.data.toList.drop (p + 1)) (p + 1) := ⟨_, rfl⟩
          rw [← hx] at HX1 H1 HLN ⊢
          have HXX := Lib.hid hx
          clear hx
          go_wp2_with fail
          refine (unhexO_any ⟨x.b.toArray⟩ w1 (by have := HLN.out; show x.b.toArray.size ≤ _; simp; omega)).mono ?_
          rintro e w2 ⟨a, n, c, rfl, s2, i2, b2⟩
          have hdl : (ByteArray.mk x.b.toArray).data.toList = x.b := by simp
          rw [hdl] at s2 ⊢
          have X2 := HX1.out.after b2
          have x1 := X2.cell 1 rfl
          have f1 := X2.frozen 1
          have HX2 := Lib.hid X2
          have HS2 := Lib.hid s2
          have HI2 := Lib.hid i2
          have HB2 := Lib.hid (HB1.out.trans (But.ofBelow (S := fun _ => False) b2) (fun _ h => h.elim))
          have hz12 := HB1.out.size
          have hxp : (x.p : Int) ≤ 1000000 := by have := HLN.out.2; omega
          clear X2 s2 i2 b2 hdl
          cases hu : unhex x.b with
          | none =>
            rw [errForm_none]
            have HU := Lib.hid hu
            clear hu
            go_wp2_with fail
            refine (wrong_any x.p 3 _).mono ?_
            rintro e w3 ⟨rfl, rfl⟩
            unfold FaultN
            go_wp2_with fail
            exact ⟨rfl, bn_no (by rw [HRE.out]; unfold nHex; dsimp only; rw [← HXX.out, if_neg (by rw [H1.out]; simp), HU.out]) (by decide) HB2.out⟩
          | some b =>
            rw [errForm_some]
            have HU := Lib.hid hu
            rw [hu] at HS2
            clear hu
            go_wp2_with fail
            have e4 : But (fun k => k = g) w2 (w2.setCell ⟨g, 1, none⟩ (.int .i64 ((x.p : Int) + 1))) := (But.refl (fun k => k = g) w2).setCell (p := ⟨g, 1, none⟩) (.inl rfl) _
            go_ret
            exact bn_yes (by rw [HRE.out]; unfold nHex; dsimp only; rw [← HXX.out, if_neg (by rw [H1.out]; simp), HU.out]; rfl) (HB2.out.setCell (p := ⟨g, 1, none⟩) (.inl rfl) _) (HS2.out.but e4 HI2.out (fun k hk => by omega)) (HI2.out.mono fun k hk => by omega) (HX2.out.set 1 _)
      · obtain ⟨e4, e5, e6⟩ := bNe (a := x) 35 35 rfl (fun e => h35 (by rw [← UInt8.toNat_inj]; exact e))
        replace HR1 := Lib.hid (HR1.out.trans (if_neg h35))
        clear h35 e6
        by_cases h124 : x = 124
        · obtain ⟨e7, e8, e9⟩ := bEq (a := x) 124 124 rfl (by rw [h124]; rfl)
          have HRE : Hid (R = nB64 s.data.toList (p + 1) 124) := Lib.hid (HR1.out.trans (if_pos h124))
          clear h124 e9
          have X2 : Box (w9.setCell ⟨g, 1, none⟩ (.int .i64 ((p : Int) + 1))) g 59 (RdN s (p + 1) m) := X1.out.set 1 _
          have U2 := Lib.hid (U1.out.setCell (p := ⟨g, 1, none⟩) (.inl rfl) (.int .i64 ((p : Int) + 1)))
          have HX2 := Lib.hid X2
          clear X2
          go_wp2_with fail
          refine (base64N_any 124 g s (p + 1) m _ HX2.out hs (by omega)).mono ?_
          rintro e w2 hP
          have HP := Lib.hid hP
          obtain ⟨b2, ⟨h2, rfl⟩ | ⟨h2, a, n, c, rfl, s2, i2, X2⟩⟩ := hP
          · clear b2 h2
            unfold FaultN at HP ⊢
            go_wp2_with fail
            exact ⟨rfl, by rw [HRE.out]; exact BytesN.trans U2.out HP.out⟩
          · clear b2 h2 s2 i2 X2
            go_wp2_with fail
            go_ret
            rw [HRE.out]
            exact BytesN.trans U2.out HP.out
        · obtain ⟨e7, e8, e9⟩ := bNe (a := x) 124 124 rfl (fun e => h124 (by rw [← UInt8.toNat_inj]; exact e))
          replace HR1 := Lib.hid (HR1.out.trans (if_neg h124))
          clear h124 e9
          go_wp2_with fail
          refine (is_any ⟨signL.toArray⟩ x _).mono ?_
          rintro e w8 ⟨rfl, rfl⟩
          rw [goodS]
          cases hsg : signB x with
          | false =>
            have HRE : Hid (R = BR.err p 3) := Lib.hid (HR1.out.trans (if_neg (by rw [hsg]; simp)))
            clear hsg
            go_wp2_with fail
            refine (wrong_any p 3 _).mono ?_
            rintro e w7 ⟨rfl, rfl⟩
            unfold FaultN
            go_wp2_with fail
            exact ⟨rfl, bn_no HRE.out (by decide) U1.out⟩
          | true =>
            have HRE : Hid (R = ⟨(s.data.toList.drop p).takeWhile signB, runN s.data.toList p, 0⟩) := Lib.hid (HR1.out.trans (if_pos (by rw [hsg])))
            clear hsg HR1
            go_wp2_with fail
            go_loopw [] (fun wr => ∃ k : Nat, p ≤ k ∧ k ≤ s.size ∧ Hid (runN s.data.toList k = runN s.data.toList p) ∧ Box wr g 59 (RdN s k m) ∧ But (fun k => k = g) w wr) (fun wr => s.size - atN wr g)
            case atStart => exact ⟨p, Nat.le_refl _, by omega, Lib.hid rfl, X1.out, U1.out⟩
            case round =>
              obtain ⟨k, hpk, hk, hsk, hX2, hbut⟩ := hrel
              clear X1 U1 x1 f1
              have HAT := Lib.hid (atN_eq hX2)
              have HX := Lib.hid hX2
              have HBU := Lib.hid hbut
              clear hX2 hbut
              have hp0 : (0 : Int) ≤ p := by omega
              have hpk' : (p : Int) ≤ k := by omega
              have hks : (k : Int) ≤ s.size := by omega
              by_cases hlt : k < s.size
              · have hk0 : (0 : Int) ≤ k := by omega
                have hk1 : (k : Int) < s.size := by omega
                obtain ⟨c, hc⟩ : ∃ c, c = s.data.toList.getD k 0 := ⟨_, rfl⟩
                have HCH := Lib.hid hc
                clear hc
                have HGK := Lib.hid (show s.data.toList[k]'(by rw [HL.out]; exact hlt) = c by rw [HCH.out, List.getD_eq_getElem?_getD, List.getElem?_eq_getElem (by rw [HL.out]; exact hlt)]; rfl)
                cases hbb : signB c with
                | true =>
                  have HBB := Lib.hid hbb
                  clear hbb
                  go_upto_region 19 with fail
                  refine wp_region_made wr.heap.size wr rfl (by kernel_rfl) (Below.refl _ _) ?_
                  refine wpQ_run rfl (.pointer (some ⟨g, 0, none⟩)) (fun w' hw => by simp [go_sem]) ?_
                  simp only [Act.put, List.setIfInBounds_toArray, List.set_cons_zero, List.set_cons_succ]
                  refine wpQ_run rfl (.pointer (some ⟨g, 0, none⟩)) (fun w' hw => by simp [go_sem]) ?_
                  simp only [Act.put, List.setIfInBounds_toArray, List.set_cons_zero, List.set_cons_succ]
                  refine wpQ_run rfl (.pointer (some ⟨g, 1, none⟩)) (fun w' hw => by simp [go_sem]) ?_
                  simp only [Act.put, List.setIfInBounds_toArray, List.set_cons_zero, List.set_cons_succ]
                  refine wpQ_run rfl (.int .i64 k) (fun w' hw => by have := (HX.out.after hw).cell 1 rfl; simp [go_sem, this]) ?_
                  simp only [Act.put, List.setIfInBounds_toArray, List.set_cons_zero, List.set_cons_succ]
                  refine wpQ_run rfl (.pointer (some ⟨g, 0, none⟩)) (fun w' hw => by simp [go_sem]) ?_
                  simp only [Act.put, List.setIfInBounds_toArray, List.set_cons_zero, List.set_cons_succ]
                  refine wpQ_run rfl (.pointer (some ⟨g, 0, none⟩)) (fun w' hw => by simp [go_sem]) ?_
                  simp only [Act.put, List.setIfInBounds_toArray, List.set_cons_zero, List.set_cons_succ]
                  refine wpQ_run rfl (.pointer (some ⟨g, 0, none⟩)) (fun w' hw => by simp [go_sem]) ?_
                  simp only [Act.put, List.setIfInBounds_toArray, List.set_cons_zero, List.set_cons_succ]
                  refine wpQ_run rfl (.string s) (fun w' hw => by have := (HX.out.after hw).cell 0 rfl; simp [go_sem, this]) ?_
                  simp only [Act.put, List.setIfInBounds_toArray, List.set_cons_zero, List.set_cons_succ]
                  refine wpQ_run rfl (.int .i64 s.size) (fun w' hw => by simp [go_sem]) ?_
                  simp only [Act.put, List.setIfInBounds_toArray, List.set_cons_zero, List.set_cons_succ]
                  refine wpQ_run rfl (.bool true) (fun w' hw => by simp [go_sem]; omega) ?_
                  simp only [Act.put, List.setIfInBounds_toArray, List.set_cons_zero, List.set_cons_succ]
                  refine wpQ_run rfl (.bool true) (fun w' hw => by simp [go_sem]) ?_
                  simp only [Act.put, List.setIfInBounds_toArray, List.set_cons_zero, List.set_cons_succ]
                  refine wpQ_run rfl (.pointer (some ⟨g, 0, none⟩)) (fun w' hw => by simp [go_sem]) ?_
                  simp only [Act.put, List.setIfInBounds_toArray, List.set_cons_zero, List.set_cons_succ]
                  refine wpQ_run rfl (.pointer (some ⟨g, 0, none⟩)) (fun w' hw => by simp [go_sem]) ?_
                  simp only [Act.put, List.setIfInBounds_toArray, List.set_cons_zero, List.set_cons_succ]
                  refine wpQ_run rfl (.pointer (some ⟨g, 0, none⟩)) (fun w' hw => by simp [go_sem]) ?_
                  simp only [Act.put, List.setIfInBounds_toArray, List.set_cons_zero, List.set_cons_succ]
                  refine wpQ_run rfl (.string s) (fun w' hw => by have := (HX.out.after hw).cell 0 rfl; simp [go_sem, this]) ?_
                  simp only [Act.put, List.setIfInBounds_toArray, List.set_cons_zero, List.set_cons_succ]
                  refine wpQ_run rfl (.pointer (some ⟨g, 0, none⟩)) (fun w' hw => by simp [go_sem]) ?_
                  simp only [Act.put, List.setIfInBounds_toArray, List.set_cons_zero, List.set_cons_succ]
                  refine wpQ_run rfl (.pointer (some ⟨g, 0, none⟩)) (fun w' hw => by simp [go_sem]) ?_
                  simp only [Act.put, List.setIfInBounds_toArray, List.set_cons_zero, List.set_cons_succ]
                  refine wpQ_run rfl (.pointer (some ⟨g, 1, none⟩)) (fun w' hw => by simp [go_sem]) ?_
                  simp only [Act.put, List.setIfInBounds_toArray, List.set_cons_zero, List.set_cons_succ]
                  refine wpQ_run rfl (.int .i64 k) (fun w' hw => by have := (HX.out.after hw).cell 1 rfl; simp [go_sem, this]) ?_
                  simp only [Act.put, List.setIfInBounds_toArray, List.set_cons_zero, List.set_cons_succ]
                  refine wpQ_run rfl (.int .u8 (c.toNat : Int)) (fun w' hw => by rw [HCH.out, ← getD_byte s k hlt]; simp [go_sem, hlt, hk0, hk1]) ?_
                  simp only [Act.put, List.setIfInBounds_toArray, List.set_cons_zero, List.set_cons_succ]
                  refine wpQ_call rfl 34 #[.string ⟨signL.toArray⟩, .int .u8 (c.toNat : Int)] (fun w' => by simp [go_sem, signL]) (.bool true) (Nat.le_refl _) (fun w' => (is_any _ c w').mono (fun e w2 h => by obtain ⟨rfl, rfl⟩ := h; exact ⟨by rw [goodS, HBB.out], Below.refl _ _⟩)) ?_
                  simp only [Act.put, List.setIfInBounds_toArray, List.set_cons_zero, List.set_cons_succ]
                  refine wpQ_run rfl (.bool true) (fun w' hw => by simp [go_sem]) ?_
                  simp only [Act.put, List.setIfInBounds_toArray, List.set_cons_zero, List.set_cons_succ]
                  intro w1 hb1
                  have HX1 := Lib.hid (HX.out.after hb1)
                  have HB1 := Lib.hid (HBU.out.trans (But.ofBelow (S := fun _ => False) hb1) (fun _ h => h.elim))
                  clear hb1
                  have x1 := HX1.out.cell 1 rfl
                  have f1 := HX1.out.frozen 1
                  have hk6 : (k : Int) ≤ 1000000 := by omega
                  go_wp2_with fail
                  have X4 : Box (w1.setCell ⟨g, 1, none⟩ (.int .i64 ((k : Int) + 1))) g 59 (RdN s (k + 1) m) := HX1.out.set 1 _
                  have e4' := atN_eq X4
                  go_roundw
                  case rel => exact ⟨k + 1, by omega, by omega, Lib.hid (by rw [← hsk.out]; exact (runN_sign (by rw [HL.out]; exact hlt) (by rw [HGK.out]; exact HBB.out)).symm), X4, HB1.out.setCell (p := ⟨g, 1, none⟩) (.inl rfl) _⟩
                  case measure => rw [HAT.out, e4']; omega
                | false =>
                  have HBB := Lib.hid hbb
                  clear hbb
                  go_upto_region 19 with fail
                  refine wp_region_made wr.heap.size wr rfl (by kernel_rfl) (Below.refl _ _) ?_
                  refine wpQ_run rfl (.pointer (some ⟨g, 0, none⟩)) (fun w' hw => by simp [go_sem]) ?_
                  simp only [Act.put, List.setIfInBounds_toArray, List.set_cons_zero, List.set_cons_succ]
                  refine wpQ_run rfl (.pointer (some ⟨g, 0, none⟩)) (fun w' hw => by simp [go_sem]) ?_
                  simp only [Act.put, List.setIfInBounds_toArray, List.set_cons_zero, List.set_cons_succ]
                  refine wpQ_run rfl (.pointer (some ⟨g, 1, none⟩)) (fun w' hw => by simp [go_sem]) ?_
                  simp only [Act.put, List.setIfInBounds_toArray, List.set_cons_zero, List.set_cons_succ]
                  refine wpQ_run rfl (.int .i64 k) (fun w' hw => by have := (HX.out.after hw).cell 1 rfl; simp [go_sem, this]) ?_
                  simp only [Act.put, List.setIfInBounds_toArray, List.set_cons_zero, List.set_cons_succ]
                  refine wpQ_run rfl (.pointer (some ⟨g, 0, none⟩)) (fun w' hw => by simp [go_sem]) ?_
                  simp only [Act.put, List.setIfInBounds_toArray, List.set_cons_zero, List.set_cons_succ]
                  refine wpQ_run rfl (.pointer (some ⟨g, 0, none⟩)) (fun w' hw => by simp [go_sem]) ?_
                  simp only [Act.put, List.setIfInBounds_toArray, List.set_cons_zero, List.set_cons_succ]
                  refine wpQ_run rfl (.pointer (some ⟨g, 0, none⟩)) (fun w' hw => by simp [go_sem]) ?_
                  simp only [Act.put, List.setIfInBounds_toArray, List.set_cons_zero, List.set_cons_succ]
                  refine wpQ_run rfl (.string s) (fun w' hw => by have := (HX.out.after hw).cell 0 rfl; simp [go_sem, this]) ?_
                  simp only [Act.put, List.setIfInBounds_toArray, List.set_cons_zero, List.set_cons_succ]
                  refine wpQ_run rfl (.int .i64 s.size) (fun w' hw => by simp [go_sem]) ?_
                  simp only [Act.put, List.setIfInBounds_toArray, List.set_cons_zero, List.set_cons_succ]
                  refine wpQ_run rfl (.bool true) (fun w' hw => by simp [go_sem]; omega) ?_
                  simp only [Act.put, List.setIfInBounds_toArray, List.set_cons_zero, List.set_cons_succ]
                  refine wpQ_run rfl (.bool true) (fun w' hw => by simp [go_sem]) ?_
                  simp only [Act.put, List.setIfInBounds_toArray, List.set_cons_zero, List.set_cons_succ]
                  refine wpQ_run rfl (.pointer (some ⟨g, 0, none⟩)) (fun w' hw => by simp [go_sem]) ?_
                  simp only [Act.put, List.setIfInBounds_toArray, List.set_cons_zero, List.set_cons_succ]
                  refine wpQ_run rfl (.pointer (some ⟨g, 0, none⟩)) (fun w' hw => by simp [go_sem]) ?_
                  simp only [Act.put, List.setIfInBounds_toArray, List.set_cons_zero, List.set_cons_succ]
                  refine wpQ_run rfl (.pointer (some ⟨g, 0, none⟩)) (fun w' hw => by simp [go_sem]) ?_
                  simp only [Act.put, List.setIfInBounds_toArray, List.set_cons_zero, List.set_cons_succ]
                  refine wpQ_run rfl (.string s) (fun w' hw => by have := (HX.out.after hw).cell 0 rfl; simp [go_sem, this]) ?_
                  simp only [Act.put, List.setIfInBounds_toArray, List.set_cons_zero, List.set_cons_succ]
                  refine wpQ_run rfl (.pointer (some ⟨g, 0, none⟩)) (fun w' hw => by simp [go_sem]) ?_
                  simp only [Act.put, List.setIfInBounds_toArray, List.set_cons_zero, List.set_cons_succ]
                  refine wpQ_run rfl (.pointer (some ⟨g, 0, none⟩)) (fun w' hw => by simp [go_sem]) ?_
                  simp only [Act.put, List.setIfInBounds_toArray, List.set_cons_zero, List.set_cons_succ]
                  refine wpQ_run rfl (.pointer (some ⟨g, 1, none⟩)) (fun w' hw => by simp [go_sem]) ?_
                  simp only [Act.put, List.setIfInBounds_toArray, List.set_cons_zero, List.set_cons_succ]
                  refine wpQ_run rfl (.int .i64 k) (fun w' hw => by have := (HX.out.after hw).cell 1 rfl; simp [go_sem, this]) ?_
                  simp only [Act.put, List.setIfInBounds_toArray, List.set_cons_zero, List.set_cons_succ]
                  refine wpQ_run rfl (.int .u8 (c.toNat : Int)) (fun w' hw => by rw [HCH.out, ← getD_byte s k hlt]; simp [go_sem, hlt, hk0, hk1]) ?_
                  simp only [Act.put, List.setIfInBounds_toArray, List.set_cons_zero, List.set_cons_succ]
                  refine wpQ_call rfl 34 #[.string ⟨signL.toArray⟩, .int .u8 (c.toNat : Int)] (fun w' => by simp [go_sem, signL]) (.bool false) (Nat.le_refl _) (fun w' => (is_any _ c w').mono (fun e w2 h => by obtain ⟨rfl, rfl⟩ := h; exact ⟨by rw [goodS, HBB.out], Below.refl _ _⟩)) ?_
                  simp only [Act.put, List.setIfInBounds_toArray, List.set_cons_zero, List.set_cons_succ]
                  refine wpQ_run rfl (.bool false) (fun w' hw => by simp [go_sem]) ?_
                  simp only [Act.put, List.setIfInBounds_toArray, List.set_cons_zero, List.set_cons_succ]
                  intro w1 hb1
                  have HX1 := Lib.hid (HX.out.after hb1)
                  have HB1 := Lib.hid (HBU.out.trans (But.ofBelow (S := fun _ => False) hb1) (fun _ h => h.elim))
                  clear hb1
                  have HXF := HX1
                  have HBF := HB1
                  have HKE : Hid (runN s.data.toList p = k) := Lib.hid (by rw [← hsk.out]; exact runN_other (by rw [HL.out]; exact hlt) (by rw [HGK.out]; exact HBB.out))
                  go_upto_region 21 with fail
                  have hKS : Keeps (fun w' => Box w' g 59 (RdN s k m)) := fun w w' h b => h.after b
                  refine wp_region_U (w := w1) (fun w' => Box w' g 59 (RdN s k m)) rfl HXF.out.drew ?_
                  refine wpU_val 0 hKS rfl (by kernel_rfl) (by kernel_rfl) (by kernel_rfl) rfl (fun _ _ _ _ h => h) (.pointer (some ⟨g, 0, none⟩)) (fun w' h => by simp [go_sem]) ?_
                  simp only [Act.put, List.setIfInBounds_toArray, List.set_cons_zero, List.set_cons_succ]
                  refine wpU_val 1 hKS rfl (by kernel_rfl) (by kernel_rfl) (by kernel_rfl) rfl (fun _ _ _ _ h => h) (.pointer (some ⟨g, 0, none⟩)) (fun w' h => by simp [go_sem]) ?_
                  simp only [Act.put, List.setIfInBounds_toArray, List.set_cons_zero, List.set_cons_succ]
                  refine wpU_val 2 hKS rfl (by kernel_rfl) (by kernel_rfl) (by kernel_rfl) rfl (fun _ _ _ _ h => h) (.pointer (some ⟨g, 0, none⟩)) (fun w' h => by simp [go_sem]) ?_
                  simp only [Act.put, List.setIfInBounds_toArray, List.set_cons_zero, List.set_cons_succ]
                  refine wpU_val 3 hKS rfl (by kernel_rfl) (by kernel_rfl) (by kernel_rfl) rfl (fun _ _ _ _ h => h) (.string s) (fun w' h => by simp [go_sem, h.cell 0 rfl]) ?_
                  simp only [Act.put, List.setIfInBounds_toArray, List.set_cons_zero, List.set_cons_succ]
                  refine wpU_val 4 hKS rfl (by kernel_rfl) (by kernel_rfl) (by kernel_rfl) rfl (fun _ _ _ _ h => h) (.int .i64 p) (fun w' h => by simp [go_sem]) ?_
                  simp only [Act.put, List.setIfInBounds_toArray, List.set_cons_zero, List.set_cons_succ]
                  refine wpU_val 5 hKS rfl (by kernel_rfl) (by kernel_rfl) (by kernel_rfl) rfl (fun _ _ _ _ h => h) (.pointer (some ⟨g, 0, none⟩)) (fun w' h => by simp [go_sem]) ?_
                  simp only [Act.put, List.setIfInBounds_toArray, List.set_cons_zero, List.set_cons_succ]
                  refine wpU_val 6 hKS rfl (by kernel_rfl) (by kernel_rfl) (by kernel_rfl) rfl (fun _ _ _ _ h => h) (.pointer (some ⟨g, 0, none⟩)) (fun w' h => by simp [go_sem]) ?_
                  simp only [Act.put, List.setIfInBounds_toArray, List.set_cons_zero, List.set_cons_succ]
                  refine wpU_val 7 hKS rfl (by kernel_rfl) (by kernel_rfl) (by kernel_rfl) rfl (fun _ _ _ _ h => h) (.pointer (some ⟨g, 1, none⟩)) (fun w' h => by simp [go_sem]) ?_
                  simp only [Act.put, List.setIfInBounds_toArray, List.set_cons_zero, List.set_cons_succ]
                  refine wpU_val 8 hKS rfl (by kernel_rfl) (by kernel_rfl) (by kernel_rfl) rfl (fun _ _ _ _ h => h) (.int .i64 k) (fun w' h => by simp [go_sem, h.cell 1 rfl]) ?_
                  simp only [Act.put, List.setIfInBounds_toArray, List.set_cons_zero, List.set_cons_succ]
                  refine wpU_val 9 hKS rfl (by kernel_rfl) (by kernel_rfl) (by kernel_rfl) rfl (fun _ _ _ _ h => h) (.string (s.extract p k)) (fun w' h => by simp [go_sem, hp0, hpk', hks]; try omega) ?_
                  simp only [Act.put, List.setIfInBounds_toArray, List.set_cons_zero, List.set_cons_succ]
                  refine wpU_one 10 rfl (by kernel_rfl) rfl ?_
                  intro w14 b14 s14
                  obtain ⟨v15, w15, hr15, ho15, b15⟩ := conv_own w14 (s.extract p k) (by simp; omega)
                  refine wp_of_run v15 w15 (by simp [go_sem, hr15]) ?_
                  refine ⟨hKS _ _ s14 b15, ?_⟩
                  simp only [Act.put, List.setIfInBounds_toArray, List.set_cons_zero, List.set_cons_succ]
                  obtain ⟨a15, n15, c15, rfl, sl15, in15⟩ := OwnB.parts ho15
                  refine wpU_val 11 hKS rfl (by kernel_rfl) (by kernel_rfl) (by kernel_rfl) rfl (fun _ _ _ _ h => h) (.slice a15 n15 c15) (fun w' h => by simp [go_sem]) ?_
                  simp only [Act.put, List.setIfInBounds_toArray, List.set_cons_zero, List.set_cons_succ]
                  refine wpU_done (by kernel_rfl) ?_
                  intro w16 b16 s16
                  have Bl : Below w1.heap.size w1 w16 := (((Below.refl _ w1).drew.trans b14).trans (b15.mono b14.size)).trans (b16.mono (Nat.le_trans b14.size b15.size))
                  rw [extract_data, ← HKE.out, run_take] at sl15
                  have HF := Lib.hid (bn_yes (m := m) HRE.out (HBF.out.trans (But.ofBelow (S := fun _ => False) Bl) (fun _ h => h.elim)) (sl15.after b16) (in15.mono (fun k hk => Nat.le_trans HBF.out.size (Nat.le_trans b14.size hk))) (by rw [HKE.out]; exact s16))
                  clear hKS b14 s14 b15 sl15 in15 hr15 ho15 b16 s16 Bl
                  go_wp2_with fail
                  go_ret
                  exact HF.out
              · have hk1 : ¬ (k : Int) < s.size := by omega
                have x0 := HX.out.cell 0 rfl
                have x1 := HX.out.cell 1 rfl
                have HKE : Hid (runN s.data.toList p = k) := Lib.hid (by rw [← hsk.out]; exact runN_end (by rw [HL.out]; omega))
                go_upto_region 19 with fail
                go_quiet (fail)
                have HXF := Lib.hid (HX.out.drewN nq)
                have HBF := Lib.hid (HBU.out.drewN nq)
                generalize wr.drewN nq = w1 at *
                go_upto_region 21 with fail
                have hKS : Keeps (fun w' => Box w' g 59 (RdN s k m)) := fun w w' h b => h.after b
                refine wp_region_U (w := w1) (fun w' => Box w' g 59 (RdN s k m)) rfl HXF.out.drew ?_
                refine wpU_val 0 hKS rfl (by kernel_rfl) (by kernel_rfl) (by kernel_rfl) rfl (fun _ _ _ _ h => h) (.pointer (some ⟨g, 0, none⟩)) (fun w' h => by simp [go_sem]) ?_
                simp only [Act.put, List.setIfInBounds_toArray, List.set_cons_zero, List.set_cons_succ]
                refine wpU_val 1 hKS rfl (by kernel_rfl) (by kernel_rfl) (by kernel_rfl) rfl (fun _ _ _ _ h => h) (.pointer (some ⟨g, 0, none⟩)) (fun w' h => by simp [go_sem]) ?_
                simp only [Act.put, List.setIfInBounds_toArray, List.set_cons_zero, List.set_cons_succ]
                refine wpU_val 2 hKS rfl (by kernel_rfl) (by kernel_rfl) (by kernel_rfl) rfl (fun _ _ _ _ h => h) (.pointer (some ⟨g, 0, none⟩)) (fun w' h => by simp [go_sem]) ?_
                simp only [Act.put, List.setIfInBounds_toArray, List.set_cons_zero, List.set_cons_succ]
                refine wpU_val 3 hKS rfl (by kernel_rfl) (by kernel_rfl) (by kernel_rfl) rfl (fun _ _ _ _ h => h) (.string s) (fun w' h => by simp [go_sem, h.cell 0 rfl]) ?_
                simp only [Act.put, List.setIfInBounds_toArray, List.set_cons_zero, List.set_cons_succ]
                refine wpU_val 4 hKS rfl (by kernel_rfl) (by kernel_rfl) (by kernel_rfl) rfl (fun _ _ _ _ h => h) (.int .i64 p) (fun w' h => by simp [go_sem]) ?_
                simp only [Act.put, List.setIfInBounds_toArray, List.set_cons_zero, List.set_cons_succ]
                refine wpU_val 5 hKS rfl (by kernel_rfl) (by kernel_rfl) (by kernel_rfl) rfl (fun _ _ _ _ h => h) (.pointer (some ⟨g, 0, none⟩)) (fun w' h => by simp [go_sem]) ?_
                simp only [Act.put, List.setIfInBounds_toArray, List.set_cons_zero, List.set_cons_succ]
                refine wpU_val 6 hKS rfl (by kernel_rfl) (by kernel_rfl) (by kernel_rfl) rfl (fun _ _ _ _ h => h) (.pointer (some ⟨g, 0, none⟩)) (fun w' h => by simp [go_sem]) ?_
                simp only [Act.put, List.setIfInBounds_toArray, List.set_cons_zero, List.set_cons_succ]
                refine wpU_val 7 hKS rfl (by kernel_rfl) (by kernel_rfl) (by kernel_rfl) rfl (fun _ _ _ _ h => h) (.pointer (some ⟨g, 1, none⟩)) (fun w' h => by simp [go_sem]) ?_
                simp only [Act.put, List.setIfInBounds_toArray, List.set_cons_zero, List.set_cons_succ]
                refine wpU_val 8 hKS rfl (by kernel_rfl) (by kernel_rfl) (by kernel_rfl) rfl (fun _ _ _ _ h => h) (.int .i64 k) (fun w' h => by simp [go_sem, h.cell 1 rfl]) ?_
                simp only [Act.put, List.setIfInBounds_toArray, List.set_cons_zero, List.set_cons_succ]
                refine wpU_val 9 hKS rfl (by kernel_rfl) (by kernel_rfl) (by kernel_rfl) rfl (fun _ _ _ _ h => h) (.string (s.extract p k)) (fun w' h => by simp [go_sem, hp0, hpk', hks]; try omega) ?_
                simp only [Act.put, List.setIfInBounds_toArray, List.set_cons_zero, List.set_cons_succ]
                refine wpU_one 10 rfl (by kernel_rfl) rfl ?_
                intro w14 b14 s14
                obtain ⟨v15, w15, hr15, ho15, b15⟩ := conv_own w14 (s.extract p k) (by simp; omega)
                refine wp_of_run v15 w15 (by simp [go_sem, hr15]) ?_
                refine ⟨hKS _ _ s14 b15, ?_⟩
                simp only [Act.put, List.setIfInBounds_toArray, List.set_cons_zero, List.set_cons_succ]
                obtain ⟨a15, n15, c15, rfl, sl15, in15⟩ := OwnB.parts ho15
                refine wpU_val 11 hKS rfl (by kernel_rfl) (by kernel_rfl) (by kernel_rfl) rfl (fun _ _ _ _ h => h) (.slice a15 n15 c15) (fun w' h => by simp [go_sem]) ?_
                simp only [Act.put, List.setIfInBounds_toArray, List.set_cons_zero, List.set_cons_succ]
                refine wpU_done (by kernel_rfl) ?_
                intro w16 b16 s16
                have Bl : Below w1.heap.size w1 w16 := (((Below.refl _ w1).drew.trans b14).trans (b15.mono b14.size)).trans (b16.mono (Nat.le_trans b14.size b15.size))
                rw [extract_data, ← HKE.out, run_take] at sl15
                have HF := Lib.hid (bn_yes (m := m) HRE.out (HBF.out.trans (But.ofBelow (S := fun _ => False) Bl) (fun _ h => h.elim)) (sl15.after b16) (in15.mono (fun k hk => Nat.le_trans HBF.out.size (Nat.le_trans b14.size hk))) (by rw [HKE.out]; exact s16))
                clear hKS b14 s14 b15 sl15 in15 hr15 ho15 b16 s16 Bl
                go_wp2_with fail
                go_ret
                exact HF.out

end Go.Proofs.YtkbblhioncecmaaGreatDoor

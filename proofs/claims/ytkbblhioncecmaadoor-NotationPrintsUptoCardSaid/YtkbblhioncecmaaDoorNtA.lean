/- The program's reader of advanced forms: wrong, is, peek, skip, sign. -/
import Derived.Test.YtkbblhioncecmaaDoorNtM
import Derived.Recover
import Derived.Deep.QuietTactic
namespace Go.Proofs.YtkbblhioncecmaaDoor
open Go.RowKit
set_option linter.unusedSimpArgs false
set_option linter.unusedVariables false

/-- the reader's cells -/
abbrev RdN (s : ByteArray) (p m : Nat) : Array Value := #[.string s, .int .i64 p, .int .i64 m]
/-- a fault is thrown -/
def FaultN (p e : Nat) : Ending := .panicked [{ v := .iface 69 (.agg #[.int .i64 p, .int .i64 e]), recovered := false }]

set_option maxRecDepth 100000 in
theorem wrong_any (p e : Nat) (w : World) : Calls Tryd.prog 41 #[.int .i64 p, .int .i64 e] w fun x w' => x = FaultN p e ∧ w' = w := by
  go_enter Tryd.func41, Tryd.ntmps41
  go_wp2_with fail
  unfold FaultN
  exact ⟨rfl, rfl, rfl⟩

set_option maxRecDepth 100000 in
theorem is_any (S : ByteArray) (c : UInt8) (w : World) : Calls Tryd.prog 45 #[.string S, .int .u8 (c.toNat : Int)] w fun x w' => x = .returned (.bool (isIn S.data.toList c)) ∧ w' = w := by
  go_enter Tryd.func45, Tryd.ntmps45
  go_wp2_with fail
  refine (Tryd.strings_IndexByte S (c.toNat : Int) w).mono ?_
  rintro e w1 ⟨rfl, rfl⟩
  go_wp2_with fail
  go_ret
  exact ⟨by unfold isIn; simp, rfl⟩
theorem getD_byte (s : ByteArray) (p : Nat) (h : p < s.size) : s[p] = s.data.toList.getD p 0 := by
  rw [List.getD_eq_getElem?_getD, List.getElem?_eq_getElem (by simpa using h)]
  simp only [Option.getD_some, Array.getElem_toList]
  rfl
theorem below_drewN {B : Nat} {w0 w : World} (h : Below B w0 w) (n : Nat) : Below B w0 (w.drewN n) := ⟨h.os, h.tape, h.output, h.size, h.block⟩
/-- peek: a fault, or the byte that stands next -/
def PeekP (s : ByteArray) (p : Nat) (w : World) (e : Ending) (w' : World) : Prop :=
  Below w.heap.size w w' ∧ ((s.size ≤ p ∧ e = FaultN s.size 2) ∨ (p < s.size ∧ e = .returned (.int .u8 ((s.data.toList.getD p 0).toNat : Int))))

set_option maxHeartbeats 4000000 in
set_option maxRecDepth 100000 in
theorem peek_any (g : Nat) (s : ByteArray) (p m : Nat) (w : World) (hX : Box w g 72 (RdN s p m)) (hs : s.size ≤ 1000000) : Calls Tryd.prog 44 #[.pointer (some ⟨g, 0, none⟩)] w (PeekP s p w) := by
  have x0 : w.cell? ⟨g, 0, none⟩ = some (.string s) := hX.cell 0 rfl
  have x1 : w.cell? ⟨g, 1, none⟩ = some (.int .i64 p) := hX.cell 1 rfl
  clear hX
  by_cases h : s.size ≤ p
  · have h' : (s.size : Int) ≤ (p : Int) := by omega
    go_enter Tryd.func44, Tryd.ntmps44
    go_wp2_with fail
    go_quiet (fail)
    go_wp2_with fail
    refine (wrong_any s.size 2 _).mono ?_
    rintro e w1 ⟨rfl, rfl⟩
    unfold FaultN
    go_wp2_with fail
    exact ⟨rfl, below_drewN (Below.refl _ _) _, .inl ⟨h, rfl⟩⟩
  · have h' : ¬ (s.size : Int) ≤ (p : Int) := by omega
    have hp0 : (0 : Int) ≤ p := by omega
    have hp1 : (p : Int) < s.size := by omega
    have hlt : p < s.size := by omega
    have HB := Lib.hid (getD_byte s p hlt)
    go_enter Tryd.func44, Tryd.ntmps44
    go_wp2_with fail
    go_quiet (fail)
    go_wp2_with fail
    go_quiet (fail)
    go_wp2_with fail
    go_ret
    exact ⟨below_drewN (below_drewN (Below.refl _ _) _) _, .inr ⟨hlt, by rw [← HB.out]; rfl⟩⟩

theorem butN_set {w : World} {g : Nat} (i : Nat) (v : Value) : But (fun k => k = g) w (w.setCell ⟨g, i, none⟩ v) := (But.refl (fun k => k = g) w).setCell (p := ⟨g, i, none⟩) (.inl rfl) v
theorem byteNe {x y : UInt8} (h : x ≠ y) : ((x.toNat : Int) == (y.toNat : Int)) = false ∧ ((x.toNat : Int) != (y.toNat : Int)) = true := by
  have h1 : ((x.toNat : Int) == (y.toNat : Int)) = false := beq_eq_false_iff_ne.2 (fun e => h (UInt8.toNat_inj.1 (Int.ofNat.inj e)))
  exact ⟨h1, by rw [bne, h1]; rfl⟩
/-- sign: either a fault or a step -/
def SignN (g : Nat) (s : ByteArray) (p m : Nat) (ch : UInt8) (w : World) (e : Ending) (w' : World) : Prop :=
  But (fun k => k = g) w w' ∧ ((s.size ≤ p ∧ e = FaultN s.size 2) ∨ (p < s.size ∧ s.data.toList.getD p 0 ≠ ch ∧ e = FaultN p 3) ∨
    (p < s.size ∧ s.data.toList.getD p 0 = ch ∧ e = .returned (.tuple #[]) ∧ Box w' g 72 (RdN s (p + 1) m)))

set_option maxHeartbeats 4000000 in
set_option maxRecDepth 100000 in
theorem signN_any (g : Nat) (s : ByteArray) (p m : Nat) (ch : UInt8) (w : World) (hX : Box w g 72 (RdN s p m)) (hs : s.size ≤ 1000000) : Calls Tryd.prog 48 #[.pointer (some ⟨g, 0, none⟩), .int .u8 (ch.toNat : Int)] w (SignN g s p m ch w) := by
  have HX := Lib.hid hX
  clear hX
  go_enter Tryd.func48, Tryd.ntmps48
  go_wp2_with fail
  refine (peek_any g s p m w HX.out hs).mono ?_
  rintro e w1 ⟨hb1, hP⟩
  have X1 := HX.out.after hb1
  have x1 : w1.cell? ⟨g, 1, none⟩ = some (.int .i64 p) := X1.cell 1 rfl
  have f1 := X1.frozen 1
  have HX1 := Lib.hid X1
  have HB1 := Lib.hid hb1
  clear X1 hb1 HX
  rcases hP with ⟨h1, rfl⟩ | ⟨h1, rfl⟩
  · unfold FaultN
    go_wp2_with fail
    exact ⟨rfl, But.ofBelow HB1.out, .inl ⟨h1, rfl⟩⟩
  · obtain ⟨x, hx⟩ : ∃ x, x = s.data.toList.getD p 0 := ⟨_, rfl⟩
    rw [← hx]
    have HXX := Lib.hid hx
    clear hx
    have hp6 : (p : Int) ≤ 1000000 := by omega
    by_cases he : x = ch
    · subst he
      have e1 : ((x.toNat : Int) != (x.toNat : Int)) = false := by simp
      go_wp2_with fail
      exact bodyPost_ret (results_none rfl _ _ _) rfl ⟨(But.ofBelow (S := fun k => k = g) HB1.out).setCell (p := ⟨g, 1, none⟩) (.inl rfl) _, .inr (.inr ⟨h1, HXX.out.symm, rfl, HX1.out.set 1 _⟩)⟩
    · obtain ⟨z1, z2⟩ := byteNe he
      have HE := Lib.hid he
      clear he
      go_wp2_with fail
      refine (wrong_any p 3 _).mono ?_
      rintro e w2 ⟨rfl, rfl⟩
      unfold FaultN
      go_wp2_with fail
      exact ⟨rfl, But.ofBelow HB1.out, .inr (.inl ⟨h1, by rw [← HXX.out]; exact HE.out, rfl⟩)⟩

/-- skip: behind blanks -/
def SkipN (g : Nat) (s : ByteArray) (p m : Nat) (w : World) (e : Ending) (w' : World) : Prop :=
  e = .returned (.tuple #[]) ∧ Box w' g 72 (RdN s (skipN s.data.toList p) m) ∧ But (fun k => k = g) w w'

set_option maxHeartbeats 4000000 in
set_option maxRecDepth 100000 in
theorem skipN_any (g : Nat) (s : ByteArray) (p m : Nat) (w : World) (hX : Box w g 72 (RdN s p m)) (hs : s.size ≤ 1000000) (hp : p ≤ s.size) : Calls Tryd.prog 43 #[.pointer (some ⟨g, 0, none⟩)] w (SkipN g s p m w) := by
  have HX := Lib.hid hX
  have HSK := Lib.hid (show skipN s.data.toList p = skipN s.data.toList p from rfl)
  clear hX
  go_enter Tryd.func43, Tryd.ntmps43
  go_wp2_with fail
  go_loopw [2] (fun r wr => ∃ k : Nat, k ≤ s.size ∧ Hid (skipN s.data.toList k = skipN s.data.toList p) ∧ Box wr g 72 (RdN s k m) ∧ But (fun k => k = g) w wr) (fun r wr => s.size - (match wr.cell? ⟨g, 1, none⟩ with | some (.int _ z) => z.toNat | _ => 0))
  case atStart => exact ⟨p, hp, Lib.hid rfl, HX.out, But.refl _ _⟩
  case round =>
    obtain ⟨k, hk, hsk, hX2, hbut⟩ := hrel
    clear HX
    have HX := Lib.hid hX2
    have HMS : Hid ((match wr.cell? ⟨g, 1, none⟩ with | some (.int _ z) => z.toNat | _ => 0) = k) := Lib.hid (by rw [hX2.cell 1 rfl]; simp)
    clear hX2
    have hl : s.data.toList.length = s.size := by simp
    by_cases hlt : k < s.size
    · have hk0 : (0 : Int) ≤ k := by omega
      have hk1 : (k : Int) < s.size := by omega
      obtain ⟨c, hc⟩ : ∃ c, c = s.data.toList.getD k 0 := ⟨_, rfl⟩
      have HCH := Lib.hid hc
      clear hc
      have hgk : s.data.toList[k]'(by omega) = c := by rw [HCH.out, List.getD_eq_getElem?_getD, List.getElem?_eq_getElem (by omega)]; rfl
      have HGK := Lib.hid hgk
      clear hgk
      have hib : isIn blankL c = blankB c := by have := isIn_blank ⟨c.toNat, c.toNat_lt⟩; rwa [byte_fin] at this
      cases hbb : blankB c with
      | true =>
        rw [hbb] at hib
        have HBL := Lib.hid hib
        have HBB := Lib.hid hbb
        clear hib hbb
        go_upto_region 0 with fail
        refine wp_region_made wr.heap.size wr rfl (by kernel_rfl) (Below.refl _ _) ?_
        refine wpQ_run rfl (.pointer (some ⟨g, 0, none⟩)) (fun w' hw => by simp [go_sem]) ?_
        simp only [Act.put, List.setIfInBounds_toArray, List.set_cons_zero, List.set_cons_succ]
        refine wpQ_run rfl (.pointer (some ⟨g, 0, none⟩)) (fun w' hw => by simp [go_sem]) ?_
        simp only [Act.put, List.setIfInBounds_toArray, List.set_cons_zero, List.set_cons_succ]
        refine wpQ_run rfl (.pointer (some ⟨g, 1, none⟩)) (fun w' hw => by simp [go_sem]) ?_
        simp only [Act.put, List.setIfInBounds_toArray, List.set_cons_zero, List.set_cons_succ]
        refine wpQ_run rfl (.int .i64 k) (fun w' hw => by have := (HX.out.after hw).cell 1 rfl; simp [go_sem, this]) ?_
        simp only [Act.put, List.setIfInBounds_toArray, List.set_cons_zero, List.set_cons_succ]
        refine wpQ_run rfl (.pointer (some ⟨g, 0, none⟩)) (fun w' hw => by simp [go_sem]) ?_
        simp only [Act.put, List.setIfInBounds_toArray, List.set_cons_zero, List.set_cons_succ]
        refine wpQ_run rfl (.pointer (some ⟨g, 0, none⟩)) (fun w' hw => by simp [go_sem]) ?_
        simp only [Act.put, List.setIfInBounds_toArray, List.set_cons_zero, List.set_cons_succ]
        refine wpQ_run rfl (.pointer (some ⟨g, 0, none⟩)) (fun w' hw => by simp [go_sem]) ?_
        simp only [Act.put, List.setIfInBounds_toArray, List.set_cons_zero, List.set_cons_succ]
        refine wpQ_run rfl (.string s) (fun w' hw => by have := (HX.out.after hw).cell 0 rfl; simp [go_sem, this]) ?_
        simp only [Act.put, List.setIfInBounds_toArray, List.set_cons_zero, List.set_cons_succ]
        refine wpQ_run rfl (.int .i64 s.size) (fun w' hw => by simp [go_sem]) ?_
        simp only [Act.put, List.setIfInBounds_toArray, List.set_cons_zero, List.set_cons_succ]
        refine wpQ_run rfl (.bool true) (fun w' hw => by simp [go_sem]; omega) ?_
        simp only [Act.put, List.setIfInBounds_toArray, List.set_cons_zero, List.set_cons_succ]
        refine wpQ_run rfl (.bool true) (fun w' hw => by simp [go_sem]) ?_
        simp only [Act.put, List.setIfInBounds_toArray, List.set_cons_zero, List.set_cons_succ]
        refine wpQ_run rfl (.pointer (some ⟨g, 0, none⟩)) (fun w' hw => by simp [go_sem]) ?_
        simp only [Act.put, List.setIfInBounds_toArray, List.set_cons_zero, List.set_cons_succ]
        refine wpQ_run rfl (.pointer (some ⟨g, 0, none⟩)) (fun w' hw => by simp [go_sem]) ?_
        simp only [Act.put, List.setIfInBounds_toArray, List.set_cons_zero, List.set_cons_succ]
        refine wpQ_run rfl (.pointer (some ⟨g, 0, none⟩)) (fun w' hw => by simp [go_sem]) ?_
        simp only [Act.put, List.setIfInBounds_toArray, List.set_cons_zero, List.set_cons_succ]
        refine wpQ_run rfl (.string s) (fun w' hw => by have := (HX.out.after hw).cell 0 rfl; simp [go_sem, this]) ?_
        simp only [Act.put, List.setIfInBounds_toArray, List.set_cons_zero, List.set_cons_succ]
        refine wpQ_run rfl (.pointer (some ⟨g, 0, none⟩)) (fun w' hw => by simp [go_sem]) ?_
        simp only [Act.put, List.setIfInBounds_toArray, List.set_cons_zero, List.set_cons_succ]
        refine wpQ_run rfl (.pointer (some ⟨g, 0, none⟩)) (fun w' hw => by simp [go_sem]) ?_
        simp only [Act.put, List.setIfInBounds_toArray, List.set_cons_zero, List.set_cons_succ]
        refine wpQ_run rfl (.pointer (some ⟨g, 1, none⟩)) (fun w' hw => by simp [go_sem]) ?_
        simp only [Act.put, List.setIfInBounds_toArray, List.set_cons_zero, List.set_cons_succ]
        refine wpQ_run rfl (.int .i64 k) (fun w' hw => by have := (HX.out.after hw).cell 1 rfl; simp [go_sem, this]) ?_
        simp only [Act.put, List.setIfInBounds_toArray, List.set_cons_zero, List.set_cons_succ]
        refine wpQ_run rfl (.int .u8 (c.toNat : Int)) (fun w' hw => by rw [HCH.out, ← getD_byte s k hlt]; simp [go_sem, hlt, hk0, hk1]) ?_
        simp only [Act.put, List.setIfInBounds_toArray, List.set_cons_zero, List.set_cons_succ]
        refine wpQ_call rfl 45 #[.string ⟨#[32, 9, 10, 11, 12, 13]⟩, .int .u8 (c.toNat : Int)] (fun w' => by simp [go_sem]) (.bool true) (Nat.le_refl _) (fun w' => (is_any _ c w').mono (fun e w2 h => by obtain ⟨rfl, rfl⟩ := h; exact ⟨by show Ending.returned (.bool (isIn blankL c)) = _; rw [HBL.out], Below.refl _ _⟩)) ?_
        simp only [Act.put, List.setIfInBounds_toArray, List.set_cons_zero, List.set_cons_succ]
        refine wpQ_run rfl (.bool true) (fun w' hw => by simp [go_sem]) ?_
        simp only [Act.put, List.setIfInBounds_toArray, List.set_cons_zero, List.set_cons_succ]
        intro w1 hb1
        have HX1 := Lib.hid (HX.out.after hb1)
        have HB1 := Lib.hid (hbut.trans (But.ofBelow (S := fun _ => False) hb1) (fun _ h => h.elim))
        clear hb1
        have x1 := HX1.out.cell 1 rfl
        have f1 := HX1.out.frozen 1
        have hk6 : (k : Int) ≤ 1000000 := by omega
        go_wp2_with fail
        go_roundw
        case rel => exact ⟨k + 1, by omega, Lib.hid (by rw [← hsk.out]; exact (skipN_blank (by omega) (by rw [HGK.out]; exact HBB.out)).symm), HX1.out.set 1 _, HB1.out.setCell (p := ⟨g, 1, none⟩) (.inl rfl) _⟩
        case measure => rw [HMS.out, ((HX1.out.set 1 (.int .i64 (k + 1))).cell 1 rfl)]; exact Nat.sub_lt_sub_left hlt (by simp)
      | false =>
        rw [hbb] at hib
        have HBL := Lib.hid hib
        have HBB := Lib.hid hbb
        clear hib hbb
        go_upto_region 0 with fail
        refine wp_region_made wr.heap.size wr rfl (by kernel_rfl) (Below.refl _ _) ?_
        refine wpQ_run rfl (.pointer (some ⟨g, 0, none⟩)) (fun w' hw => by simp [go_sem]) ?_
        simp only [Act.put, List.setIfInBounds_toArray, List.set_cons_zero, List.set_cons_succ]
        refine wpQ_run rfl (.pointer (some ⟨g, 0, none⟩)) (fun w' hw => by simp [go_sem]) ?_
        simp only [Act.put, List.setIfInBounds_toArray, List.set_cons_zero, List.set_cons_succ]
        refine wpQ_run rfl (.pointer (some ⟨g, 1, none⟩)) (fun w' hw => by simp [go_sem]) ?_
        simp only [Act.put, List.setIfInBounds_toArray, List.set_cons_zero, List.set_cons_succ]
        refine wpQ_run rfl (.int .i64 k) (fun w' hw => by have := (HX.out.after hw).cell 1 rfl; simp [go_sem, this]) ?_
        simp only [Act.put, List.setIfInBounds_toArray, List.set_cons_zero, List.set_cons_succ]
        refine wpQ_run rfl (.pointer (some ⟨g, 0, none⟩)) (fun w' hw => by simp [go_sem]) ?_
        simp only [Act.put, List.setIfInBounds_toArray, List.set_cons_zero, List.set_cons_succ]
        refine wpQ_run rfl (.pointer (some ⟨g, 0, none⟩)) (fun w' hw => by simp [go_sem]) ?_
        simp only [Act.put, List.setIfInBounds_toArray, List.set_cons_zero, List.set_cons_succ]
        refine wpQ_run rfl (.pointer (some ⟨g, 0, none⟩)) (fun w' hw => by simp [go_sem]) ?_
        simp only [Act.put, List.setIfInBounds_toArray, List.set_cons_zero, List.set_cons_succ]
        refine wpQ_run rfl (.string s) (fun w' hw => by have := (HX.out.after hw).cell 0 rfl; simp [go_sem, this]) ?_
        simp only [Act.put, List.setIfInBounds_toArray, List.set_cons_zero, List.set_cons_succ]
        refine wpQ_run rfl (.int .i64 s.size) (fun w' hw => by simp [go_sem]) ?_
        simp only [Act.put, List.setIfInBounds_toArray, List.set_cons_zero, List.set_cons_succ]
        refine wpQ_run rfl (.bool true) (fun w' hw => by simp [go_sem]; omega) ?_
        simp only [Act.put, List.setIfInBounds_toArray, List.set_cons_zero, List.set_cons_succ]
        refine wpQ_run rfl (.bool true) (fun w' hw => by simp [go_sem]) ?_
        simp only [Act.put, List.setIfInBounds_toArray, List.set_cons_zero, List.set_cons_succ]
        refine wpQ_run rfl (.pointer (some ⟨g, 0, none⟩)) (fun w' hw => by simp [go_sem]) ?_
        simp only [Act.put, List.setIfInBounds_toArray, List.set_cons_zero, List.set_cons_succ]
        refine wpQ_run rfl (.pointer (some ⟨g, 0, none⟩)) (fun w' hw => by simp [go_sem]) ?_
        simp only [Act.put, List.setIfInBounds_toArray, List.set_cons_zero, List.set_cons_succ]
        refine wpQ_run rfl (.pointer (some ⟨g, 0, none⟩)) (fun w' hw => by simp [go_sem]) ?_
        simp only [Act.put, List.setIfInBounds_toArray, List.set_cons_zero, List.set_cons_succ]
        refine wpQ_run rfl (.string s) (fun w' hw => by have := (HX.out.after hw).cell 0 rfl; simp [go_sem, this]) ?_
        simp only [Act.put, List.setIfInBounds_toArray, List.set_cons_zero, List.set_cons_succ]
        refine wpQ_run rfl (.pointer (some ⟨g, 0, none⟩)) (fun w' hw => by simp [go_sem]) ?_
        simp only [Act.put, List.setIfInBounds_toArray, List.set_cons_zero, List.set_cons_succ]
        refine wpQ_run rfl (.pointer (some ⟨g, 0, none⟩)) (fun w' hw => by simp [go_sem]) ?_
        simp only [Act.put, List.setIfInBounds_toArray, List.set_cons_zero, List.set_cons_succ]
        refine wpQ_run rfl (.pointer (some ⟨g, 1, none⟩)) (fun w' hw => by simp [go_sem]) ?_
        simp only [Act.put, List.setIfInBounds_toArray, List.set_cons_zero, List.set_cons_succ]
        refine wpQ_run rfl (.int .i64 k) (fun w' hw => by have := (HX.out.after hw).cell 1 rfl; simp [go_sem, this]) ?_
        simp only [Act.put, List.setIfInBounds_toArray, List.set_cons_zero, List.set_cons_succ]
        refine wpQ_run rfl (.int .u8 (c.toNat : Int)) (fun w' hw => by rw [HCH.out, ← getD_byte s k hlt]; simp [go_sem, hlt, hk0, hk1]) ?_
        simp only [Act.put, List.setIfInBounds_toArray, List.set_cons_zero, List.set_cons_succ]
        refine wpQ_call rfl 45 #[.string ⟨#[32, 9, 10, 11, 12, 13]⟩, .int .u8 (c.toNat : Int)] (fun w' => by simp [go_sem]) (.bool false) (Nat.le_refl _) (fun w' => (is_any _ c w').mono (fun e w2 h => by obtain ⟨rfl, rfl⟩ := h; exact ⟨by show Ending.returned (.bool (isIn blankL c)) = _; rw [HBL.out], Below.refl _ _⟩)) ?_
        simp only [Act.put, List.setIfInBounds_toArray, List.set_cons_zero, List.set_cons_succ]
        refine wpQ_run rfl (.bool false) (fun w' hw => by simp [go_sem]) ?_
        simp only [Act.put, List.setIfInBounds_toArray, List.set_cons_zero, List.set_cons_succ]
        intro w1 hb1
        have HX1 := Lib.hid (HX.out.after hb1)
        have HB1 := Lib.hid (hbut.trans (But.ofBelow (S := fun _ => False) hb1) (fun _ h => h.elim))
        clear hb1
        go_wp2_with fail
        exact bodyPost_ret (results_none rfl _ _ _) rfl ⟨rfl, by rw [← hsk.out, skipN_other (by omega) (by rw [HGK.out]; exact HBB.out)]; exact HX1.out, HB1.out⟩
    · have hk1 : ¬ (k : Int) < s.size := by omega
      have x0 := HX.out.cell 0 rfl
      have x1 := HX.out.cell 1 rfl
      go_upto_region 0 with fail
      go_quiet (fail)
      go_wp2_with fail
      exact bodyPost_ret (results_none rfl _ _ _) rfl ⟨rfl, by rw [← hsk.out, skipN_end (by omega)]; exact HX.out.drewN _, hbut.drewN _⟩

end Go.Proofs.YtkbblhioncecmaaDoor

/- The law's awake: the document's example of a window. -/
import Derived.Test.YtigopfeamjhdpaaDoorWn1
namespace Go.Proofs.YtigopfeamjhdpaaDoor
open Go.RowKit
set_option linter.unusedSimpArgs false
set_option linter.unusedVariables false

def awL : List UInt8 := [40, 118, 97, 108, 105, 100, 32, 40, 110, 111, 116, 45, 97, 102, 116, 101, 114, 32, 34, 50, 48, 50, 54, 45, 48, 49, 45, 48, 49, 95, 48, 48, 58, 48, 48, 58, 48, 48, 34, 41, 41]
def dtL : List UInt8 := [50, 48, 50, 54, 45, 48, 49, 45, 48, 49, 95, 48, 48, 58, 48, 48, 58, 48, 48]
def awS : Sx := li [at1 vaL, li [at1 naL, at1 dtL]]
theorem nt_atom' {l : List UInt8} {p lv n q : Nat} {r : RV} (hq : skipN l p = q) (h1 : q < l.length) (h2 : begB (l.getD q 0) = true) (h3 : l.getD q 0 ≠ 40) (h4 : l.getD q 0 ≠ 91) (h5 : n + 1 ≤ 512) (hr : nAtom l q (n + 1) = r) : Nt l none p lv n r := by
  subst hq hr
  exact .atom h1 h2 h3 h4 h5
theorem nt_list' {l : List UInt8} {p lv n q m : Nat} {r : RV} (hq : skipN l p = q) (h1 : q < l.length) (h2 : l.getD q 0 = 40) (hm : n + 1 = m) (h3 : m ≤ 512) (h4 : lv ≤ 16) (hr : Nt l (some []) (q + 1) lv m r) : Nt l none p lv n r := by
  subst hq hm
  exact .list h1 h2 h3 h4 hr
theorem nt_more' {l : List UInt8} {p lv n q m p2 n2 : Nat} {acc : List Sx} {v : Sx} {r2 : RV} (hq : skipN l p = q) (h1 : q < l.length) (h2 : l.getD q 0 ≠ 41) (hm : lv + 1 = m) (h3 : Nt l none q m n ⟨v, p2, n2, 0⟩) (h4 : Nt l (some (acc ++ [v])) p2 lv n2 r2) : Nt l (some acc) p lv n r2 := by
  subst hq hm
  exact .more (r := ⟨v, p2, n2, 0⟩) h1 h2 h3 rfl h4
theorem nt_close' {l : List UInt8} {p lv n q q1 : Nat} {acc : List Sx} {v : Sx} (hq : skipN l p = q) (h1 : q < l.length) (h2 : l.getD q 0 = 41) (hq1 : q + 1 = q1) (hv : Sx.mk true false [] [] acc = v) : Nt l (some acc) p lv n ⟨v, q1, n, 0⟩ := by
  subst hq hq1 hv
  exact .close h1 h2
set_option maxRecDepth 100000 in
theorem nt_awake : Nt awL none 0 1 0 ⟨awS, 41, 5, 0⟩ := by
  refine nt_list' (q := 0) (m := 1) (by decide +kernel) (by decide +kernel) (by decide +kernel) rfl (by decide) (by decide) ?_
  refine nt_more' (q := 1) (m := 2) (v := at1 vaL) (p2 := 6) (n2 := 2) (by decide +kernel) (by decide +kernel) (by decide +kernel) rfl (nt_atom' (q := 1) (by decide +kernel) (by decide +kernel) (by decide +kernel) (by decide +kernel) (by decide +kernel) (by decide) (by kernel_rfl)) ?_
  refine nt_more' (q := 7) (m := 2) (v := li [at1 naL, at1 dtL]) (p2 := 40) (n2 := 5) (by decide +kernel) (by decide +kernel) (by decide +kernel) rfl ?_ ?_
  · refine nt_list' (q := 7) (m := 3) (by decide +kernel) (by decide +kernel) (by decide +kernel) rfl (by decide) (by decide) ?_
    refine nt_more' (q := 8) (m := 3) (v := at1 naL) (p2 := 17) (n2 := 4) (by decide +kernel) (by decide +kernel) (by decide +kernel) rfl (nt_atom' (q := 8) (by decide +kernel) (by decide +kernel) (by decide +kernel) (by decide +kernel) (by decide +kernel) (by decide) (by kernel_rfl)) ?_
    refine nt_more' (q := 18) (m := 3) (v := at1 dtL) (p2 := 39) (n2 := 5) (by decide +kernel) (by decide +kernel) (by decide +kernel) rfl (nt_atom' (q := 18) (by decide +kernel) (by decide +kernel) (by decide +kernel) (by decide +kernel) (by decide +kernel) (by decide) (by kernel_rfl)) ?_
    exact nt_close' (q := 39) (by decide +kernel) (by decide +kernel) (by decide +kernel) rfl rfl
  · exact nt_close' (q := 40) (by decide +kernel) (by decide +kernel) (by decide +kernel) rfl rfl
theorem got_awake {s : Sx} {p x : Nat} (h : GotN (Nt awL none 0 1 0) awL s p x) : s = awS ∧ p = 0 ∧ x = 0 := by
  have h0 : awL.length = 41 := by decide +kernel
  have h1 : skipN awL 41 = 41 := by decide +kernel
  have h2 : awS.may = true := by decide +kernel
  rcases h with ⟨h, _⟩ | ⟨_, r, hr, h⟩
  · omega
  · obtain rfl := hr.det nt_awake
    rcases h with ⟨h, _⟩ | ⟨_, h, _⟩ | ⟨_, _, h, _⟩ | ⟨_, _, _, e1, e2, e3⟩
    · exact absurd rfl h
    · exact absurd h (by show ¬ skipN awL 41 < awL.length; omega)
    · exact absurd (h2.symm.trans h) (by simp)
    · exact ⟨e1, e2, e3⟩
theorem aw_ok : dateOk dtL = true := by decide +kernel
theorem aw_v : dateV dtL = 63934444800 := by decide +kernel
theorem aw_win : winGet awS = some ⟨false, 0, true, 63934444800⟩ := by
  refine (winGet_iff awS ⟨false, 0, true, 63934444800⟩).2 ⟨?_, ?_⟩
  · rw [winMay_iff]
    simp
  · have := dateL_of aw_ok
    rw [aw_v] at this
    unfold winS endS
    simp [this, awS]
theorem aw_wide : awS.wide 0 = false := by decide +kernel

set_option maxHeartbeats 16000000 in
set_option maxRecDepth 100000 in
theorem awake_any (w : World) (ht : Tab w) : Calls Tryd.prog 11 #[] w fun e w' => e = .returned (.bool true) ∧ Below w.heap.size w w' := by
  have HT := Lib.hid ht
  have B : Below w.heap.size w w := Below.refl _ _
  clear ht
  go_enter Tryd.func11, Tryd.ntmps11
  go_wp2_with fail
  refine (readN_any _ w HT.out).mono ?_
  rintro e x1 ⟨v, s, p, x, hg, rfl, rd, bx1⟩
  obtain ⟨rfl, rfl, rfl⟩ := got_awake hg
  clear hg
  obtain ⟨vl, vh, va1, vn1, vc1, va2, vn2, vc2, va3, vn3, vc3⟩ := v
  have RD := Lib.hid (rd.mono (fun _ _ => trivial))
  clear rd
  replace HT := Lib.hid (HT.out.after bx1)
  replace B := B.trans (bx1.mono B.size)
  clear bx1
  go_upto_region 2 with (refine wpList_store_box (cells := #[.bool vl, .bool vh, .slice va1 vn1 vc1, .slice va2 vn2 vc2, .slice va3 vn3 vc3]) rfl 27 _ _ rfl (Box.new _ _ _) (by rfl) (by rfl) rfl (by kernel_rfl) (by simp [Value.oneCell']) ?_; intro u9 X9 st9)
  have bs2 : Below x1.heap.size x1 u9 := st9.below x1.heap.size x1 (Nat.le_refl _) ((Below.refl _ _).alloc (Nat.le_refl _) _)
  have Y1 := Lib.hid X9
  replace HT := Lib.hid (HT.out.after bs2)
  replace RD := Lib.hid (RD.out.after bs2)
  replace B := B.trans (bs2.mono B.size)
  clear bs2 st9 X9
  generalize u9 = x2 at *
  generalize x1.heap.size = y1 at *
  go_wp2_with (refine wpList_load_box rfl 27 _ rfl Y1.out (by rfl) Tryd.underlying27 rfl (by kernel_rfl) ?_)
  refine (winGet_any awS ⟨vl, vh, va1, vn1, vc1, va2, vn2, vc2, va3, vn3, vc3⟩ x2 RD.out 0 aw_wide).mono ?_
  rintro e x8 hP
  obtain ⟨x, hx, rfl, bx8⟩ : ∃ x : W4, winGet awS = some x ∧ e = .returned (.tuple #[.agg #[.bool x.p, .int .i64 x.f, .bool x.q, .int .i64 x.t], .int .i64 0]) ∧ Below _ _ x8 := by
    rcases hP with h | ⟨h, _⟩
    · exact h
    · rw [aw_win] at h; cases h
  obtain rfl : x = ⟨false, 0, true, 63934444800⟩ := (Option.some.inj (aw_win.symm.trans hx)).symm
  clear hx hP
  replace HT := Lib.hid (HT.out.after bx8)
  replace RD := Lib.hid (RD.out.after bx8)
  replace Y1 := Lib.hid (Y1.out.after bx8)
  replace B := B.trans (bx8.mono B.size)
  clear bx8
  go_upto_region 3 with (refine wpList_store_box (cells := #[.bool false, .int .i64 0, .bool true, .int .i64 63934444800]) rfl 23 _ _ rfl (Box.new _ _ _) (by rfl) (by rfl) rfl (by kernel_rfl) (by simp [Value.oneCell']) ?_; intro u9 X9 st9)
  have bs9 : Below x8.heap.size x8 u9 := st9.below x8.heap.size x8 (Nat.le_refl _) ((Below.refl _ _).alloc (Nat.le_refl _) _)
  have Y2 := Lib.hid X9
  replace HT := Lib.hid (HT.out.after bs9)
  replace RD := Lib.hid (RD.out.after bs9)
  replace Y1 := Lib.hid (Y1.out.after bs9)
  replace B := B.trans (bs9.mono B.size)
  clear bs9 st9 X9
  generalize u9 = x9 at *
  generalize x8.heap.size = y2 at *
  go_step
  refine wpList_made 27 x9.heap.size x9 (Below.refl _ _) ?_
  simp only [List.take_succ_cons, List.take_zero, List.drop_succ_cons, List.drop_zero]
  refine wpQ_run rfl (.int .i64 0) (fun w' hw => by simp [go_sem]) ?_
  simp only [Act.put, List.setIfInBounds_toArray, List.set_cons_zero, List.set_cons_succ]
  refine wpQ_run rfl (.bool true) (fun w' hw => by simp [go_sem]) ?_
  simp only [Act.put, List.setIfInBounds_toArray, List.set_cons_zero, List.set_cons_succ]
  refine wpQ_run rfl (.bool true) (fun w' hw => by simp [go_sem]) ?_
  simp only [Act.put, List.setIfInBounds_toArray, List.set_cons_zero, List.set_cons_succ]
  refine wpQ_run rfl (.int .i64 0) (fun w' hw => by simp [go_sem]) ?_
  simp only [Act.put, List.setIfInBounds_toArray, List.set_cons_zero, List.set_cons_succ]
  refine wpQ_run rfl (.bool true) (fun w' hw => by simp [go_sem]) ?_
  simp only [Act.put, List.setIfInBounds_toArray, List.set_cons_zero, List.set_cons_succ]
  refine wpQ_run rfl (.bool true) (fun w' hw => by simp [go_sem]) ?_
  simp only [Act.put, List.setIfInBounds_toArray, List.set_cons_zero, List.set_cons_succ]
  refine wpQ_run rfl (.bool true) (fun w' hw => by simp [go_sem]) ?_
  simp only [Act.put, List.setIfInBounds_toArray, List.set_cons_zero, List.set_cons_succ]
  refine wpQ_run rfl (.pointer (some ⟨y2, 0, none⟩)) (fun w' hw => by simp [go_sem]) ?_
  simp only [Act.put, List.setIfInBounds_toArray, List.set_cons_zero, List.set_cons_succ]
  refine wpQ_run rfl (.bool false) (fun w' hw => by have := (Y2.out.after hw).cell 0 rfl; simp [go_sem, this]) ?_
  simp only [Act.put, List.setIfInBounds_toArray, List.set_cons_zero, List.set_cons_succ]
  refine wpQ_run rfl (.bool true) (fun w' hw => by simp [go_sem]) ?_
  simp only [Act.put, List.setIfInBounds_toArray, List.set_cons_zero, List.set_cons_succ]
  refine wpQ_run rfl (.bool true) (fun w' hw => by simp [go_sem]) ?_
  simp only [Act.put, List.setIfInBounds_toArray, List.set_cons_zero, List.set_cons_succ]
  refine wpQ_run rfl (.bool true) (fun w' hw => by simp [go_sem]) ?_
  simp only [Act.put, List.setIfInBounds_toArray, List.set_cons_zero, List.set_cons_succ]
  refine wpQ_run rfl (.pointer (some ⟨y2, 2, none⟩)) (fun w' hw => by simp [go_sem]) ?_
  simp only [Act.put, List.setIfInBounds_toArray, List.set_cons_zero, List.set_cons_succ]
  refine wpQ_run rfl (.bool true) (fun w' hw => by have := (Y2.out.after hw).cell 2 rfl; simp [go_sem, this]) ?_
  simp only [Act.put, List.setIfInBounds_toArray, List.set_cons_zero, List.set_cons_succ]
  refine wpQ_run rfl (.bool true) (fun w' hw => by simp [go_sem]) ?_
  simp only [Act.put, List.setIfInBounds_toArray, List.set_cons_zero, List.set_cons_succ]
  refine wpQ_run rfl (.bool true) (fun w' hw => by simp [go_sem]) ?_
  simp only [Act.put, List.setIfInBounds_toArray, List.set_cons_zero, List.set_cons_succ]
  refine wpQ_load_box rfl 23 _ rfl Y2.out (by rfl) Y2.out.lt Tryd.underlying23 rfl (by kernel_rfl) ?_
  simp only [Act.put, List.setIfInBounds_toArray, List.set_cons_zero, List.set_cons_succ]
  refine wpQ_callB rfl 17 #[.agg #[.bool false, .int .i64 0, .bool true, .int .i64 63934444800], .int .i64 0] (fun w' => by simp [go_sem]) (.bool true) (Nat.le_refl _) (fun w' hw => winIn_any false 0 true 63934444800 0 w') ?_
  simp only [Act.put, List.setIfInBounds_toArray, List.set_cons_zero, List.set_cons_succ]
  refine wpQ_run rfl (.bool true) (fun w' hw => by simp [go_sem]) ?_
  simp only [Act.put, List.setIfInBounds_toArray, List.set_cons_zero, List.set_cons_succ]
  refine wpQ_run rfl (.bool true) (fun w' hw => by simp [go_sem]) ?_
  simp only [Act.put, List.setIfInBounds_toArray, List.set_cons_zero, List.set_cons_succ]
  refine wpQ_load_box rfl 23 _ rfl Y2.out (by rfl) Y2.out.lt Tryd.underlying23 rfl (by kernel_rfl) ?_
  simp only [Act.put, List.setIfInBounds_toArray, List.set_cons_zero, List.set_cons_succ]
  refine wpQ_run rfl (.pointer (some ⟨y2, 3, none⟩)) (fun w' hw => by simp [go_sem]) ?_
  simp only [Act.put, List.setIfInBounds_toArray, List.set_cons_zero, List.set_cons_succ]
  refine wpQ_run rfl (.int .i64 63934444800) (fun w' hw => by have := (Y2.out.after hw).cell 3 rfl; simp [go_sem, this]) ?_
  simp only [Act.put, List.setIfInBounds_toArray, List.set_cons_zero, List.set_cons_succ]
  refine wpQ_run rfl (.int .i64 63934444801) (fun w' hw => by simp [go_sem]; decide) ?_
  simp only [Act.put, List.setIfInBounds_toArray, List.set_cons_zero, List.set_cons_succ]
  refine wpQ_callB rfl 17 #[.agg #[.bool false, .int .i64 0, .bool true, .int .i64 63934444800], .int .i64 63934444801] (fun w' => by simp [go_sem]) (.bool false) (Nat.le_refl _) (fun w' hw => winIn_any false 0 true 63934444800 63934444801 w') ?_
  simp only [Act.put, List.setIfInBounds_toArray, List.set_cons_zero, List.set_cons_succ]
  refine wpQ_run rfl (.bool true) (fun w' hw => by simp [go_sem]) ?_
  simp only [Act.put, List.setIfInBounds_toArray, List.set_cons_zero, List.set_cons_succ]
  refine wpQ_run rfl (.bool true) (fun w' hw => by simp [go_sem]) ?_
  simp only [Act.put, List.setIfInBounds_toArray, List.set_cons_zero, List.set_cons_succ]
  intro w81 hb81
  replace HT := Lib.hid (HT.out.after hb81)
  replace RD := Lib.hid (RD.out.after hb81)
  replace Y1 := Lib.hid (Y1.out.after hb81)
  replace Y2 := Lib.hid (Y2.out.after hb81)
  replace B := B.trans (hb81.mono B.size)
  clear hb81
  go_wp2_with fail
  go_ret
  exact ⟨rfl, B⟩

end Go.Proofs.YtigopfeamjhdpaaDoor

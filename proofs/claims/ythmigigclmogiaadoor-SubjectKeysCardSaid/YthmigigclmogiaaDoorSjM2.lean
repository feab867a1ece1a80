/- The program's Put of subjects. -/
import Derived.Test.YthmigigclmogiaaDoorSjM
namespace Go.Proofs.YthmigigclmogiaaDoor
open Go.RowKit
set_option linter.unusedSimpArgs false
set_option linter.unusedVariables false

def PutJ (s : Sj) (w : World) (e : Ending) (w' : World) : Prop :=
  (s.may = true ∧ ∃ v : SV, e = .returned (.tuple #[.agg #[.bool v.l, .bool v.h, .slice v.a1 v.n1 v.c1, .slice v.a2 v.n2 v.c2, .slice v.a3 v.n3 v.c3], .int .i64 0]) ∧ RdI (fun b => w.heap.size ≤ b) w' v s.value ∧ Below w.heap.size w w') ∨
  (s.may = false ∧ e = .returned (.tuple #[.agg #[.bool false, .bool false, .slice none 0 0, .slice none 0 0, .slice none 0 0], .int .i64 7]) ∧ Below w.heap.size w w')
set_option maxHeartbeats 16000000 in
set_option maxRecDepth 100000 in
theorem putJ_any (s : Sj) (v : JV) (m : Nat) (w : World) (hr : RdJ (fun _ => True) w v s) (hg : s.great m = false) (ht : Tab w) : Calls Tryd.prog 7 #[v.val] w (PutJ s w) := by
  have HRV := Lib.hid hr
  have HT := Lib.hid ht
  have HG := Lib.hid hg
  clear hr ht hg
  obtain ⟨vkd, vs, va1, vn1, vc1, va2, vn2, vc2, vk, va3, vn3, vc3⟩ := v
  have B : Below w.heap.size w ((w.alloc (.cells #[.int .u8 vkd, .bool vs, .slice va1 vn1 vc1, .slice va2 vn2 vc2, .int .i64 vk, .slice va3 vn3 vc3] 28)).alloc (.cells #[.bool false, .bool false, .slice none 0 0, .slice none 0 0, .slice none 0 0] 33)) := ((Below.refl _ _).alloc (Nat.le_refl _) _).alloc (by simp) _
  have X : Hid (Box ((w.alloc (.cells #[.int .u8 vkd, .bool vs, .slice va1 vn1 vc1, .slice va2 vn2 vc2, .int .i64 vk, .slice va3 vn3 vc3] 28)).alloc (.cells #[.bool false, .bool false, .slice none 0 0, .slice none 0 0, .slice none 0 0] 33)) w.heap.size 28 #[.int .u8 vkd, .bool vs, .slice va1 vn1 vc1, .slice va2 vn2 vc2, .int .i64 vk, .slice va3 vn3 vc3]) := Lib.hid ((Box.new _ _ _).alloc _)
  have Y : Hid (Box ((w.alloc (.cells #[.int .u8 vkd, .bool vs, .slice va1 vn1 vc1, .slice va2 vn2 vc2, .int .i64 vk, .slice va3 vn3 vc3] 28)).alloc (.cells #[.bool false, .bool false, .slice none 0 0, .slice none 0 0, .slice none 0 0] 33)) (w.heap.size + 1) 33 #[.bool false, .bool false, .slice none 0 0, .slice none 0 0, .slice none 0 0]) := Lib.hid (by
    have := Box.new (w.alloc (.cells #[.int .u8 vkd, .bool vs, .slice va1 vn1 vc1, .slice va2 vn2 vc2, .int .i64 vk, .slice va3 vn3 vc3] 28)) 33 #[.bool false, .bool false, .slice none 0 0, .slice none 0 0, .slice none 0 0]
    simpa using this)
  show Calls _ _ #[.agg #[.int .u8 vkd, .bool vs, .slice va1 vn1 vc1, .slice va2 vn2 vc2, .int .i64 vk, .slice va3 vn3 vc3]] _ _
  go_enter Tryd.func7, Tryd.ntmps7
  go_upto_region 1 with fail
  change Code.wp _ _ _ _ ((w.alloc (.cells #[.int .u8 vkd, .bool vs, .slice va1 vn1 vc1, .slice va2 vn2 vc2, .int .i64 vk, .slice va3 vn3 vc3] 28)).alloc (.cells #[.bool false, .bool false, .slice none 0 0, .slice none 0 0, .slice none 0 0] 33))
  generalize ((w.alloc (.cells #[.int .u8 vkd, .bool vs, .slice va1 vn1 vc1, .slice va2 vn2 vc2, .int .i64 vk, .slice va3 vn3 vc3] 28)).alloc (.cells #[.bool false, .bool false, .slice none 0 0, .slice none 0 0, .slice none 0 0] 33)) = x0 at *
  have CC := Lib.hid (mayJ_any s ⟨vkd, vs, va1, vn1, vc1, va2, vn2, vc2, vk, va3, vn3, vc3⟩ m x0 (HRV.out.after B) HG.out (HT.out.after B))
  obtain ⟨r, hr1⟩ : ∃ r, r = s.may := ⟨_, rfl⟩
  rw [← hr1] at CC
  have HR0 := Lib.hid hr1
  clear hr1
  go_wp2_with (refine wpList_load_box rfl 28 _ rfl X.out (by rfl) Tryd.underlying28 rfl (by kernel_rfl) ?_)
  refine CC.out.mono ?_
  rintro e x1 ⟨rfl, bx1⟩
  clear CC
  replace X := Lib.hid (X.out.after bx1)
  replace Y := Lib.hid (Y.out.after bx1)
  replace B := B.trans (bx1.mono B.size)
  clear bx1
  cases r with
  | false =>
    go_wp2_with (refine wpList_store_box (cells := #[.bool false, .bool false, .slice none 0 0, .slice none 0 0, .slice none 0 0]) rfl 33 _ _ rfl Y.out (by rfl) (by rfl) rfl (by kernel_rfl) (by simp [Value.oneCell']) ?_; intro u9 X9 st9)
    have B9 := st9.below w.heap.size w (by omega) B
    exact bodyPost_ret (v := .tuple #[.agg #[.bool false, .bool false, .slice none 0 0, .slice none 0 0, .slice none 0 0], .int .i64 7]) (box_result2 (p := 2) (q := 3) rfl _ _ (by rfl) X9 Tryd.underlying33 rfl (by kernel_rfl)) rfl (.inr ⟨HR0.out.symm, rfl, B9⟩)
  | true =>
    have hr1 : s.right 1 = true := by have h1 := HR0.out; unfold Sj.may at h1; exact (Bool.and_eq_true_iff.1 h1.symm).1
    have HR1 := Lib.hid hr1
    clear hr1
    go_wp2_with (refine wpList_load_box rfl 28 _ rfl X.out (by rfl) Tryd.underlying28 rfl (by kernel_rfl) ?_)
    refine (value_any s ⟨vkd, vs, va1, vn1, vc1, va2, vn2, vc2, vk, va3, vn3, vc3⟩ 1 m x1 (HRV.out.after B) HR1.out HG.out (HT.out.after B)).mono ?_
    rintro e x2 ⟨⟨tl, th, ta1, tn1, tc1, ta2, tn2, tc2, ta3, tn3, tc3⟩, rfl, rt, bx2⟩
    unfold SV.val
    have hyl := Y.out.lt
    have HRT := Lib.hid rt
    clear rt
    replace X := Lib.hid (X.out.after bx2)
    replace Y := Lib.hid (Y.out.after bx2)
    replace B := B.trans (bx2.mono B.size)
    clear bx2
    go_wp2_with (refine wpList_store_box (cells := #[.bool tl, .bool th, .slice ta1 tn1 tc1, .slice ta2 tn2 tc2, .slice ta3 tn3 tc3]) rfl 33 _ _ rfl Y.out (by rfl) (by rfl) rfl (by kernel_rfl) (by simp [Value.oneCell']) ?_; intro u9 X9 st9)
    have B9 := st9.below w.heap.size w (by omega) B
    have R9 : RdI (fun b => w.heap.size ≤ b) u9 ⟨tl, th, ta1, tn1, tc1, ta2, tn2, tc2, ta3, tn3, tc3⟩ s.value := (HRT.out.keep (w' := u9) (fun b hb => st9.other b (by have := hb; omega))).mono (fun b hb => by show w.heap.size ≤ b; have := hb; omega)
    exact bodyPost_ret (v := .tuple #[.agg #[.bool tl, .bool th, .slice ta1 tn1 tc1, .slice ta2 tn2 tc2, .slice ta3 tn3 tc3], .int .i64 0]) (box_result2 (p := 2) (q := 3) rfl _ _ (by rfl) X9 Tryd.underlying33 rfl (by kernel_rfl)) rfl (.inl ⟨HR0.out.symm, ⟨tl, th, ta1, tn1, tc1, ta2, tn2, tc2, ta3, tn3, tc3⟩, rfl, R9, B9⟩)

end Go.Proofs.YthmigigclmogiaaDoor

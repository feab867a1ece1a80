/- The program's May of subjects. -/
import Derived.Test.YthmigigclmogiaaDoorSjV4
namespace Go.Proofs.YthmigigclmogiaaDoor
open Go.RowKit
set_option linter.unusedSimpArgs false
set_option linter.unusedVariables false

set_option maxHeartbeats 16000000 in
set_option maxRecDepth 100000 in
theorem mayJ_any (s : Sj) (v : JV) (m : Nat) (w : World) (hr : RdJ (fun _ => True) w v s) (hg : s.great m = false) (ht : Tab w) : Calls Tryd.prog 17 #[v.val] w fun e w' => e = .returned (.bool s.may) ∧ Below w.heap.size w w' := by
  have HRV := Lib.hid hr
  have HT := Lib.hid ht
  have HG := Lib.hid hg
  clear hr ht hg
  obtain ⟨vkd, vs, va1, vn1, vc1, va2, vn2, vc2, vk, va3, vn3, vc3⟩ := v
  have B : Below w.heap.size w (w.alloc (.cells #[.int .u8 vkd, .bool vs, .slice va1 vn1 vc1, .slice va2 vn2 vc2, .int .i64 vk, .slice va3 vn3 vc3] 28)) := (Below.refl _ _).alloc (Nat.le_refl _) _
  have X := Lib.hid (Box.new w 28 #[.int .u8 vkd, .bool vs, .slice va1 vn1 vc1, .slice va2 vn2 vc2, .int .i64 vk, .slice va3 vn3 vc3])
  show Calls _ _ #[.agg #[.int .u8 vkd, .bool vs, .slice va1 vn1 vc1, .slice va2 vn2 vc2, .int .i64 vk, .slice va3 vn3 vc3]] _ _
  go_enter Tryd.func17, Tryd.ntmps17
  go_upto_region 1 with fail
  change Code.wp _ _ _ _ (w.alloc (.cells #[.int .u8 vkd, .bool vs, .slice va1 vn1 vc1, .slice va2 vn2 vc2, .int .i64 vk, .slice va3 vn3 vc3] 28))
  generalize (w.alloc (.cells #[.int .u8 vkd, .bool vs, .slice va1 vn1 vc1, .slice va2 vn2 vc2, .int .i64 vk, .slice va3 vn3 vc3] 28)) = x0 at *
  have C1 := rightJ_any s ⟨vkd, vs, va1, vn1, vc1, va2, vn2, vc2, vk, va3, vn3, vc3⟩ m 1 x0 (HRV.out.after B) HG.out (by omega)
  rw [show ((1 : Nat) : Int) = 1 from rfl] at C1
  have CC := Lib.hid C1
  clear C1
  have HD := Lib.hid (show s.may = (s.right 1 && s.value.may) from rfl)
  obtain ⟨r, hr1⟩ : ∃ r, r = s.right 1 := ⟨_, rfl⟩
  rw [← hr1] at HD CC
  have HR0 := Lib.hid hr1
  clear hr1
  go_wp2_with (refine wpList_load_box rfl 28 _ rfl X.out (by rfl) Tryd.underlying28 rfl (by kernel_rfl) ?_)
  refine CC.out.mono ?_
  rintro e x1 ⟨rfl, bx1⟩
  clear CC
  replace X := Lib.hid (X.out.after bx1)
  replace B := B.trans (bx1.mono B.size)
  clear bx1
  cases r with
  | false =>
    go_wp2_with fail
    go_ret
    exact ⟨by rw [HD.out]; rfl, B⟩
  | true =>
    have HR1 := Lib.hid HR0.out.symm
    go_wp2_with (refine wpList_load_box rfl 28 _ rfl X.out (by rfl) Tryd.underlying28 rfl (by kernel_rfl) ?_)
    refine (value_any s ⟨vkd, vs, va1, vn1, vc1, va2, vn2, vc2, vk, va3, vn3, vc3⟩ 1 m x1 (HRV.out.after B) HR1.out HG.out (HT.out.after B)).mono ?_
    rintro e x2 ⟨⟨tl, th, ta1, tn1, tc1, ta2, tn2, tc2, ta3, tn3, tc3⟩, rfl, rt, bx2⟩
    unfold SV.val
    have B2 := B.trans (bx2.mono B.size)
    have CM := Lib.hid (may_any s.value ⟨tl, th, ta1, tn1, tc1, ta2, tn2, tc2, ta3, tn3, tc3⟩ x2 (rt.mono (fun _ _ => trivial)) 0 (value_wide s 1 m 0 HR1.out HG.out (by omega) (by omega)) (HT.out.after B2))
    clear rt bx2
    go_wp2_with fail
    refine CM.out.mono ?_
    rintro e x3 ⟨rfl, bx3⟩
    have B3 := B2.trans (bx3.mono B2.size)
    clear CM bx3
    go_wp2_with fail
    go_ret
    exact ⟨by rw [HD.out]; rfl, B3⟩

end Go.Proofs.YthmigigclmogiaaDoor

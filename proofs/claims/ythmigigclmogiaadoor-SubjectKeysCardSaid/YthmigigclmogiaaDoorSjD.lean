/- The program's Get of a join of one key. -/
import Derived.Test.YthmigigclmogiaaDoorSjC
namespace Go.Proofs.YthmigigclmogiaaDoor
open Go.RowKit
set_option linter.unusedSimpArgs false
set_option linter.unusedVariables false

theorem numL_one : numL 1 = [49] := by decide +kernel
theorem joinW_wide {l dl : List UInt8} (hl : l.length = 32) (hd : dl.length ≤ 5000) : (li [at1 knL, at1 [49], at1 dl, keyS false l]).wide 0 = false := li_wide (by omega) (by simp) (fun k hk => by
  simp only [List.mem_cons, List.not_mem_nil, or_false] at hk
  rcases hk with rfl | rfl | rfl | rfl
  · exact at1_wide _ _ (by decide) (by omega)
  · exact at1_wide _ _ (by decide) (by omega)
  · exact at1_wide _ _ hd (by omega)
  · exact keyS_wide _ _ _ (by omega) (by omega))
theorem keyJ_great {l : List UInt8} (hl : l.length = 32) : (Sj.mk 3 false [] [] 1 [.mk 1 false l [] 0 []]).great 0 = false := by
  simp [great_def, Sj.greatL, hl]
def GetJ (r : Bool) (w : World) (e : Ending) (w' : World) : Prop :=
  (r = false ∧ e = .returned (.tuple #[.agg #[.int .u8 0, .bool false, .slice none 0 0, .slice none 0 0, .int .i64 0, .slice none 0 0], .int .i64 7]) ∧ Below w.heap.size w w') ∨
  (r = true ∧ ∃ u : JV, e = .returned (.tuple #[.agg #[.int .u8 u.kd, .bool u.s, .slice u.a1 u.n1 u.c1, .slice u.a2 u.n2 u.c2, .int .i64 u.k, .slice u.a3 u.n3 u.c3], .int .i64 0]) ∧ u.k = 1 ∧ u.n3 = 1 ∧ Below w.heap.size w w')
set_option maxHeartbeats 16000000 in
set_option maxRecDepth 100000 in
theorem getJ_any (l dl : List UInt8) (v : SV) (w : World) (hr : Rd w v (li [at1 knL, at1 [49], at1 dl, keyS false l])) (hl : l.length = 32) (hd : dl.length ≤ 5000) (hm : (li [at1 knL, at1 [49], at1 dl, keyS false l]).may = true) (hmj : (Sj.mk 3 false [] [] 1 [.mk 1 false l [] 0 []]).may = true) (ht : Tab w) :
    Calls Tryd.prog 16 #[v.val] w (GetJ ((li [at1 knL, at1 [49], at1 dl, keyS false l]).same (li [at1 knL, at1 [49], at1 [49], keyS false l])) w) := by
  have HRV := Lib.hid hr
  have HT := Lib.hid ht
  have HL := Lib.hid hl
  have HD := Lib.hid hd
  have HM := Lib.hid hm
  have HMJ := Lib.hid hmj
  clear hr ht hl hd hm hmj
  obtain ⟨vl, vh, va1, vn1, vc1, va2, vn2, vc2, va3, vn3, vc3⟩ := v
  have B : Below w.heap.size w ((w.alloc (.cells #[.bool vl, .bool vh, .slice va1 vn1 vc1, .slice va2 vn2 vc2, .slice va3 vn3 vc3] 33)).alloc (.cells #[.int .u8 0, .bool false, .slice none 0 0, .slice none 0 0, .int .i64 0, .slice none 0 0] 28)) := ((Below.refl _ _).alloc (Nat.le_refl _) _).alloc (by simp) _
  have X : Hid (Box ((w.alloc (.cells #[.bool vl, .bool vh, .slice va1 vn1 vc1, .slice va2 vn2 vc2, .slice va3 vn3 vc3] 33)).alloc (.cells #[.int .u8 0, .bool false, .slice none 0 0, .slice none 0 0, .int .i64 0, .slice none 0 0] 28)) w.heap.size 33 #[.bool vl, .bool vh, .slice va1 vn1 vc1, .slice va2 vn2 vc2, .slice va3 vn3 vc3]) := Lib.hid ((Box.new _ _ _).alloc _)
  have Y : Hid (Box ((w.alloc (.cells #[.bool vl, .bool vh, .slice va1 vn1 vc1, .slice va2 vn2 vc2, .slice va3 vn3 vc3] 33)).alloc (.cells #[.int .u8 0, .bool false, .slice none 0 0, .slice none 0 0, .int .i64 0, .slice none 0 0] 28)) (w.heap.size + 1) 28 #[.int .u8 0, .bool false, .slice none 0 0, .slice none 0 0, .int .i64 0, .slice none 0 0]) := Lib.hid (by
    have := Box.new (w.alloc (.cells #[.bool vl, .bool vh, .slice va1 vn1 vc1, .slice va2 vn2 vc2, .slice va3 vn3 vc3] 33)) 28 #[.int .u8 0, .bool false, .slice none 0 0, .slice none 0 0, .int .i64 0, .slice none 0 0]
    simpa using this)
  unfold SV.val
  show Calls _ _ #[.agg #[.bool vl, .bool vh, .slice va1 vn1 vc1, .slice va2 vn2 vc2, .slice va3 vn3 vc3]] _ _
  go_enter Tryd.func16, Tryd.ntmps16
  go_upto_region 1 with fail
  change Code.wp _ _ _ _ ((w.alloc (.cells #[.bool vl, .bool vh, .slice va1 vn1 vc1, .slice va2 vn2 vc2, .slice va3 vn3 vc3] 33)).alloc (.cells #[.int .u8 0, .bool false, .slice none 0 0, .slice none 0 0, .int .i64 0, .slice none 0 0] 28))
  generalize ((w.alloc (.cells #[.bool vl, .bool vh, .slice va1 vn1 vc1, .slice va2 vn2 vc2, .slice va3 vn3 vc3] 33)).alloc (.cells #[.int .u8 0, .bool false, .slice none 0 0, .slice none 0 0, .int .i64 0, .slice none 0 0] 28)) = x0 at *
  have CM := may_any (li [at1 knL, at1 [49], at1 dl, keyS false l]) ⟨vl, vh, va1, vn1, vc1, va2, vn2, vc2, va3, vn3, vc3⟩ x0 (HRV.out.after B) 0 (joinW_wide HL.out HD.out) (HT.out.after B)
  rw [HM.out] at CM
  replace CM := Lib.hid CM
  go_wp2_with (refine wpList_load_box rfl 33 _ rfl X.out (by rfl) Tryd.underlying33 rfl (by kernel_rfl) ?_)
  refine CM.out.mono ?_
  rintro e x1 ⟨rfl, bx1⟩
  clear CM
  replace X := Lib.hid (X.out.after bx1)
  replace Y := Lib.hid (Y.out.after bx1)
  replace B := B.trans (bx1.mono B.size)
  clear bx1
  go_wp2_with (refine wpList_load_box rfl 33 _ rfl X.out (by rfl) Tryd.underlying33 rfl (by kernel_rfl) ?_)
  refine (readJ_any l dl ⟨vl, vh, va1, vn1, vc1, va2, vn2, vc2, va3, vn3, vc3⟩ x1 (HRV.out.after B) HL.out HD.out).mono ?_
  rintro e x2 ⟨⟨ukd, us, ua1, un1, uc1, ua2, un2, uc2, uk, ua3, un3, uc3⟩, rfl, ru, hu1, hu3, bx2⟩
  replace X := Lib.hid (X.out.after bx2)
  replace Y := Lib.hid (Y.out.after bx2)
  replace B := B.trans (bx2.mono B.size)
  clear bx2
  replace hu1 : uk = 1 := hu1
  replace hu3 : un3 = 1 := hu3
  have RU := Lib.hid ru
  have HU1 := Lib.hid hu1
  have HU3 := Lib.hid hu3
  clear ru hu1 hu3
  simp only [JV.val]
  go_upto_region 4 with (refine wpList_store_box (cells := #[.int .u8 ukd, .bool us, .slice ua1 un1 uc1, .slice ua2 un2 uc2, .int .i64 uk, .slice ua3 un3 uc3]) rfl 28 _ _ rfl (Box.new _ _ _) (by rfl) (by rfl) rfl (by kernel_rfl) (by simp [Value.oneCell']) ?_; intro u9 X9 st9)
  have bs3 : Below x2.heap.size x2 u9 := st9.below x2.heap.size x2 (Nat.le_refl _) ((Below.refl _ _).alloc (Nat.le_refl _) _)
  have J := Lib.hid X9
  replace X := Lib.hid (X.out.after bs3)
  replace Y := Lib.hid (Y.out.after bs3)
  replace RU := Lib.hid (RU.out.after bs3)
  replace B := B.trans (bs3.mono B.size)
  clear bs3 st9 X9
  generalize u9 = x3 at *
  go_wp2_with (refine wpList_load_box rfl 28 _ rfl J.out (by rfl) Tryd.underlying28 rfl (by kernel_rfl) ?_)
  refine (putJ_any (.mk 3 false [] [] 1 [.mk 1 false l [] 0 []]) ⟨ukd, us, ua1, un1, uc1, ua2, un2, uc2, uk, ua3, un3, uc3⟩ 0 x3 RU.out (keyJ_great HL.out) (HT.out.after B)).mono ?_
  rintro e y1 (⟨_, ⟨tl, th, ta1, tn1, tc1, ta2, tn2, tc2, ta3, tn3, tc3⟩, rfl, rt, by1⟩ | ⟨hno, _, _⟩)
  case inr =>
    rw [HMJ.out] at hno
    cases hno
  rw [show ((.mk 3 false [] [] 1 [.mk 1 false l [] 0 []]) : Sj).value = li [at1 knL, at1 [49], at1 [49], keyS false l] by simp [Sj.value, Sj.valueL, numL_one, at1, li, knL]] at rt
  have RT := Lib.hid rt
  clear rt
  replace X := Lib.hid (X.out.after by1)
  replace Y := Lib.hid (Y.out.after by1)
  replace RU := Lib.hid (RU.out.after by1)
  replace J := Lib.hid (J.out.after by1)
  replace B := B.trans (by1.mono B.size)
  clear by1
  go_upto_region 5 with (refine wpList_store_box (cells := #[.bool tl, .bool th, .slice ta1 tn1 tc1, .slice ta2 tn2 tc2, .slice ta3 tn3 tc3]) rfl 33 _ _ rfl (Box.new _ _ _) (by rfl) (by rfl) rfl (by kernel_rfl) (by simp [Value.oneCell']) ?_; intro u9 X9 st9)
  have bs4 : Below y1.heap.size y1 u9 := st9.below y1.heap.size y1 (Nat.le_refl _) ((Below.refl _ _).alloc (Nat.le_refl _) _)
  have P := Lib.hid X9
  replace X := Lib.hid (X.out.after bs4)
  replace Y := Lib.hid (Y.out.after bs4)
  replace RU := Lib.hid (RU.out.after bs4)
  replace J := Lib.hid (J.out.after bs4)
  replace RT := Lib.hid (RT.out.after bs4)
  replace B := B.trans (bs4.mono B.size)
  clear bs4 st9 X9
  generalize u9 = x4 at *
  have CS := same_any (li [at1 knL, at1 [49], at1 dl, keyS false l]) (li [at1 knL, at1 [49], at1 [49], keyS false l]) ⟨vl, vh, va1, vn1, vc1, va2, vn2, vc2, va3, vn3, vc3⟩ ⟨tl, th, ta1, tn1, tc1, ta2, tn2, tc2, ta3, tn3, tc3⟩ x4 (HRV.out.after B) (RT.out.mono (fun _ _ => trivial))
  obtain ⟨r, hr9⟩ : ∃ r, r = (li [at1 knL, at1 [49], at1 dl, keyS false l]).same (li [at1 knL, at1 [49], at1 [49], keyS false l]) := ⟨_, rfl⟩
  rw [← hr9] at CS
  replace CS := Lib.hid CS
  have HR9 := Lib.hid hr9
  clear hr9
  go_wp2_with first | (refine wpList_load_box rfl 33 _ rfl X.out (by rfl) Tryd.underlying33 rfl (by kernel_rfl) ?_) | (refine wpList_load_box rfl 33 _ rfl P.out (by rfl) Tryd.underlying33 rfl (by kernel_rfl) ?_)
  refine CS.out.mono ?_
  rintro e y9 ⟨rfl, by9⟩
  clear CS
  replace X := Lib.hid (X.out.after by9)
  replace Y := Lib.hid (Y.out.after by9)
  replace RU := Lib.hid (RU.out.after by9)
  replace J := Lib.hid (J.out.after by9)
  replace RT := Lib.hid (RT.out.after by9)
  replace P := Lib.hid (P.out.after by9)
  replace B := B.trans (by9.mono B.size)
  clear by9
  cases r with
  | false =>
    go_wp2_with (refine wpList_store_box (cells := #[.int .u8 0, .bool false, .slice none 0 0, .slice none 0 0, .int .i64 0, .slice none 0 0]) rfl 28 _ _ rfl Y.out (by rfl) (by rfl) rfl (by kernel_rfl) (by simp [Value.oneCell']) ?_; intro u9 X9 st9)
    have B9 := st9.below w.heap.size w (by omega) B
    exact bodyPost_ret (v := .tuple #[.agg #[.int .u8 0, .bool false, .slice none 0 0, .slice none 0 0, .int .i64 0, .slice none 0 0], .int .i64 7]) (box_result2 (p := 2) (q := 3) rfl _ _ (by rfl) X9 Tryd.underlying28 rfl (by kernel_rfl)) rfl (.inl ⟨HR9.out.symm, rfl, B9⟩)
  | true =>
    go_wp2_with first | (refine wpList_load_box rfl 28 _ rfl J.out (by rfl) Tryd.underlying28 rfl (by kernel_rfl) ?_) | (refine wpList_store_box (cells := #[.int .u8 ukd, .bool us, .slice ua1 un1 uc1, .slice ua2 un2 uc2, .int .i64 uk, .slice ua3 un3 uc3]) rfl 28 _ _ rfl Y.out (by rfl) (by rfl) rfl (by kernel_rfl) (by simp [Value.oneCell']) ?_; intro u9 X9 st9)
    have B9 := st9.below w.heap.size w (by omega) B
    exact bodyPost_ret (v := .tuple #[.agg #[.int .u8 ukd, .bool us, .slice ua1 un1 uc1, .slice ua2 un2 uc2, .int .i64 uk, .slice ua3 un3 uc3], .int .i64 0]) (box_result2 (p := 2) (q := 3) rfl _ _ (by rfl) X9 Tryd.underlying28 rfl (by kernel_rfl)) rfl (.inr ⟨HR9.out.symm, ⟨ukd, us, ua1, un1, uc1, ua2, un2, uc2, uk, ua3, un3, uc3⟩, rfl, HU1.out, HU3.out, B9⟩)

end Go.Proofs.YthmigigclmogiaaDoor

/- Notation: the program's Print and Pack. -/
import Derived.Test.YtkbblhioncecmaaDoorNtZ
import Derived.Test.YtkbblhioncecmaaDoorNtJ
namespace Go.Proofs.YtkbblhioncecmaaDoor
open Go.RowKit
set_option linter.unusedVariables false
set_option linter.unusedSimpArgs false

theorem Bl.isB {B b : Nat} {l : List UInt8} {w : World} (h : Bl B b l w) : Lib.IsBuilder 61 5 B b (Lib.byteCells l) w := by
  obtain ⟨p, v, hp, h1, h2, h3, h4⟩ := h
  rcases hp with rfl | rfl
  · exact .inl ⟨h4, v, h1, by rw [byteCells_length]; exact h2.1, h3⟩
  · exact .inr ⟨h4, v, h1, by rw [byteCells_length]; exact h2.1, h3⟩
theorem Bl.new (w : World) : Bl w.heap.size w.heap.size [] (w.alloc (.cells #[.pointer none, .slice none 0 0] 61)) :=
  ⟨_, _, .inl rfl, heap_alloc_new _ _, OwnR.nil _ _, (fun h => by cases h), Nat.le_refl _⟩
/-- a value's advanced form, or the error -/
def PrintP (s : Sx) (w : World) (e : Ending) (w' : World) : Prop :=
  ∃ (t : ByteArray) (x : Nat), e = .returned (.tuple #[.string t, .int .i64 x]) ∧ t.data.toList = (if s.may then s.adv else []) ∧ x = (if s.may then 0 else 4) ∧ Below w.heap.size w w'
/-- a value's transport form -/
def Sx.pack (s : Sx) : List UInt8 := [123] ++ b64 s.form ++ [125]
def PackP (s : Sx) (w : World) (e : Ending) (w' : World) : Prop :=
  ∃ (t : ByteArray) (x : Nat), e = .returned (.tuple #[.string t, .int .i64 x]) ∧ t.data.toList = (if s.may then s.pack else []) ∧ x = (if s.may then 0 else 4) ∧ Below w.heap.size w w'
theorem wide_broad (s : Sx) : ∀ m, s.wide m = false → s.broad m = false := by
  induction s using Sx.ind with
  | h l hh hi da ks ih =>
    intro m h
    obtain ⟨h1, h2, h3, h4, h5⟩ := wide_no h
    have h2' : ks.length ≤ 700 := h2
    have h3' : hi.length ≤ 5000 := h3
    have h4' : da.length ≤ 5000 := h4
    exact broad_mk h1 h2 (by omega) (by omega) (fun k hk => ih k hk _ (h5 k hk))

set_option maxHeartbeats 4000000 in
set_option maxRecDepth 100000 in
theorem print_any (s : Sx) (v : SV) (w : World) (hr : Rd w v s) (m : Nat) (hw : s.broad m = false) (ht : Tab w) : Calls Tryd.prog 15 #[v.val] w (PrintP s w) := by
  have HR := Lib.hid hr
  have CM := Lib.hid (fun (w' : World) (h : Below w.heap.size w w') => mayB_any s v w' (hr.after h) m hw (ht.after h))
  obtain ⟨my, hmy⟩ : ∃ my, my = s.may := ⟨_, rfl⟩
  have HMY := Lib.hid hmy
  unfold PrintP
  rw [← hmy]
  rw [← hmy] at CM
  clear hr hw ht hmy
  obtain ⟨vl, vh, va1, vn1, vc1, va2, vn2, vc2, va3, vn3, vc3⟩ := v
  unfold SV.val
  show Calls _ _ #[.agg #[.bool vl, .bool vh, .slice va1 vn1 vc1, .slice va2 vn2 vc2, .slice va3 vn3 vc3]] _ _
  have B0 := Lib.hid (show Below w.heap.size w (w.alloc (.cells #[.bool vl, .bool vh, .slice va1 vn1 vc1, .slice va2 vn2 vc2, .slice va3 vn3 vc3] 26)) from (Below.refl _ _).alloc (Nat.le_refl _) _)
  have V := Lib.hid (Box.new w 26 #[.bool vl, .bool vh, .slice va1 vn1 vc1, .slice va2 vn2 vc2, .slice va3 vn3 vc3])
  go_enter Tryd.func15, Tryd.ntmps15
  go_upto_region 1 with fail
  change Code.wp _ _ _ _ (w.alloc (.cells #[.bool vl, .bool vh, .slice va1 vn1 vc1, .slice va2 vn2 vc2, .slice va3 vn3 vc3] 26))
  generalize (w.alloc (.cells #[.bool vl, .bool vh, .slice va1 vn1 vc1, .slice va2 vn2 vc2, .slice va3 vn3 vc3] 26)) = x0 at *
  go_wp2_with (refine wpList_load_box rfl 26 _ rfl V.out (by rfl) Tryd.underlying26 rfl (by kernel_rfl) ?_)
  refine (CM.out _ B0.out).mono ?_
  rintro e w1 ⟨rfl, b1⟩
  have B1 := Lib.hid (B0.out.trans (b1.mono B0.out.size))
  have V' := Lib.hid (V.out.after b1)
  clear b1 V B0 CM
  have V := V'
  clear V'
  cases my with
  | false =>
    go_wp2_with fail
    go_ret2
    exact ⟨⟨#[]⟩, 4, rfl, rfl, rfl, B1.out⟩
  | true =>
    have HFL : Hid (s.form.length ≤ 4096) := Lib.hid (may_parts HMY.out.symm).2.2.2
    have BL := Lib.hid (Bl.new w1)
    have BA := Lib.hid (show Below w1.heap.size w1 (w1.alloc (.cells #[.pointer none, .slice none 0 0] 61)) from (Below.refl _ _).alloc (Nat.le_refl _) _)
    have V' := Lib.hid (V.out.after BA.out)
    have HRK := Lib.hid ((((HR.out.after B1.out).there).mono (ok' := fun k => k < w1.heap.size) (fun k hk => hk.2)).after BA.out)
    clear V
    go_upto_region 4 with fail
    change Code.wp _ _ _ _ (w1.alloc (.cells #[.pointer none, .slice none 0 0] 61))
    generalize (w1.alloc (.cells #[.pointer none, .slice none 0 0] 61)) = x1 at *
    go_wp2_with (refine wpList_load_box rfl 26 _ rfl V'.out (by rfl) Tryd.underlying26 rfl (by kernel_rfl) ?_)
    refine (valueK s w1.heap.size w1.heap.size [] ⟨vl, vh, va1, vn1, vc1, va2, vn2, vc2, va3, vn3, vc3⟩ x1 BL.out HRK.out (by have := HFL.out; simp only [List.length_nil]; omega) (by have := HFL.out; omega) BA.out.size).mono ?_
    rintro e w2 ⟨rfl, bl2, b2, k2⟩
    have BL2 := Lib.hid bl2
    have B2 := Lib.hid (B1.out.trans ((BA.out.trans b2).mono B1.out.size))
    have HZ := Lib.hid (Nat.le_trans BA.out.size b2.size)
    clear bl2 b2 k2 BL BA V' HRK
    go_wp2_with fail
    refine (bldOut w1.heap.size w1.heap.size _ w2 BL2.out.isB HZ.out).mono ?_
    rintro e w3 ⟨rfl, b3⟩
    have B3 := Lib.hid (B2.out.trans (b3.mono B1.out.size))
    clear b3
    go_wp2_with fail
    go_ret2
    exact ⟨_, 0, rfl, by simp, rfl, B3.out⟩

set_option maxHeartbeats 4000000 in
set_option maxRecDepth 100000 in
theorem pack_any (s : Sx) (v : SV) (w : World) (hr : Rd w v s) (m : Nat) (hw : s.wide m = false) (ht : Tab w) : Calls Tryd.prog 17 #[v.val] w (PackP s w) := by
  have CM := Lib.hid (fun (w' : World) (h : Below w.heap.size w w') => put_all s v w' (hr.after h) m hw (ht.after h))
  obtain ⟨my, hmy⟩ : ∃ my, my = s.may := ⟨_, rfl⟩
  have HMY := Lib.hid hmy
  unfold PackP
  rw [← hmy]
  clear hr hw ht hmy
  obtain ⟨vl, vh, va1, vn1, vc1, va2, vn2, vc2, va3, vn3, vc3⟩ := v
  unfold SV.val
  show Calls _ _ #[.agg #[.bool vl, .bool vh, .slice va1 vn1 vc1, .slice va2 vn2 vc2, .slice va3 vn3 vc3]] _ _
  have B0 := Lib.hid (show Below w.heap.size w (w.alloc (.cells #[.bool vl, .bool vh, .slice va1 vn1 vc1, .slice va2 vn2 vc2, .slice va3 vn3 vc3] 26)) from (Below.refl _ _).alloc (Nat.le_refl _) _)
  have V := Lib.hid (Box.new w 26 #[.bool vl, .bool vh, .slice va1 vn1 vc1, .slice va2 vn2 vc2, .slice va3 vn3 vc3])
  go_enter Tryd.func17, Tryd.ntmps17
  go_upto_region 1 with fail
  change Code.wp _ _ _ _ (w.alloc (.cells #[.bool vl, .bool vh, .slice va1 vn1 vc1, .slice va2 vn2 vc2, .slice va3 vn3 vc3] 26))
  generalize (w.alloc (.cells #[.bool vl, .bool vh, .slice va1 vn1 vc1, .slice va2 vn2 vc2, .slice va3 vn3 vc3] 26)) = x0 at *
  go_wp2_with (refine wpList_load_box rfl 26 _ rfl V.out (by rfl) Tryd.underlying26 rfl (by kernel_rfl) ?_)
  refine (CM.out _ B0.out).mono ?_
  rintro e w1 (⟨hm, v1, rfl, ho, b1⟩ | ⟨hm, rfl, b1⟩)
  · have HFL : Hid (s.form.length ≤ 4096) := Lib.hid (may_parts hm).2.2.2
    have B1 := Lib.hid (B0.out.trans (b1.mono B0.out.size))
    obtain ⟨a1, n1, c1, rfl, sl1, _⟩ := OwnB.parts ho
    have HS := Lib.hid sl1
    obtain rfl : my = true := HMY.out.trans hm
    clear b1 V B0 CM ho sl1 hm
    go_wp2_with fail
    refine (base64_any a1 n1 c1 s.form w1 HS.out (by have := HFL.out; omega)).mono ?_
    rintro e w2 ⟨rfl, b2⟩
    have B2 := Lib.hid (B1.out.trans (b2.mono B1.out.size))
    have hbl : (b64 s.form).length ≤ 10000 := by have := b64_len s.form; have := HFL.out; omega
    clear b2
    go_wp2_with fail
    go_ret2
    exact ⟨_, 0, rfl, by simp [Sx.pack, ByteArray.data_append], rfl, B2.out⟩
  · have B1 := Lib.hid (B0.out.trans (b1.mono B0.out.size))
    obtain rfl : my = false := HMY.out.trans hm
    clear b1 V B0 CM hm
    go_wp2_with fail
    go_ret2
    exact ⟨⟨#[]⟩, 4, rfl, rfl, rfl, B1.out⟩
end Go.Proofs.YtkbblhioncecmaaDoor

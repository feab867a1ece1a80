/- The law NotationPrints: the walk. -/
import Derived.Test.YtkbblhioncecmaaDoorNw2
import Derived.Test.YtkbblhioncecmaaDoorNx2
namespace Go.Proofs.YtkbblhioncecmaaDoor
open Go.RowKit
set_option linter.unusedSimpArgs false
set_option linter.unusedVariables false

theorem print_fix (s : Sx) (v : SV) (w : World) (hr : Rd w v s) (hf : s.form.length ≤ 400000) : Calls Tryd.prog 19 #[v.val] w (fun e w' => e = .returned (.string ⟨s.adv.toArray⟩) ∧ Below w.heap.size w w') := by
  refine (rprint_any s v w hr hf).mono ?_
  rintro e w' ⟨t, rfl, ht, hb⟩
  refine ⟨?_, hb⟩
  have : t = ⟨s.adv.toArray⟩ := by
    apply ByteArray.ext
    apply Array.ext'
    rw [ht]
  rw [this]
theorem bytes_eq {t : ByteArray} {l : List UInt8} (h : t.data.toList = l) : t = ⟨l.toArray⟩ := by
  apply ByteArray.ext
  apply Array.ext'
  rw [h]
set_option maxHeartbeats 32000000 in
set_option maxRecDepth 100000 in
theorem NotationPrints_walk (v : SV) (s : Sx) (w : World) (ht : Tab w) (hr : Rd w v s) (hnb : s.nodes < 4611686018427387904) :
    Calls Tryd.prog 6 #[v.val] w fun e w' => e = .returned (.bool true) ∧ Below w.heap.size w w' := by
  obtain ⟨vl, vh, va1, vn1, vc1, va2, vn2, vc2, va3, vn3, vc3⟩ := v
  have HT := Lib.hid ht
  have HNB := Lib.hid hnb
  show Calls _ _ #[.agg #[.bool vl, .bool vh, .slice va1 vn1 vc1, .slice va2 vn2 vc2, .slice va3 vn3 vc3]] _ _
  have B : Below w.heap.size w (w.alloc (.cells #[.bool vl, .bool vh, .slice va1 vn1 vc1, .slice va2 vn2 vc2, .slice va3 vn3 vc3] 26)) := (Below.refl _ _).alloc (Nat.le_refl _) _
  have V := Lib.hid (Box.new w 26 #[.bool vl, .bool vh, .slice va1 vn1 vc1, .slice va2 vn2 vc2, .slice va3 vn3 vc3])
  have HRV := Lib.hid (hr.after B)
  have HTV := Lib.hid (ht.after B)
  clear ht hr hnb
  go_enter Tryd.func6, Tryd.ntmps6
  go_upto_region 1 with fail
  change Code.wp _ _ _ _ (w.alloc (.cells #[.bool vl, .bool vh, .slice va1 vn1 vc1, .slice va2 vn2 vc2, .slice va3 vn3 vc3] 26))
  generalize (w.alloc (.cells #[.bool vl, .bool vh, .slice va1 vn1 vc1, .slice va2 vn2 vc2, .slice va3 vn3 vc3] 26)) = x0 at *
  go_wp2_with (refine wpList_load_box rfl 26 _ rfl V.out (by rfl) Tryd.underlying26 rfl (by kernel_rfl) ?_)
  refine (great_any s ⟨vl, vh, va1, vn1, vc1, va2, vn2, vc2, va3, vn3, vc3⟩ 0 x0 HRV.out (by omega)).mono ?_
  rintro e x1 ⟨rfl, bx1⟩
  replace V := Lib.hid (V.out.after bx1)
  replace HRV := Lib.hid (HRV.out.after bx1)
  replace HTV := Lib.hid (HTV.out.after bx1)
  replace B := B.trans (bx1.mono B.size)
  clear bx1
  cases hgr : s.great 0 with
  | true =>
    clear hgr
    go_wp2_with fail
    refine (awake_any _ HTV.out).mono ?_
    rintro e x99 ⟨rfl, bx99⟩
    replace B := B.trans (bx99.mono B.size)
    go_wp2_with fail
    go_ret
    exact ⟨rfl, B⟩
  | false =>
    have HW : Hid (s.wide 0 = false) := Lib.hid (by unfold Sx.great at hgr; simp at hgr; exact hgr.1)
    clear hgr
    go_wp2_with (refine wpList_load_box rfl 26 _ rfl V.out (by rfl) Tryd.underlying26 rfl (by kernel_rfl) ?_)
    refine (print_any s ⟨vl, vh, va1, vn1, vc1, va2, vn2, vc2, va3, vn3, vc3⟩ x1 HRV.out 0 (wide_broad _ _ HW.out) HTV.out).mono ?_
    rintro e x2 ⟨t, x, rfl, ht, hx, bx2⟩
    have HTT := Lib.hid ht
    have HX := Lib.hid hx
    clear ht hx
    replace V := Lib.hid (V.out.after bx2)
    replace HRV := Lib.hid (HRV.out.after bx2)
    replace HTV := Lib.hid (HTV.out.after bx2)
    replace B := B.trans (bx2.mono B.size)
    clear bx2
    go_wp2_with (refine wpList_load_box rfl 26 _ rfl V.out (by rfl) Tryd.underlying26 rfl (by kernel_rfl) ?_)
    refine (pack_any s ⟨vl, vh, va1, vn1, vc1, va2, vn2, vc2, va3, vn3, vc3⟩ x2 HRV.out 0 HW.out HTV.out).mono ?_
    rintro e x3 ⟨t2, x2_, rfl, ht, hx, bx3⟩
    have HTT2 := Lib.hid ht
    have HX2 := Lib.hid hx
    clear ht hx
    replace V := Lib.hid (V.out.after bx3)
    replace HRV := Lib.hid (HRV.out.after bx3)
    replace HTV := Lib.hid (HTV.out.after bx3)
    replace B := B.trans (bx3.mono B.size)
    clear bx3
    go_wp2_with (refine wpList_load_box rfl 26 _ rfl V.out (by rfl) Tryd.underlying26 rfl (by kernel_rfl) ?_)
    refine (refMay_any s ⟨vl, vh, va1, vn1, vc1, va2, vn2, vc2, va3, vn3, vc3⟩ x3 HRV.out HNB.out (by have := deep_wide s 0 HW.out; omega) (fun h => by have := form_wide s 0 HW.out; omega)).mono ?_
    rintro e x4 ⟨rfl, bx4⟩
    replace V := Lib.hid (V.out.after bx4)
    replace HRV := Lib.hid (HRV.out.after bx4)
    replace HTV := Lib.hid (HTV.out.after bx4)
    replace B := B.trans (bx4.mono B.size)
    clear bx4
    cases hmay : s.may with
    | false =>
      rw [hmay] at HX HX2 HTT HTT2
      obtain rfl : x = 4 := HX.out
      obtain rfl : x2_ = 4 := HX2.out
      obtain rfl : t = ⟨#[]⟩ := bytes_eq HTT.out
      obtain rfl : t2 = ⟨#[]⟩ := bytes_eq HTT2.out
      clear HX HX2 HTT HTT2 hmay
      go_wp2_with fail
      refine (awake_any _ HTV.out).mono ?_
      rintro e x99 ⟨rfl, bx99⟩
      replace B := B.trans (bx99.mono B.size)
      go_wp2_with fail
      go_ret
      exact ⟨rfl, B⟩
    | true =>
      rw [hmay] at HX HX2 HTT HTT2
      rw [if_pos rfl] at HX HX2 HTT HTT2
      obtain rfl : x = 0 := HX.out
      obtain rfl : x2_ = 0 := HX2.out
      have HMAY := Lib.hid hmay
      have HFL := Lib.hid (may_parts hmay).2.2.2
      obtain ⟨A, hA⟩ : ∃ A, A = s.adv := ⟨_, rfl⟩
      have HA := Lib.hid hA
      obtain ⟨F, hF⟩ : ∃ F, F = b64 s.form := ⟨_, rfl⟩
      have HF := Lib.hid hF
      obtain rfl : t = ⟨A.toArray⟩ := bytes_eq (by rw [HTT.out, hA])
      obtain rfl : t2 = (⟨#[123]⟩ ++ ⟨F.toArray⟩) ++ ⟨#[125]⟩ := by apply ByteArray.ext; apply Array.ext'; rw [HTT2.out, hF]; simp [Sx.pack, ByteArray.data_append]
      have hfl : F.length ≤ 12000 := by rw [hF]; have := b64_len s.form; have := HFL.out; omega
      have hal : A.length ≤ 40000 := by rw [hA]; have := adv_len s; have := HFL.out; omega
      clear HX HX2 hmay hA hF HTT HTT2
      go_wp2_with fail
      refine (readN_any _ x4 HTV.out).mono ?_
      rintro e x5 ⟨u, sa, p_u, x_u, hg, rfl, rd, bx5⟩
      obtain ⟨ul, uh, ua1, un1, uc1, ua2, un2, uc2, ua3, un3, uc3⟩ := u
      have RDu := Lib.hid (rd.mono (ok' := fun _ => True) (fun _ _ => trivial))
      rw [bytes_back] at hg
      have HGU := Lib.hid hg
      clear rd hg
      replace V := Lib.hid (V.out.after bx5)
      replace HRV := Lib.hid (HRV.out.after bx5)
      replace HTV := Lib.hid (HTV.out.after bx5)
      replace B := B.trans (bx5.mono B.size)
      clear bx5
      go_upto_region 8 with (refine wpList_store_box (cells := #[.bool ul, .bool uh, .slice ua1 un1 uc1, .slice ua2 un2 uc2, .slice ua3 un3 uc3]) rfl 26 _ _ rfl (Box.new _ _ _) (by rfl) (by rfl) rfl (by kernel_rfl) (by simp [Value.oneCell']) ?_; intro u9 X9 st9)
      have bs6 : Below x5.heap.size x5 u9 := st9.below x5.heap.size x5 (Nat.le_refl _) ((Below.refl _ _).alloc (Nat.le_refl _) _)
      have Y1 := Lib.hid X9
      replace V := Lib.hid (V.out.after bs6)
      replace HRV := Lib.hid (HRV.out.after bs6)
      replace HTV := Lib.hid (HTV.out.after bs6)
      replace RDu := Lib.hid (RDu.out.after bs6)
      replace B := B.trans (bs6.mono B.size)
      clear bs6 st9 X9
      generalize u9 = x6 at *
      generalize x5.heap.size = y1_ at *
      go_wp2_with fail
      refine (unpackN_any _ x6 HTV.out).mono ?_
      rintro e x7 ⟨r, sb, p_r, x_r, hg, rfl, rd, bx7⟩
      obtain ⟨rl, rh, ra1, rn1, rc1, ra2, rn2, rc2, ra3, rn3, rc3⟩ := r
      have RDr := Lib.hid (rd.mono (ok' := fun _ => True) (fun _ _ => trivial))
      have HGR := Lib.hid hg
      clear rd hg
      obtain ⟨rfl, rfl, rfl⟩ : s = sb ∧ p_r = 0 ∧ x_r = 0 := by
        have hg := HGR.out
        have e0 : ((ByteArray.mk #[123] ++ ByteArray.mk F.toArray) ++ ByteArray.mk #[125]).data.toList = [] ++ s.pack ++ [] := by rw [HF.out]; simp [Sx.pack, ByteArray.data_append]
        rw [e0] at hg
        have hh := GotN.det pk_one hg (pack_read HMAY.out (fun _ h => by cases h) (fun _ h => by cases h) (by rw [Sx.pack, ← HF.out]; simp; omega))
        exact ⟨hh.1.symm, hh.2⟩
      replace V := Lib.hid (V.out.after bx7)
      replace HRV := Lib.hid (HRV.out.after bx7)
      replace HTV := Lib.hid (HTV.out.after bx7)
      replace RDu := Lib.hid (RDu.out.after bx7)
      replace Y1 := Lib.hid (Y1.out.after bx7)
      replace B := B.trans (bx7.mono B.size)
      clear bx7
      go_upto_region 9 with (refine wpList_store_box (cells := #[.bool rl, .bool rh, .slice ra1 rn1 rc1, .slice ra2 rn2 rc2, .slice ra3 rn3 rc3]) rfl 26 _ _ rfl (Box.new _ _ _) (by rfl) (by rfl) rfl (by kernel_rfl) (by simp [Value.oneCell']) ?_; intro u9 X9 st9)
      have bs8 : Below x7.heap.size x7 u9 := st9.below x7.heap.size x7 (Nat.le_refl _) ((Below.refl _ _).alloc (Nat.le_refl _) _)
      have Y2 := Lib.hid X9
      replace V := Lib.hid (V.out.after bs8)
      replace HRV := Lib.hid (HRV.out.after bs8)
      replace HTV := Lib.hid (HTV.out.after bs8)
      replace RDu := Lib.hid (RDu.out.after bs8)
      replace Y1 := Lib.hid (Y1.out.after bs8)
      replace RDr := Lib.hid (RDr.out.after bs8)
      replace B := B.trans (bs8.mono B.size)
      clear bs8 st9 X9
      generalize u9 = x8 at *
      generalize x7.heap.size = y2_ at *
      go_wp2_with (refine wpList_load_box rfl 26 _ rfl V.out (by rfl) Tryd.underlying26 rfl (by kernel_rfl) ?_)
      refine (print_fix s ⟨vl, vh, va1, vn1, vc1, va2, vn2, vc2, va3, vn3, vc3⟩ x8 HRV.out (by have := HFL.out; omega)).mono ?_
      rintro e x12 ⟨rfl, bx12⟩
      rw [← HA.out]
      replace V := Lib.hid (V.out.after bx12)
      replace HRV := Lib.hid (HRV.out.after bx12)
      replace HTV := Lib.hid (HTV.out.after bx12)
      replace RDu := Lib.hid (RDu.out.after bx12)
      replace Y1 := Lib.hid (Y1.out.after bx12)
      replace RDr := Lib.hid (RDr.out.after bx12)
      replace Y2 := Lib.hid (Y2.out.after bx12)
      replace B := B.trans (bx12.mono B.size)
      clear bx12
      go_wp2_with (refine wpList_load_box rfl 26 _ rfl V.out (by rfl) Tryd.underlying26 rfl (by kernel_rfl) ?_)
      refine (form_any s ⟨vl, vh, va1, vn1, vc1, va2, vn2, vc2, va3, vn3, vc3⟩ x12 HRV.out (by have := HFL.out; omega)).mono ?_
      rintro e x13 ⟨vf, rfl, hof, bx13⟩
      obtain ⟨af, nf, cf, rfl, slf, _⟩ := OwnB.parts hof
      have SLF := Lib.hid slf
      clear slf hof
      replace V := Lib.hid (V.out.after bx13)
      replace HRV := Lib.hid (HRV.out.after bx13)
      replace HTV := Lib.hid (HTV.out.after bx13)
      replace RDu := Lib.hid (RDu.out.after bx13)
      replace Y1 := Lib.hid (Y1.out.after bx13)
      replace RDr := Lib.hid (RDr.out.after bx13)
      replace Y2 := Lib.hid (Y2.out.after bx13)
      replace B := B.trans (bx13.mono B.size)
      clear bx13
      go_wp2_with fail
      refine (refB64_any _ _ _ s.form x13 SLF.out (by have := HFL.out; omega)).mono ?_
      rintro e x14 ⟨rfl, bx14⟩
      rw [← HF.out]
      replace V := Lib.hid (V.out.after bx14)
      replace HRV := Lib.hid (HRV.out.after bx14)
      replace HTV := Lib.hid (HTV.out.after bx14)
      replace RDu := Lib.hid (RDu.out.after bx14)
      replace Y1 := Lib.hid (Y1.out.after bx14)
      replace RDr := Lib.hid (RDr.out.after bx14)
      replace Y2 := Lib.hid (Y2.out.after bx14)
      replace SLF := Lib.hid (SLF.out.after bx14)
      replace B := B.trans (bx14.mono B.size)
      clear bx14
      by_cases hlen : 16384 < A.length
      case pos =>
        have hlen' : (16384 : Int) < (A.length : Int) := by omega
        obtain ⟨rfl, rfl, rfl⟩ : sa = Sx.nil ∧ p_u = 16384 ∧ x_u = 4 := GotN.det nt_one HGU.out (.inl ⟨hlen, rfl, rfl, rfl⟩)
        go_wp2_with fail
        refine (awake_any _ HTV.out).mono ?_
        rintro e x99 ⟨rfl, bx99⟩
        replace B := B.trans (bx99.mono B.size)
        go_wp2_with fail
        go_ret
        exact ⟨rfl, B⟩
      have hlen' : ¬ (16384 : Int) < (A.length : Int) := by omega
      obtain ⟨rfl, rfl, rfl⟩ : s = sa ∧ p_u = 0 ∧ x_u = 0 := by
        have hh := GotN.det nt_one HGU.out (by have := adv_read HMAY.out (a := []) (b := []) (fun _ h => by cases h) (fun _ h => by cases h) (by simp; rw [← HA.out]; omega); simp at this; rw [← HA.out] at this; exact this)
        exact ⟨hh.1.symm, hh.2⟩
      go_upto_region 13 with fail
      go_step
      refine wpList_made 27 x14.heap.size x14 (Below.refl _ _) ?_
      simp only [List.take_succ_cons, List.take_zero, List.drop_succ_cons, List.drop_zero]
      refine wpQ_load_box rfl 26 _ rfl Y1.out (by rfl) Y1.out.lt Tryd.underlying26 rfl (by kernel_rfl) ?_
      simp only [Act.put, List.setIfInBounds_toArray, List.set_cons_zero, List.set_cons_succ]
      refine wpQ_load_box rfl 26 _ rfl V.out (by rfl) V.out.lt Tryd.underlying26 rfl (by kernel_rfl) ?_
      simp only [Act.put, List.setIfInBounds_toArray, List.set_cons_zero, List.set_cons_succ]
      refine wpQ_callS rfl 11 #[.agg #[.bool ul, .bool uh, .slice ua1 un1 uc1, .slice ua2 un2 uc2, .slice ua3 un3 uc3], .agg #[.bool vl, .bool vh, .slice va1 vn1 vc1, .slice va2 vn2 vc2, .slice va3 vn3 vc3]] (fun w' => by simp [go_sem]) (.bool true) (Nat.le_refl _) (fun w' hw => by have := refSame_any _ _ ⟨ul, uh, ua1, un1, uc1, ua2, un2, uc2, ua3, un3, uc3⟩ ⟨vl, vh, va1, vn1, vc1, va2, vn2, vc2, va3, vn3, vc3⟩ w' (RDu.out.after hw) (HRV.out.after hw); rw [Sx.same_refl] at this; exact this) ?_
      simp only [Act.put, List.setIfInBounds_toArray, List.set_cons_zero, List.set_cons_succ]
      refine wpQ_run rfl (.bool true) (fun w' hw => by simp [go_sem]) ?_
      simp only [Act.put, List.setIfInBounds_toArray, List.set_cons_zero, List.set_cons_succ]
      refine wpQ_run rfl (.int .i64 0) (fun w' hw => by simp [go_sem]) ?_
      simp only [Act.put, List.setIfInBounds_toArray, List.set_cons_zero, List.set_cons_succ]
      refine wpQ_run rfl (.bool true) (fun w' hw => by simp [go_sem]) ?_
      simp only [Act.put, List.setIfInBounds_toArray, List.set_cons_zero, List.set_cons_succ]
      refine wpQ_run rfl (.bool true) (fun w' hw => by simp [go_sem]) ?_
      simp only [Act.put, List.setIfInBounds_toArray, List.set_cons_zero, List.set_cons_succ]
      refine wpQ_run rfl (.bool true) (fun w' hw => by simp [go_sem]) ?_
      simp only [Act.put, List.setIfInBounds_toArray, List.set_cons_zero, List.set_cons_succ]
      refine wpQ_run rfl (.int .i64 0) (fun w' hw => by simp [go_sem]) ?_
      simp only [Act.put, List.setIfInBounds_toArray, List.set_cons_zero, List.set_cons_succ]
      refine wpQ_run rfl (.bool true) (fun w' hw => by simp [go_sem]) ?_
      simp only [Act.put, List.setIfInBounds_toArray, List.set_cons_zero, List.set_cons_succ]
      refine wpQ_run rfl (.bool true) (fun w' hw => by simp [go_sem]) ?_
      simp only [Act.put, List.setIfInBounds_toArray, List.set_cons_zero, List.set_cons_succ]
      refine wpQ_run rfl (.bool true) (fun w' hw => by simp [go_sem]) ?_
      simp only [Act.put, List.setIfInBounds_toArray, List.set_cons_zero, List.set_cons_succ]
      refine wpQ_load_box rfl 26 _ rfl Y2.out (by rfl) Y2.out.lt Tryd.underlying26 rfl (by kernel_rfl) ?_
      simp only [Act.put, List.setIfInBounds_toArray, List.set_cons_zero, List.set_cons_succ]
      refine wpQ_load_box rfl 26 _ rfl V.out (by rfl) V.out.lt Tryd.underlying26 rfl (by kernel_rfl) ?_
      simp only [Act.put, List.setIfInBounds_toArray, List.set_cons_zero, List.set_cons_succ]
      refine wpQ_callS rfl 11 #[.agg #[.bool rl, .bool rh, .slice ra1 rn1 rc1, .slice ra2 rn2 rc2, .slice ra3 rn3 rc3], .agg #[.bool vl, .bool vh, .slice va1 vn1 vc1, .slice va2 vn2 vc2, .slice va3 vn3 vc3]] (fun w' => by simp [go_sem]) (.bool true) (Nat.le_refl _) (fun w' hw => by have := refSame_any _ _ ⟨rl, rh, ra1, rn1, rc1, ra2, rn2, rc2, ra3, rn3, rc3⟩ ⟨vl, vh, va1, vn1, vc1, va2, vn2, vc2, va3, vn3, vc3⟩ w' (RDr.out.after hw) (HRV.out.after hw); rw [Sx.same_refl] at this; exact this) ?_
      simp only [Act.put, List.setIfInBounds_toArray, List.set_cons_zero, List.set_cons_succ]
      refine wpQ_run rfl (.bool true) (fun w' hw => by simp [go_sem]) ?_
      simp only [Act.put, List.setIfInBounds_toArray, List.set_cons_zero, List.set_cons_succ]
      refine wpQ_run rfl (.bool true) (fun w' hw => by simp [go_sem]) ?_
      simp only [Act.put, List.setIfInBounds_toArray, List.set_cons_zero, List.set_cons_succ]
      refine wpQ_run rfl (.int .i64 0) (fun w' hw => by simp [go_sem]) ?_
      simp only [Act.put, List.setIfInBounds_toArray, List.set_cons_zero, List.set_cons_succ]
      refine wpQ_run rfl (.bool true) (fun w' hw => by simp [go_sem]) ?_
      simp only [Act.put, List.setIfInBounds_toArray, List.set_cons_zero, List.set_cons_succ]
      refine wpQ_run rfl (.bool true) (fun w' hw => by simp [go_sem]) ?_
      simp only [Act.put, List.setIfInBounds_toArray, List.set_cons_zero, List.set_cons_succ]
      refine wpQ_run rfl (.bool true) (fun w' hw => by simp [go_sem]) ?_
      simp only [Act.put, List.setIfInBounds_toArray, List.set_cons_zero, List.set_cons_succ]
      refine wpQ_run rfl (.int .i64 0) (fun w' hw => by simp [go_sem]) ?_
      simp only [Act.put, List.setIfInBounds_toArray, List.set_cons_zero, List.set_cons_succ]
      refine wpQ_run rfl (.bool true) (fun w' hw => by simp [go_sem]) ?_
      simp only [Act.put, List.setIfInBounds_toArray, List.set_cons_zero, List.set_cons_succ]
      refine wpQ_run rfl (.bool true) (fun w' hw => by simp [go_sem]) ?_
      simp only [Act.put, List.setIfInBounds_toArray, List.set_cons_zero, List.set_cons_succ]
      refine wpQ_run rfl (.bool true) (fun w' hw => by simp [go_sem]) ?_
      simp only [Act.put, List.setIfInBounds_toArray, List.set_cons_zero, List.set_cons_succ]
      refine wpQ_callS rfl 8 #[] (fun w' => by simp [go_sem]) (.bool true) (Nat.le_refl _) (fun w' hw => awake_any w' (HTV.out.after hw)) ?_
      simp only [Act.put, List.setIfInBounds_toArray, List.set_cons_zero, List.set_cons_succ]
      refine wpQ_run rfl (.bool true) (fun w' hw => by simp [go_sem]) ?_
      simp only [Act.put, List.setIfInBounds_toArray, List.set_cons_zero, List.set_cons_succ]
      intro y60 hb60
      replace V := Lib.hid (V.out.after hb60)
      replace HRV := Lib.hid (HRV.out.after hb60)
      replace HTV := Lib.hid (HTV.out.after hb60)
      replace RDu := Lib.hid (RDu.out.after hb60)
      replace Y1 := Lib.hid (Y1.out.after hb60)
      replace RDr := Lib.hid (RDr.out.after hb60)
      replace Y2 := Lib.hid (Y2.out.after hb60)
      replace SLF := Lib.hid (SLF.out.after hb60)
      replace B := B.trans (hb60.mono B.size)
      clear hb60
      go_wp2_with fail
      go_ret
      exact ⟨rfl, B⟩

end Go.Proofs.YtkbblhioncecmaaDoor

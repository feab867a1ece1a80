/- The walks of SubjectOne and SubjectKeys. -/
import Derived.Test.YthmigigclmogiaaDoorSjE
import Derived.Test.YthmigigclmogiaaDoorSj5
import Derived.Test.YthmigigclmogiaaDoorSj7
namespace Go.Proofs.YthmigigclmogiaaDoor
open Go.RowKit
set_option linter.unusedSimpArgs false
set_option linter.unusedVariables false

theorem PutJ.out {s : Sj} {w w' : World} {e : Ending} (h : PutJ s w e w') : ∃ (v : SV) (r : Int) (x : Sx), e = .returned (.tuple #[.agg #[.bool v.l, .bool v.h, .slice v.a1 v.n1 v.c1, .slice v.a2 v.n2 v.c2, .slice v.a3 v.n3 v.c3], .int .i64 r]) ∧ RdI (fun b => w.heap.size ≤ b) w' v x ∧ ((s.may = true ∧ r = 0 ∧ x = s.value) ∨ (s.may = false ∧ r = 7)) ∧ Below w.heap.size w w' := by
  rcases h with ⟨h1, v, h2, h3, h4⟩ | ⟨h1, h2, h4⟩
  · exact ⟨v, 0, s.value, h2, h3, .inl ⟨h1, rfl, rfl⟩, h4⟩
  · exact ⟨⟨false, false, none, 0, 0, none, 0, 0, none, 0, 0⟩, 7, _, h2, rd_atomI (Sl.nil _) (.inl rfl), .inr ⟨h1, rfl⟩, h4⟩
theorem one_same {s t : Sj} (h1 : s.may = true) (h2 : t.may = true) : s.value.same t.value = s.same t := by
  unfold Sj.may at h1 h2
  have r1 := (Bool.and_eq_true_iff.1 h1).1
  have r2 := (Bool.and_eq_true_iff.1 h2).1
  cases h : s.same t with
  | true =>
    obtain rfl := (s.same_iff t).1 h
    exact Sx.same_refl _
  | false =>
    cases h3 : s.value.same t.value with
    | false => rfl
    | true =>
      have h4 := (s.same_iff t).2 (value_inj s t 1 1 r1 r2 ((Sx.same_iff _ _).1 h3))
      rw [h] at h4
      cases h4
theorem keySame_refl (s : Bool) (l : List UInt8) : keySame s l s l = true := by simp [keySame]
/-- the row of principals in memory -/
theorem ownE_row {w : World} {B n : Nat} {v : Value} {E : List (Bool × S3)} (h : OwnG w B 2 v n (cellsE E)) : ∃ a c, v = .slice a n c ∧ n ≤ c ∧ c ≤ maxLen ∧
    ∀ i, i < n → ∃ b o, a = some ⟨b, o, none⟩ ∧ b < w.heap.size ∧ w.rangeAt b (o + i * 2) [.bool (E[i]?.getD default).1, .slice (E[i]?.getD default).2.a (E[i]?.getD default).2.n (E[i]?.getD default).2.c] := by
  have hl := cellsE_len E
  rcases h.2 with ⟨rfl, rfl⟩ | ⟨g, o, cap, rfl, h3, h4, h5, h6, h7, h8⟩
  · exact ⟨none, 0, rfl, Nat.le_refl _, Nat.zero_le _, fun i hi => by omega⟩
  · refine ⟨_, cap, rfl, h5, h6, fun i hi => ⟨g, o, rfl, h4, fun j v hv => ?_⟩⟩
    have h1 := h.1
    have hi2 : i < E.length := by omega
    have hc := cellsE_at E i hi2
    rw [List.getElem?_eq_getElem hi2] at hv
    simp only [Option.getD_some] at hv
    match j, hv with
    | 0, hv => cases hv; rw [Nat.add_zero]; exact h8 (i * 2) _ hc.1
    | 1, hv => cases hv; rw [Nat.add_assoc]; exact h8 (i * 2 + 1) _ hc.2
theorem rngB_after {w w' : World} {b o : Nat} {cs : List Value} (hb : b < w.heap.size) (h : w.rangeAt b o cs) (B : Below w.heap.size w w') : w'.rangeAt b o cs :=
  fun j v hv => (World.cell?_of_block (a := ⟨b, o + j, none⟩) (B.block b hb)).trans (h j v hv)
theorem rngE_after {w w' : World} {a : Option Addr} {i : Nat} {cs : List Value} (h : ∃ b o, a = some ⟨b, o, none⟩ ∧ b < w.heap.size ∧ w.rangeAt b (o + i * 2) cs) (B : Below w.heap.size w w') : ∃ b o, a = some ⟨b, o, none⟩ ∧ b < w'.heap.size ∧ w'.rangeAt b (o + i * 2) cs := by
  obtain ⟨b, o, rfl, h1, h2⟩ := h
  exact ⟨b, o, rfl, Nat.lt_of_lt_of_le h1 B.size, rngB_after h1 h2 B⟩
set_option maxHeartbeats 16000000 in
set_option maxRecDepth 100000 in
theorem SubjectOne_walk (u0 : JV) (s0 : Sj) (u1 : JV) (s1 : Sj) (w : World) (htab : Tab w) (h0 : RdJ (fun _ => True) w u0 s0) (h1 : RdJ (fun _ => True) w u1 s1) :
    Calls Tryd.prog 3 #[u0.val, u1.val] w fun e w' => e = .returned (.bool true) ∧ Below w.heap.size w w' := by
  have HR0 := Lib.hid h0
  have HR1 := Lib.hid h1
  have HT := Lib.hid htab
  clear h0 h1 htab
  obtain ⟨vkd, vs, va1, vn1, vc1, va2, vn2, vc2, vk, va3, vn3, vc3⟩ := u0
  obtain ⟨ukd, us, ua1, un1, uc1, ua2, un2, uc2, uk, ua3, un3, uc3⟩ := u1
  have B : Below w.heap.size w ((w.alloc (.cells #[.int .u8 vkd, .bool vs, .slice va1 vn1 vc1, .slice va2 vn2 vc2, .int .i64 vk, .slice va3 vn3 vc3] 28)).alloc (.cells #[.int .u8 ukd, .bool us, .slice ua1 un1 uc1, .slice ua2 un2 uc2, .int .i64 uk, .slice ua3 un3 uc3] 28)) := ((Below.refl _ _).alloc (Nat.le_refl _) _).alloc (by simp) _
  have X : Hid (Box ((w.alloc (.cells #[.int .u8 vkd, .bool vs, .slice va1 vn1 vc1, .slice va2 vn2 vc2, .int .i64 vk, .slice va3 vn3 vc3] 28)).alloc (.cells #[.int .u8 ukd, .bool us, .slice ua1 un1 uc1, .slice ua2 un2 uc2, .int .i64 uk, .slice ua3 un3 uc3] 28)) w.heap.size 28 #[.int .u8 vkd, .bool vs, .slice va1 vn1 vc1, .slice va2 vn2 vc2, .int .i64 vk, .slice va3 vn3 vc3]) := Lib.hid ((Box.new _ _ _).alloc _)
  have Y : Hid (Box ((w.alloc (.cells #[.int .u8 vkd, .bool vs, .slice va1 vn1 vc1, .slice va2 vn2 vc2, .int .i64 vk, .slice va3 vn3 vc3] 28)).alloc (.cells #[.int .u8 ukd, .bool us, .slice ua1 un1 uc1, .slice ua2 un2 uc2, .int .i64 uk, .slice ua3 un3 uc3] 28)) (w.heap.size + 1) 28 #[.int .u8 ukd, .bool us, .slice ua1 un1 uc1, .slice ua2 un2 uc2, .int .i64 uk, .slice ua3 un3 uc3]) := Lib.hid (by
    have := Box.new (w.alloc (.cells #[.int .u8 vkd, .bool vs, .slice va1 vn1 vc1, .slice va2 vn2 vc2, .int .i64 vk, .slice va3 vn3 vc3] 28)) 28 #[.int .u8 ukd, .bool us, .slice ua1 un1 uc1, .slice ua2 un2 uc2, .int .i64 uk, .slice ua3 un3 uc3]
    simpa using this)
  obtain ⟨g0, hg0⟩ : ∃ b, b = s0.great 0 := ⟨_, rfl⟩
  obtain ⟨g1, hg1⟩ : ∃ b, b = s1.great 0 := ⟨_, rfl⟩
  have G0 := Lib.hid hg0
  have G1 := Lib.hid hg1
  have C0 := Lib.hid (fun w' h => greatJ_any s0 ⟨vkd, vs, va1, vn1, vc1, va2, vn2, vc2, vk, va3, vn3, vc3⟩ 0 w' h (by omega))
  have C1 := Lib.hid (fun w' h => greatJ_any s1 ⟨ukd, us, ua1, un1, uc1, ua2, un2, uc2, uk, ua3, un3, uc3⟩ 0 w' h (by omega))
  rw [← hg0] at C0
  rw [← hg1] at C1
  clear hg0 hg1
  show Calls _ _ #[.agg #[.int .u8 vkd, .bool vs, .slice va1 vn1 vc1, .slice va2 vn2 vc2, .int .i64 vk, .slice va3 vn3 vc3], .agg #[.int .u8 ukd, .bool us, .slice ua1 un1 uc1, .slice ua2 un2 uc2, .int .i64 uk, .slice ua3 un3 uc3]] _ _
  go_enter Tryd.func3, Tryd.ntmps3
  go_upto_region 1 with fail
  change Code.wp _ _ _ _ ((w.alloc (.cells #[.int .u8 vkd, .bool vs, .slice va1 vn1 vc1, .slice va2 vn2 vc2, .int .i64 vk, .slice va3 vn3 vc3] 28)).alloc (.cells #[.int .u8 ukd, .bool us, .slice ua1 un1 uc1, .slice ua2 un2 uc2, .int .i64 uk, .slice ua3 un3 uc3] 28))
  generalize ((w.alloc (.cells #[.int .u8 vkd, .bool vs, .slice va1 vn1 vc1, .slice va2 vn2 vc2, .int .i64 vk, .slice va3 vn3 vc3] 28)).alloc (.cells #[.int .u8 ukd, .bool us, .slice ua1 un1 uc1, .slice ua2 un2 uc2, .int .i64 uk, .slice ua3 un3 uc3] 28)) = x0 at *
  go_wp2_with (refine wpList_load_box rfl 28 _ rfl X.out (by rfl) Tryd.underlying28 rfl (by kernel_rfl) ?_)
  refine (C0.out _ (HR0.out.after B)).mono ?_
  rintro e x1 ⟨rfl, bx1⟩
  replace X := Lib.hid (X.out.after bx1)
  replace Y := Lib.hid (Y.out.after bx1)
  replace B := B.trans (bx1.mono B.size)
  clear bx1
  clear C0
  cases g0 with
  | true =>
    clear C1
    go_wp2_with fail
    refine (awakeJ_any x1 (HT.out.after B)).mono ?_
    rintro e x2 ⟨rfl, bx2⟩
    replace X := Lib.hid (X.out.after bx2)
    replace Y := Lib.hid (Y.out.after bx2)
    replace B := B.trans (bx2.mono B.size)
    clear bx2
    go_wp2_with fail
    go_ret
    exact ⟨rfl, B⟩
  | false =>
    go_wp2_with (refine wpList_load_box rfl 28 _ rfl Y.out (by rfl) Tryd.underlying28 rfl (by kernel_rfl) ?_)
    refine (C1.out _ (HR1.out.after B)).mono ?_
    rintro e x2 ⟨rfl, bx2⟩
    replace X := Lib.hid (X.out.after bx2)
    replace Y := Lib.hid (Y.out.after bx2)
    replace B := B.trans (bx2.mono B.size)
    clear bx2
    clear C1
    cases g1 with
    | true =>
      go_wp2_with fail
      refine (awakeJ_any x2 (HT.out.after B)).mono ?_
      rintro e x3 ⟨rfl, bx3⟩
      replace X := Lib.hid (X.out.after bx3)
      replace Y := Lib.hid (Y.out.after bx3)
      replace B := B.trans (bx3.mono B.size)
      clear bx3
      go_wp2_with fail
      go_ret
      exact ⟨rfl, B⟩
    | false =>
      go_wp2_with (refine wpList_load_box rfl 28 _ rfl X.out (by rfl) Tryd.underlying28 rfl (by kernel_rfl) ?_)
      refine (putJ_any s0 ⟨vkd, vs, va1, vn1, vc1, va2, vn2, vc2, vk, va3, vn3, vc3⟩ 0 x2 (HR0.out.after B) G0.out.symm (HT.out.after B)).mono ?_
      rintro e y4 hP
      obtain ⟨⟨pl, ph, pa1, pn1, pc1, pa2, pn2, pc2, pa3, pn3, pc3⟩, r4, x4, rfl, rd4, hc4, by4⟩ := hP.out
      clear hP
      have RD4 := Lib.hid rd4
      have HC4 := Lib.hid hc4
      clear rd4 hc4
      replace X := Lib.hid (X.out.after by4)
      replace Y := Lib.hid (Y.out.after by4)
      replace B := B.trans (by4.mono B.size)
      clear by4
      go_upto_region 4 with (refine wpList_store_box (cells := #[.bool pl, .bool ph, .slice pa1 pn1 pc1, .slice pa2 pn2 pc2, .slice pa3 pn3 pc3]) rfl 33 _ _ rfl (Box.new _ _ _) (by rfl) (by rfl) rfl (by kernel_rfl) (by simp [Value.oneCell']) ?_; intro u9 X9 st9)
      have bs3 : Below y4.heap.size y4 u9 := st9.below y4.heap.size y4 (Nat.le_refl _) ((Below.refl _ _).alloc (Nat.le_refl _) _)
      have P4 := Lib.hid X9
      replace X := Lib.hid (X.out.after bs3)
      replace Y := Lib.hid (Y.out.after bs3)
      replace RD4 := Lib.hid (RD4.out.after bs3)
      replace B := B.trans (bs3.mono B.size)
      clear bs3 st9 X9
      generalize u9 = x3 at *
      go_wp2_with (refine wpList_load_box rfl 28 _ rfl Y.out (by rfl) Tryd.underlying28 rfl (by kernel_rfl) ?_)
      refine (putJ_any s1 ⟨ukd, us, ua1, un1, uc1, ua2, un2, uc2, uk, ua3, un3, uc3⟩ 0 x3 (HR1.out.after B) G1.out.symm (HT.out.after B)).mono ?_
      rintro e y5 hP
      obtain ⟨⟨ql, qh, qa1, qn1, qc1, qa2, qn2, qc2, qa3, qn3, qc3⟩, r5, x5, rfl, rd5, hc5, by5⟩ := hP.out
      clear hP
      have RD5 := Lib.hid rd5
      have HC5 := Lib.hid hc5
      clear rd5 hc5
      replace X := Lib.hid (X.out.after by5)
      replace Y := Lib.hid (Y.out.after by5)
      replace RD4 := Lib.hid (RD4.out.after by5)
      replace P4 := Lib.hid (P4.out.after by5)
      replace B := B.trans (by5.mono B.size)
      clear by5
      go_upto_region 5 with (refine wpList_store_box (cells := #[.bool ql, .bool qh, .slice qa1 qn1 qc1, .slice qa2 qn2 qc2, .slice qa3 qn3 qc3]) rfl 33 _ _ rfl (Box.new _ _ _) (by rfl) (by rfl) rfl (by kernel_rfl) (by simp [Value.oneCell']) ?_; intro u9 X9 st9)
      have bs4 : Below y5.heap.size y5 u9 := st9.below y5.heap.size y5 (Nat.le_refl _) ((Below.refl _ _).alloc (Nat.le_refl _) _)
      have P5 := Lib.hid X9
      replace X := Lib.hid (X.out.after bs4)
      replace Y := Lib.hid (Y.out.after bs4)
      replace RD4 := Lib.hid (RD4.out.after bs4)
      replace P4 := Lib.hid (P4.out.after bs4)
      replace RD5 := Lib.hid (RD5.out.after bs4)
      replace B := B.trans (bs4.mono B.size)
      clear bs4 st9 X9
      generalize u9 = x4 at *
      rcases HC4.out with ⟨hm4, hr4, hx4⟩ | ⟨_, hr4⟩
      case inr =>
        subst hr4
        clear HC4 HC5
        go_wp2_with fail
        refine (awakeJ_any x4 (HT.out.after B)).mono ?_
        rintro e x5 ⟨rfl, bx5⟩
        replace X := Lib.hid (X.out.after bx5)
        replace Y := Lib.hid (Y.out.after bx5)
        replace RD4 := Lib.hid (RD4.out.after bx5)
        replace P4 := Lib.hid (P4.out.after bx5)
        replace RD5 := Lib.hid (RD5.out.after bx5)
        replace P5 := Lib.hid (P5.out.after bx5)
        replace B := B.trans (bx5.mono B.size)
        clear bx5
        go_wp2_with fail
        go_ret
        exact ⟨rfl, B⟩
      rcases HC5.out with ⟨hm5, hr5, hx5⟩ | ⟨_, hr5⟩
      case inr =>
        subst hr4 hr5
        clear HC4 HC5 hm4 hx4
        go_wp2_with fail
        refine (awakeJ_any x4 (HT.out.after B)).mono ?_
        rintro e x5 ⟨rfl, bx5⟩
        replace X := Lib.hid (X.out.after bx5)
        replace Y := Lib.hid (Y.out.after bx5)
        replace RD4 := Lib.hid (RD4.out.after bx5)
        replace P4 := Lib.hid (P4.out.after bx5)
        replace RD5 := Lib.hid (RD5.out.after bx5)
        replace P5 := Lib.hid (P5.out.after bx5)
        replace B := B.trans (bx5.mono B.size)
        clear bx5
        go_wp2_with fail
        go_ret
        exact ⟨rfl, B⟩
      subst hr4 hr5 hx4 hx5
      obtain ⟨q, hq⟩ : ∃ q, q = s0.same s1 := ⟨_, rfl⟩
      have hqv := one_same hm4 hm5
      have CS := Lib.hid (fun w' (h : Below x4.heap.size x4 w') => refSame_any s0.value s1.value ⟨pl, ph, pa1, pn1, pc1, pa2, pn2, pc2, pa3, pn3, pc3⟩ ⟨ql, qh, qa1, qn1, qc1, qa2, qn2, qc2, qa3, qn3, qc3⟩ w' ((RD4.out.mono (fun _ _ => trivial)).after h) ((RD5.out.mono (fun _ _ => trivial)).after h))
      have CJ := Lib.hid (fun w' (h : Below x4.heap.size x4 w') => sameJ_any s0 s1 ⟨vkd, vs, va1, vn1, vc1, va2, vn2, vc2, vk, va3, vn3, vc3⟩ ⟨ukd, us, ua1, un1, uc1, ua2, un2, uc2, uk, ua3, un3, uc3⟩ w' ((HR0.out.after B).after h) ((HR1.out.after B).after h))
      have CA := Lib.hid (fun w' (h : Below x4.heap.size x4 w') => awakeJ_any w' ((HT.out.after B).after h))
      rw [hqv, ← hq] at CS
      rw [← hq] at CJ
      clear hqv hq HC4 HC5 hm4 hm5
      go_upto_region 7 with fail
      refine wp_region_made x4.heap.size x4 rfl (by kernel_rfl) (Below.refl _ _) ?_
      refine wpQ_load_box rfl 33 _ rfl P4.out (by rfl) P4.out.lt Tryd.underlying33 rfl (by kernel_rfl) ?_
      simp only [Act.put, List.setIfInBounds_toArray, List.set_cons_zero, List.set_cons_succ]
      refine wpQ_load_box rfl 33 _ rfl P5.out (by rfl) P5.out.lt Tryd.underlying33 rfl (by kernel_rfl) ?_
      simp only [Act.put, List.setIfInBounds_toArray, List.set_cons_zero, List.set_cons_succ]
      refine wpQ_callS rfl 8 #[.agg #[.bool pl, .bool ph, .slice pa1 pn1 pc1, .slice pa2 pn2 pc2, .slice pa3 pn3 pc3], .agg #[.bool ql, .bool qh, .slice qa1 qn1 qc1, .slice qa2 qn2 qc2, .slice qa3 qn3 qc3]] (fun w' => by simp [go_sem]) (.bool q) (Nat.le_refl _) (fun w' hw => CS.out w' hw) ?_
      simp only [Act.put, List.setIfInBounds_toArray, List.set_cons_zero, List.set_cons_succ]
      refine wpQ_load_box rfl 28 _ rfl X.out (by rfl) X.out.lt Tryd.underlying28 rfl (by kernel_rfl) ?_
      simp only [Act.put, List.setIfInBounds_toArray, List.set_cons_zero, List.set_cons_succ]
      refine wpQ_load_box rfl 28 _ rfl Y.out (by rfl) Y.out.lt Tryd.underlying28 rfl (by kernel_rfl) ?_
      simp only [Act.put, List.setIfInBounds_toArray, List.set_cons_zero, List.set_cons_succ]
      refine wpQ_callS rfl 9 #[.agg #[.int .u8 vkd, .bool vs, .slice va1 vn1 vc1, .slice va2 vn2 vc2, .int .i64 vk, .slice va3 vn3 vc3], .agg #[.int .u8 ukd, .bool us, .slice ua1 un1 uc1, .slice ua2 un2 uc2, .int .i64 uk, .slice ua3 un3 uc3]] (fun w' => by simp [go_sem]) (.bool q) (Nat.le_refl _) (fun w' hw => CJ.out w' hw) ?_
      simp only [Act.put, List.setIfInBounds_toArray, List.set_cons_zero, List.set_cons_succ]
      refine wpQ_run rfl (.bool true) (fun w' hw => by simp [go_sem]) ?_
      simp only [Act.put, List.setIfInBounds_toArray, List.set_cons_zero, List.set_cons_succ]
      refine wpQ_run rfl (.bool true) (fun w' hw => by simp [go_sem]) ?_
      simp only [Act.put, List.setIfInBounds_toArray, List.set_cons_zero, List.set_cons_succ]
      refine wpQ_callS rfl 6 #[] (fun w' => by simp [go_sem]) (.bool true) (Nat.le_refl _) (fun w' hw => CA.out w' hw) ?_
      simp only [Act.put, List.setIfInBounds_toArray, List.set_cons_zero, List.set_cons_succ]
      refine wpQ_run rfl (.bool true) (fun w' hw => by simp [go_sem]) ?_
      simp only [Act.put, List.setIfInBounds_toArray, List.set_cons_zero, List.set_cons_succ]
      refine wpQ_run rfl (.bool true) (fun w' hw => by simp [go_sem]) ?_
      simp only [Act.put, List.setIfInBounds_toArray, List.set_cons_zero, List.set_cons_succ]
      intro y8 hb8
      have B8 := B.trans (hb8.mono B.size)
      go_wp2_with fail
      go_ret
      exact ⟨rfl, B8⟩

set_option maxHeartbeats 16000000 in
set_option maxRecDepth 100000 in
theorem SubjectKeys_walk (u0 : JV) (s0 : Sj) (u1 : JV) (s1 : Sj) (w : World) (htab : Tab w) (h0 : RdJ (fun _ => True) w u0 s0) (h1 : RdJ (fun _ => True) w u1 s1) :
    Calls Tryd.prog 4 #[u0.val, u1.val] w fun e w' => e = .returned (.bool true) ∧ Below w.heap.size w w' := by
  have HR0 := Lib.hid h0
  have HR1 := Lib.hid h1
  have HT := Lib.hid htab
  clear h0 h1 htab
  obtain ⟨vkd, vs, va1, vn1, vc1, va2, vn2, vc2, vk, va3, vn3, vc3⟩ := u0
  obtain ⟨ukd, us, ua1, un1, uc1, ua2, un2, uc2, uk, ua3, un3, uc3⟩ := u1
  have B : Below w.heap.size w ((w.alloc (.cells #[.int .u8 vkd, .bool vs, .slice va1 vn1 vc1, .slice va2 vn2 vc2, .int .i64 vk, .slice va3 vn3 vc3] 28)).alloc (.cells #[.int .u8 ukd, .bool us, .slice ua1 un1 uc1, .slice ua2 un2 uc2, .int .i64 uk, .slice ua3 un3 uc3] 28)) := ((Below.refl _ _).alloc (Nat.le_refl _) _).alloc (by simp) _
  have X : Hid (Box ((w.alloc (.cells #[.int .u8 vkd, .bool vs, .slice va1 vn1 vc1, .slice va2 vn2 vc2, .int .i64 vk, .slice va3 vn3 vc3] 28)).alloc (.cells #[.int .u8 ukd, .bool us, .slice ua1 un1 uc1, .slice ua2 un2 uc2, .int .i64 uk, .slice ua3 un3 uc3] 28)) w.heap.size 28 #[.int .u8 vkd, .bool vs, .slice va1 vn1 vc1, .slice va2 vn2 vc2, .int .i64 vk, .slice va3 vn3 vc3]) := Lib.hid ((Box.new _ _ _).alloc _)
  have Y : Hid (Box ((w.alloc (.cells #[.int .u8 vkd, .bool vs, .slice va1 vn1 vc1, .slice va2 vn2 vc2, .int .i64 vk, .slice va3 vn3 vc3] 28)).alloc (.cells #[.int .u8 ukd, .bool us, .slice ua1 un1 uc1, .slice ua2 un2 uc2, .int .i64 uk, .slice ua3 un3 uc3] 28)) (w.heap.size + 1) 28 #[.int .u8 ukd, .bool us, .slice ua1 un1 uc1, .slice ua2 un2 uc2, .int .i64 uk, .slice ua3 un3 uc3]) := Lib.hid (by
    have := Box.new (w.alloc (.cells #[.int .u8 vkd, .bool vs, .slice va1 vn1 vc1, .slice va2 vn2 vc2, .int .i64 vk, .slice va3 vn3 vc3] 28)) 28 #[.int .u8 ukd, .bool us, .slice ua1 un1 uc1, .slice ua2 un2 uc2, .int .i64 uk, .slice ua3 un3 uc3]
    simpa using this)
  obtain ⟨g0, hg0⟩ : ∃ b, b = s0.great 0 := ⟨_, rfl⟩
  obtain ⟨g1, hg1⟩ : ∃ b, b = s1.great 0 := ⟨_, rfl⟩
  have G0 := Lib.hid hg0
  have G1 := Lib.hid hg1
  have C0 := Lib.hid (fun w' h => greatJ_any s0 ⟨vkd, vs, va1, vn1, vc1, va2, vn2, vc2, vk, va3, vn3, vc3⟩ 0 w' h (by omega))
  have C1 := Lib.hid (fun w' h => greatJ_any s1 ⟨ukd, us, ua1, un1, uc1, ua2, un2, uc2, uk, ua3, un3, uc3⟩ 0 w' h (by omega))
  rw [← hg0] at C0
  rw [← hg1] at C1
  clear hg0 hg1
  show Calls _ _ #[.agg #[.int .u8 vkd, .bool vs, .slice va1 vn1 vc1, .slice va2 vn2 vc2, .int .i64 vk, .slice va3 vn3 vc3], .agg #[.int .u8 ukd, .bool us, .slice ua1 un1 uc1, .slice ua2 un2 uc2, .int .i64 uk, .slice ua3 un3 uc3]] _ _
  go_enter Tryd.func4, Tryd.ntmps4
  go_upto_region 1 with fail
  change Code.wp _ _ _ _ ((w.alloc (.cells #[.int .u8 vkd, .bool vs, .slice va1 vn1 vc1, .slice va2 vn2 vc2, .int .i64 vk, .slice va3 vn3 vc3] 28)).alloc (.cells #[.int .u8 ukd, .bool us, .slice ua1 un1 uc1, .slice ua2 un2 uc2, .int .i64 uk, .slice ua3 un3 uc3] 28))
  generalize ((w.alloc (.cells #[.int .u8 vkd, .bool vs, .slice va1 vn1 vc1, .slice va2 vn2 vc2, .int .i64 vk, .slice va3 vn3 vc3] 28)).alloc (.cells #[.int .u8 ukd, .bool us, .slice ua1 un1 uc1, .slice ua2 un2 uc2, .int .i64 uk, .slice ua3 un3 uc3] 28)) = x0 at *
  go_wp2_with (refine wpList_load_box rfl 28 _ rfl X.out (by rfl) Tryd.underlying28 rfl (by kernel_rfl) ?_)
  refine (C0.out _ (HR0.out.after B)).mono ?_
  rintro e x1 ⟨rfl, bx1⟩
  replace X := Lib.hid (X.out.after bx1)
  replace Y := Lib.hid (Y.out.after bx1)
  replace B := B.trans (bx1.mono B.size)
  clear bx1
  clear C0
  cases g0 with
  | true =>
    clear C1
    go_wp2_with fail
    refine (awakeJ_any x1 (HT.out.after B)).mono ?_
    rintro e x2 ⟨rfl, bx2⟩
    replace X := Lib.hid (X.out.after bx2)
    replace Y := Lib.hid (Y.out.after bx2)
    replace B := B.trans (bx2.mono B.size)
    clear bx2
    go_wp2_with fail
    go_ret
    exact ⟨rfl, B⟩
  | false =>
    go_wp2_with (refine wpList_load_box rfl 28 _ rfl Y.out (by rfl) Tryd.underlying28 rfl (by kernel_rfl) ?_)
    refine (C1.out _ (HR1.out.after B)).mono ?_
    rintro e x2 ⟨rfl, bx2⟩
    replace X := Lib.hid (X.out.after bx2)
    replace Y := Lib.hid (Y.out.after bx2)
    replace B := B.trans (bx2.mono B.size)
    clear bx2
    clear C1
    cases g1 with
    | true =>
      go_wp2_with fail
      refine (awakeJ_any x2 (HT.out.after B)).mono ?_
      rintro e x3 ⟨rfl, bx3⟩
      replace X := Lib.hid (X.out.after bx3)
      replace Y := Lib.hid (Y.out.after bx3)
      replace B := B.trans (bx3.mono B.size)
      clear bx3
      go_wp2_with fail
      go_ret
      exact ⟨rfl, B⟩
    | false =>
      go_upto_region 3 with fail
      go_cut [5, 6] from 15 to 18 (fun s5 s6 wx => ∃ v5 E5 v6 E6, s5 = v5 ∧ s6 = v6 ∧ OwnG wx w.heap.size 2 v5 s0.keys.length (cellsE E5) ∧ ME (fun _ => True) wx E5 s0.keys ∧ OwnG wx w.heap.size 2 v6 s0.keys.length (cellsE E6) ∧ ME (fun _ => True) wx E6 s0.keys ∧ Box wx w.heap.size 28 #[.int .u8 vkd, .bool vs, .slice va1 vn1 vc1, .slice va2 vn2 vc2, .int .i64 vk, .slice va3 vn3 vc3] ∧ Box wx (w.heap.size + 1) 28 #[.int .u8 ukd, .bool us, .slice ua1 un1 uc1, .slice ua2 un2 uc2, .int .i64 uk, .slice ua3 un3 uc3] ∧ Below w.heap.size w wx)
      case first =>
        have hKS : Keeps (fun w' => Box w' w.heap.size 28 #[.int .u8 vkd, .bool vs, .slice va1 vn1 vc1, .slice va2 vn2 vc2, .int .i64 vk, .slice va3 vn3 vc3] ∧ Box w' (w.heap.size + 1) 28 #[.int .u8 ukd, .bool us, .slice ua1 un1 uc1, .slice ua2 un2 uc2, .int .i64 uk, .slice ua3 un3 uc3] ∧ RdJ (fun b => b < w.heap.size) w' ⟨vkd, vs, va1, vn1, vc1, va2, vn2, vc2, vk, va3, vn3, vc3⟩ s0 ∧ Below w.heap.size w w') := fun _ _ h b => ⟨h.1.after b, h.2.1.after b, h.2.2.1.after b, h.2.2.2.trans (b.mono h.2.2.2.size)⟩
        refine wp_region_W (w := x2) [] (fun w' => Box w' w.heap.size 28 #[.int .u8 vkd, .bool vs, .slice va1 vn1 vc1, .slice va2 vn2 vc2, .int .i64 vk, .slice va3 vn3 vc3] ∧ Box w' (w.heap.size + 1) 28 #[.int .u8 ukd, .bool us, .slice ua1 un1 uc1, .slice ua2 un2 uc2, .int .i64 uk, .slice ua3 un3 uc3] ∧ RdJ (fun b => b < w.heap.size) w' ⟨vkd, vs, va1, vn1, vc1, va2, vn2, vc2, vk, va3, vn3, vc3⟩ s0 ∧ Below w.heap.size w w') rfl (hKS _ _ ⟨X.out, Y.out, ((HR0.out.there.mono (fun b hb => hb.2)).after B), B⟩ (Below.refl _ _).drew) ?_
        refine wpW_val 0 hKS rfl (by kernel_rfl) (by kernel_rfl) (by kernel_rfl) (by kernel_rfl) rfl (fun _ _ _ _ h => h) (.agg #[.int .u8 vkd, .bool vs, .slice va1 vn1 vc1, .slice va2 vn2 vc2, .int .i64 vk, .slice va3 vn3 vc3]) (fun w' h => run_load_box rfl h.1 (by rfl) Tryd.underlying28 rfl (by kernel_rfl)) ?_
        simp only [Act.put, List.setIfInBounds_toArray, List.set_cons_zero, List.set_cons_succ]
        refine wpW_val 2 hKS rfl (by kernel_rfl) (by kernel_rfl) (by kernel_rfl) (by kernel_rfl) rfl (fun _ _ _ _ h => h) (.agg #[.int .u8 vkd, .bool vs, .slice va1 vn1 vc1, .slice va2 vn2 vc2, .int .i64 vk, .slice va3 vn3 vc3]) (fun w' h => run_load_box rfl h.1 (by rfl) Tryd.underlying28 rfl (by kernel_rfl)) ?_
        simp only [Act.put, List.setIfInBounds_toArray, List.set_cons_zero, List.set_cons_succ]
        refine wpW_one 1 rfl (by kernel_rfl) (by kernel_rfl) rfl ?_
        intro z1 c1 q1
        refine wp_callR 10 #[.agg #[.int .u8 vkd, .bool vs, .slice va1 vn1 vc1, .slice va2 vn2 vc2, .int .i64 vk, .slice va3 vn3 vc3]] (by simp [go_sem]) _ (keysJ_any s0 ⟨vkd, vs, va1, vn1, vc1, va2, vn2, vc2, vk, va3, vn3, vc3⟩ 0 z1 (q1.2.2.1.mono (fun _ _ => trivial)) G0.out.symm) ?_
        rintro e t1 ⟨k1, E1, rfl, o1, m1, d1⟩
        replace o1 := o1.le (B' := w.heap.size) q1.2.2.2.size
        replace m1 := m1.mono (ok' := fun _ => True) (fun _ _ => trivial)
        refine ⟨_, rfl, hKS _ _ q1 d1, ?_⟩
        simp only [Act.put, List.setIfInBounds_toArray, List.set_cons_zero, List.set_cons_succ]
        refine wpW_one 3 rfl (by kernel_rfl) (by kernel_rfl) rfl ?_
        intro z2 c2 q2
        replace o1 := o1.after c2
        replace m1 := m1.after c2
        refine wp_callR 11 #[.agg #[.int .u8 vkd, .bool vs, .slice va1 vn1 vc1, .slice va2 vn2 vc2, .int .i64 vk, .slice va3 vn3 vc3]] (by simp [go_sem]) _ (lawKeys_any s0 ⟨vkd, vs, va1, vn1, vc1, va2, vn2, vc2, vk, va3, vn3, vc3⟩ 0 z2 w.heap.size q2.2.2.2.size q2.2.2.1 G0.out.symm) ?_
        rintro e t2 ⟨k3, E3, rfl, o3, m3, d2⟩
        replace o3 := o3.le (B' := w.heap.size) q2.2.2.2.size
        replace m3 := m3.mono (ok' := fun _ => True) (fun _ _ => trivial)
        replace o1 := o1.after d2
        replace m1 := m1.after d2
        refine ⟨_, rfl, hKS _ _ q2 d2, ?_⟩
        simp only [Act.put, List.setIfInBounds_toArray, List.set_cons_zero, List.set_cons_succ]
        refine wpW_free 4 hKS rfl (by kernel_rfl) (by kernel_rfl) (by kernel_rfl) (by kernel_rfl) rfl (fun _ _ _ _ h => h) (k1) (fun w' => by simp [go_sem]) ?_
        simp only [Act.put, List.setIfInBounds_toArray, List.set_cons_zero, List.set_cons_succ]
        refine wpW_free 5 hKS rfl (by kernel_rfl) (by kernel_rfl) (by kernel_rfl) (by kernel_rfl) rfl (fun _ _ _ _ h => h) (k3) (fun w' => by simp [go_sem]) ?_
        simp only [Act.put, List.setIfInBounds_toArray, List.set_cons_zero, List.set_cons_succ]
        refine wpW_done (by kernel_rfl) ?_
        intro z9 c9 q9
        go_wp2_with fail
        go_meet
        exact ⟨k1, E1, k3, E3, rfl, rfl, o1.after c9, m1.after c9, o3.after c9, m3.after c9, q9.1, q9.2.1, q9.2.2.2⟩
      case rest =>
        clear X Y B
        obtain ⟨v5, E5, v6, E6, rfl, rfl, o5, m5, o6, m6, hX, hY, B⟩ := hcut
        have X := Lib.hid hX
        have Y := Lib.hid hY
        clear hX hY
        obtain ⟨n, hn⟩ : ∃ n, n = s0.keys.length := ⟨_, rfl⟩
        have HN := Lib.hid hn
        rw [← hn] at o5 o6
        clear hn
        obtain ⟨aa5, cc5, rfl, l5, k5, h5⟩ := ownE_row o5
        obtain ⟨aa6, cc6, rfl, l6, k6, h6⟩ := ownE_row o6
        have H5 := Lib.hid h5
        have H6 := Lib.hid h6
        have O5 := Lib.hid o5
        have O6 := Lib.hid o6
        have M5 := Lib.hid m5
        have M6 := Lib.hid m6
        unfold maxLen at k5 k6
        clear o5 o6 h5 h6 m5 m6
        obtain ⟨q, hq⟩ : ∃ q, q = s0.same s1 := ⟨_, rfl⟩
        have CS := Lib.hid (fun w' (h : Below wc.heap.size wc w') => refSameJ_any s0 s1 ⟨vkd, vs, va1, vn1, vc1, va2, vn2, vc2, vk, va3, vn3, vc3⟩ ⟨ukd, us, ua1, un1, uc1, ua2, un2, uc2, uk, ua3, un3, uc3⟩ w' ((HR0.out.after B).after h) ((HR1.out.after B).after h))
        have CJ := Lib.hid (fun w' (h : Below wc.heap.size wc w') => sameJ_any s0 s1 ⟨vkd, vs, va1, vn1, vc1, va2, vn2, vc2, vk, va3, vn3, vc3⟩ ⟨ukd, us, ua1, un1, uc1, ua2, un2, uc2, uk, ua3, un3, uc3⟩ w' ((HR0.out.after B).after h) ((HR1.out.after B).after h))
        have CI := Lib.hid (fun w' (h : Below wc.heap.size wc w') => sameJ_any s0 s0 ⟨vkd, vs, va1, vn1, vc1, va2, vn2, vc2, vk, va3, vn3, vc3⟩ ⟨vkd, vs, va1, vn1, vc1, va2, vn2, vc2, vk, va3, vn3, vc3⟩ w' ((HR0.out.after B).after h) ((HR0.out.after B).after h))
        rw [← hq] at CS CJ
        rw [Sj.same_refl] at CI
        clear hq
        go_upto_region 4 with fail
        refine wp_region_made wc.heap.size wc rfl (by kernel_rfl) (Below.refl _ _) ?_
        refine wpQ_run rfl (.slice aa5 n cc5) (fun w' hw => by simp [go_sem]) ?_
        simp only [Act.put, List.setIfInBounds_toArray, List.set_cons_zero, List.set_cons_succ]
        refine wpQ_run rfl (.int .i64 n) (fun w' hw => by simp [go_sem]) ?_
        simp only [Act.put, List.setIfInBounds_toArray, List.set_cons_zero, List.set_cons_succ]
        refine wpQ_run rfl (.slice aa6 n cc6) (fun w' hw => by simp [go_sem]) ?_
        simp only [Act.put, List.setIfInBounds_toArray, List.set_cons_zero, List.set_cons_succ]
        refine wpQ_run rfl (.int .i64 n) (fun w' hw => by simp [go_sem]) ?_
        simp only [Act.put, List.setIfInBounds_toArray, List.set_cons_zero, List.set_cons_succ]
        refine wpQ_run rfl (.bool false) (fun w' hw => by simp [go_sem]) ?_
        simp only [Act.put, List.setIfInBounds_toArray, List.set_cons_zero, List.set_cons_succ]
        refine wpQ_run rfl (.bool false) (fun w' hw => by simp [go_sem]) ?_
        simp only [Act.put, List.setIfInBounds_toArray, List.set_cons_zero, List.set_cons_succ]
        refine wpQ_load_box rfl 28 _ rfl X.out (by rfl) X.out.lt Tryd.underlying28 rfl (by kernel_rfl) ?_
        simp only [Act.put, List.setIfInBounds_toArray, List.set_cons_zero, List.set_cons_succ]
        refine wpQ_load_box rfl 28 _ rfl Y.out (by rfl) Y.out.lt Tryd.underlying28 rfl (by kernel_rfl) ?_
        simp only [Act.put, List.setIfInBounds_toArray, List.set_cons_zero, List.set_cons_succ]
        refine wpQ_callS rfl 9 #[.agg #[.int .u8 vkd, .bool vs, .slice va1 vn1 vc1, .slice va2 vn2 vc2, .int .i64 vk, .slice va3 vn3 vc3], .agg #[.int .u8 ukd, .bool us, .slice ua1 un1 uc1, .slice ua2 un2 uc2, .int .i64 uk, .slice ua3 un3 uc3]] (fun w' => by simp [go_sem]) (.bool q) (Nat.le_refl _) (fun w' hw => CJ.out w' hw) ?_
        simp only [Act.put, List.setIfInBounds_toArray, List.set_cons_zero, List.set_cons_succ]
        refine wpQ_load_box rfl 28 _ rfl X.out (by rfl) X.out.lt Tryd.underlying28 rfl (by kernel_rfl) ?_
        simp only [Act.put, List.setIfInBounds_toArray, List.set_cons_zero, List.set_cons_succ]
        refine wpQ_load_box rfl 28 _ rfl Y.out (by rfl) Y.out.lt Tryd.underlying28 rfl (by kernel_rfl) ?_
        simp only [Act.put, List.setIfInBounds_toArray, List.set_cons_zero, List.set_cons_succ]
        refine wpQ_callS rfl 12 #[.agg #[.int .u8 vkd, .bool vs, .slice va1 vn1 vc1, .slice va2 vn2 vc2, .int .i64 vk, .slice va3 vn3 vc3], .agg #[.int .u8 ukd, .bool us, .slice ua1 un1 uc1, .slice ua2 un2 uc2, .int .i64 uk, .slice ua3 un3 uc3]] (fun w' => by simp [go_sem]) (.bool q) (Nat.le_refl _) (fun w' hw => CS.out w' hw) ?_
        simp only [Act.put, List.setIfInBounds_toArray, List.set_cons_zero, List.set_cons_succ]
        refine wpQ_run rfl (.bool false) (fun w' hw => by simp [go_sem]) ?_
        simp only [Act.put, List.setIfInBounds_toArray, List.set_cons_zero, List.set_cons_succ]
        refine wpQ_run rfl (.bool false) (fun w' hw => by simp [go_sem]) ?_
        simp only [Act.put, List.setIfInBounds_toArray, List.set_cons_zero, List.set_cons_succ]
        refine wpQ_run rfl (.bool false) (fun w' hw => by simp [go_sem]) ?_
        simp only [Act.put, List.setIfInBounds_toArray, List.set_cons_zero, List.set_cons_succ]
        refine wpQ_load_box rfl 28 _ rfl X.out (by rfl) X.out.lt Tryd.underlying28 rfl (by kernel_rfl) ?_
        simp only [Act.put, List.setIfInBounds_toArray, List.set_cons_zero, List.set_cons_succ]
        refine wpQ_load_box rfl 28 _ rfl X.out (by rfl) X.out.lt Tryd.underlying28 rfl (by kernel_rfl) ?_
        simp only [Act.put, List.setIfInBounds_toArray, List.set_cons_zero, List.set_cons_succ]
        refine wpQ_callS rfl 9 #[.agg #[.int .u8 vkd, .bool vs, .slice va1 vn1 vc1, .slice va2 vn2 vc2, .int .i64 vk, .slice va3 vn3 vc3], .agg #[.int .u8 vkd, .bool vs, .slice va1 vn1 vc1, .slice va2 vn2 vc2, .int .i64 vk, .slice va3 vn3 vc3]] (fun w' => by simp [go_sem]) (.bool true) (Nat.le_refl _) (fun w' hw => CI.out w' hw) ?_
        simp only [Act.put, List.setIfInBounds_toArray, List.set_cons_zero, List.set_cons_succ]
        refine wpQ_run rfl (.bool false) (fun w' hw => by simp [go_sem]) ?_
        simp only [Act.put, List.setIfInBounds_toArray, List.set_cons_zero, List.set_cons_succ]
        refine wpQ_run rfl (.bool false) (fun w' hw => by simp [go_sem]) ?_
        simp only [Act.put, List.setIfInBounds_toArray, List.set_cons_zero, List.set_cons_succ]
        intro y4 hb4
        clear CS CJ CI X Y HR0 HR1
        replace H5 := Lib.hid (fun i hi => rngE_after (H5.out i hi) hb4)
        replace H6 := Lib.hid (fun i hi => rngE_after (H6.out i hi) hb4)
        replace O5 := Lib.hid (O5.out.after hb4)
        replace O6 := Lib.hid (O6.out.after hb4)
        replace M5 := Lib.hid (M5.out.after hb4)
        replace M6 := Lib.hid (M6.out.after hb4)
        replace B := B.trans (hb4.mono B.size)
        clear hb4
        go_wp2_with fail
        go_loopw [7] (fun i wr => ∃ k : Nat, k ≤ n ∧ i = .int .i64 k ∧ Below y4.heap.size y4 wr) (fun i _ => n - (intOf i).toNat)
        case atStart => exact ⟨0, Nat.zero_le _, rfl, Below.refl _ _⟩
        case round =>
          obtain ⟨k, hkn, rfl, hb⟩ := hrel
          replace B := B.trans (hb.mono B.size)
          by_cases hlt : k < n
          case pos =>
            obtain ⟨b5, p5, rfl, g5, hr5⟩ := H5.out k hlt
            obtain ⟨b6, p6, rfl, g6, hr6⟩ := H6.out k hlt
            have hl5 := M5.out.len
            have hl6 := M6.out.len
            have hk5 : k < E5.length := by have := HN.out; omega
            have hk6 : k < E6.length := by have := HN.out; omega
            have hks : k < s0.keys.length := by have := HN.out; omega
            obtain ⟨es5, sl5⟩ := (M5.out.after hb).at_ k hk5 hks
            obtain ⟨es6, sl6⟩ := (M6.out.after hb).at_ k hk6 hks
            rw [List.getElem?_eq_getElem hk5] at hr5
            rw [List.getElem?_eq_getElem hk6] at hr6
            simp only [Option.getD_some] at hr5 hr6
            generalize E5[k] = x5 at *
            generalize E6[k] = x6 at *
            generalize s0.keys[k] = kk at *
            obtain ⟨ss5, a5, n5, c5⟩ := x5
            obtain ⟨ss6, a6, n6, c6⟩ := x6
            obtain ⟨ks, kl⟩ := kk
            dsimp only at es5 es6 sl5 sl6 hr5 hr6
            subst es5 es6
            have CK := Lib.hid (fun w' (h : Below wr.heap.size wr w') => refKeySame_any ss6 a5 n5 c5 kl ss6 a6 n6 c6 kl w' (sl5.after h) (sl6.after h))
            simp only [keySame_refl] at CK
            have hL5 := Lib.hid (rngB_after g5 hr5 hb)
            have hL6 := Lib.hid (rngB_after g6 hr6 hb)
            have hbl5 : b5 < wr.heap.size := Nat.lt_of_lt_of_le g5 hb.size
            have hbl6 : b6 < wr.heap.size := Nat.lt_of_lt_of_le g6 hb.size
            have hk0 : (0 : Int) ≤ k := by omega
            have hk1 : (k : Int) < n := by omega
            clear sl5 sl6 hr5 hr6 hl5 hl6 hk5 hk6 hks O5 O6 M5 M6 H5 H6
            go_upto_region 9 with fail
            refine wp_region_made wr.heap.size wr rfl (by kernel_rfl) (Below.refl _ _) ?_
            refine wpQ_run rfl (.slice (some ⟨b5, p5, none⟩) n cc5) (fun w' hw => by simp [go_sem]) ?_
            simp only [Act.put, List.setIfInBounds_toArray, List.set_cons_zero, List.set_cons_succ]
            refine wpQ_run rfl (.int .i64 k) (fun w' hw => by simp [go_sem]) ?_
            simp only [Act.put, List.setIfInBounds_toArray, List.set_cons_zero, List.set_cons_succ]
            refine wpQ_run rfl (.pointer (some ⟨b5, p5 + k * 2, none⟩)) (fun w' hw => by simp [go_sem, hk0, hk1, hlt]) ?_
            simp only [Act.put, List.setIfInBounds_toArray, List.set_cons_zero, List.set_cons_succ]
            refine wpQ_load_mid rfl 24 _ rfl b5 (p5 + k * 2) rfl [.bool ss6, .slice a5 n5 c5] _ hL5.out hbl5 Tryd.underlying24 rfl (by kernel_rfl) ?_
            simp only [Act.put, List.setIfInBounds_toArray, List.set_cons_zero, List.set_cons_succ]
            refine wpQ_run rfl (.slice (some ⟨b6, p6, none⟩) n cc6) (fun w' hw => by simp [go_sem]) ?_
            simp only [Act.put, List.setIfInBounds_toArray, List.set_cons_zero, List.set_cons_succ]
            refine wpQ_run rfl (.int .i64 k) (fun w' hw => by simp [go_sem]) ?_
            simp only [Act.put, List.setIfInBounds_toArray, List.set_cons_zero, List.set_cons_succ]
            refine wpQ_run rfl (.pointer (some ⟨b6, p6 + k * 2, none⟩)) (fun w' hw => by simp [go_sem, hk0, hk1, hlt]) ?_
            simp only [Act.put, List.setIfInBounds_toArray, List.set_cons_zero, List.set_cons_succ]
            refine wpQ_load_mid rfl 24 _ rfl b6 (p6 + k * 2) rfl [.bool ss6, .slice a6 n6 c6] _ hL6.out hbl6 Tryd.underlying24 rfl (by kernel_rfl) ?_
            simp only [Act.put, List.setIfInBounds_toArray, List.set_cons_zero, List.set_cons_succ]
            refine wpQ_callS rfl 13 #[.agg #[.bool ss6, .slice a5 n5 c5], .agg #[.bool ss6, .slice a6 n6 c6]] (fun w' => by simp [go_sem]) (.bool true) (Nat.le_refl _) (fun w' hw => CK.out w' hw) ?_
            simp only [Act.put, List.setIfInBounds_toArray, List.set_cons_zero, List.set_cons_succ]
            refine wpQ_run rfl (.bool false) (fun w' hw => by simp [go_sem]) ?_
            simp only [Act.put, List.setIfInBounds_toArray, List.set_cons_zero, List.set_cons_succ]
            intro w1 hb1
            have B1 := B.trans (hb1.mono B.size)
            have D1 := hb.trans (hb1.mono hb.size)
            clear CK hL5 hL6 B
            go_wp2_with fail
            go_roundw
            case rel => exact ⟨k + 1, by omega, by go_num, D1⟩
            case measure => simp [intOf]; omega
          case neg =>
            go_wp2_with fail
            refine (awakeJ_any wr (HT.out.after B)).mono ?_
            rintro e x3 ⟨rfl, bx3⟩
            replace B := B.trans (bx3.mono B.size)
            clear bx3
            go_wp2_with fail
            go_ret
            exact ⟨rfl, B⟩

end Go.Proofs.YthmigigclmogiaaDoor

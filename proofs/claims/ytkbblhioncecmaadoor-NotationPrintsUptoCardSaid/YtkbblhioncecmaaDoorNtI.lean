/- The program's reader of advanced forms: a list; values and lists. -/
import Derived.Test.YtkbblhioncecmaaDoorNtH
namespace Go.Proofs.YtkbblhioncecmaaDoor
open Go.RowKit
set_option linter.unusedSimpArgs false
set_option linter.unusedVariables false

/-- a call that may throw -/
theorem wp_callE {P : Program} {o : Oper} {a : Act} {w : World} {K : Act → World → Prop} {Q : Exit → Act → World → Prop} (f : FuncId) (args : Array Value) (hr : (execOp a.eval o).run P w = .ok (.enter f args) w) (R : Ending → World → Prop) (hc : Calls P f args w R)
    (h : ∀ e w', R e w' → (∃ v, e = .returned v ∧ K (a.put o.dst v) w') ∨ (∃ c, e = .panicked c ∧ Q (.panic c) a w')) : o.wp P a w K Q := by
  unfold Oper.wp
  rw [hr]
  refine hc.mono fun e w' he => ?_
  rcases h e w' he with ⟨v, rfl, hv⟩ | ⟨c, rfl, hq⟩
  · exact hv
  · exact hq

theorem grown_after {w w1 w2 : World} {row : Option Nat} (h : w.grownBy w1 row) (hb : Below w1.heap.size w1 w2) : w.grownBy w2 row :=
  ⟨hb.os.trans h.os, hb.tape.trans h.tape, hb.output.trans h.output, Nat.le_trans h.size hb.size, fun k hk hne => (hb.block k (Nat.lt_of_lt_of_le hk h.size)).trans (h.block k hk hne)⟩
theorem src_slice {w w' : World} {v : SV} (h : Src Tryd.prog 5 24 (.slice (some ⟨w.heap.size, 0, none⟩) 1 1) 1 (newsK (fun _ => v) 1) (w.alloc (.cells v.cells 26))) (hn : Box (w.alloc (.cells v.cells 26)) w.heap.size 26 v.cells) (hb : Below (w.alloc (.cells v.cells 26)).heap.size (w.alloc (.cells v.cells 26)) w') :
    Src Tryd.prog 5 24 (.slice (some ⟨w.heap.size, 0, none⟩) 1 1) 1 (newsK (fun _ => v) 1) w' := by
  refine Src.ofSlice _ Tryd.underlying24 _ 1 1 _ (newsK_len _ 1) (fun j u hu => ?_) (newsK_one _ 1)
  rw [Addr.add_mid]
  refine (hn.after hb).cell (0 + j) ?_
  rw [Nat.zero_add]
  simpa [newsK] using hu
set_option maxHeartbeats 32000000 in
set_option maxRecDepth 100000 in
theorem listN_of (g : Nat) (s : ByteArray) (f : Nat) (hs : s.size ≤ 100000) (hd : ValueDoes g s f) : ListDoes g s f := by
  intro p m lv w hX hp hf hm hlv
  have HL : Hid (s.data.toList.length = s.size) := Lib.hid (by simp)
  have HD := Lib.hid hd
  have hgw := hX.lt
  have B0 : Below w.heap.size w (w.alloc (.cells #[.bool false, .bool false, .slice none 0 0, .slice none 0 0, .slice none 0 0] 26)) := (Below.refl _ _).alloc (Nat.le_refl _) _
  have R := Lib.hid (Box.new w 26 #[.bool false, .bool false, .slice none 0 0, .slice none 0 0, .slice none 0 0])
  have X := Lib.hid (hX.after B0)
  have U : Hid (But (fun k => k = g) w (w.alloc (.cells #[.bool false, .bool false, .slice none 0 0, .slice none 0 0, .slice none 0 0] 26))) := Lib.hid (But.ofBelow B0)
  have hz : w.heap.size < ((w.alloc (.cells #[.bool false, .bool false, .slice none 0 0, .slice none 0 0, .slice none 0 0] 26))).heap.size := R.out.lt
  clear hX hd B0
  go_enter Tryd.func46, Tryd.ntmps46
  go_upto_region 1 with fail
  change Code.wp _ _ _ _ (w.alloc (.cells #[.bool false, .bool false, .slice none 0 0, .slice none 0 0, .slice none 0 0] 26))
  generalize (w.alloc (.cells #[.bool false, .bool false, .slice none 0 0, .slice none 0 0, .slice none 0 0] 26)) = u0 at *
  go_upto_region 2 with (refine wpList_store_box (cells := #[.bool true, .bool false, .slice none 0 0, .slice none 0 0, .slice none 0 0]) rfl 26 _ _ rfl (Box.new _ _ _) (by rfl) (by rfl) rfl (by kernel_rfl) (by simp [Value.oneCell']) ?_; intro u1 V1 st1)
  have b1 : Below u0.heap.size u0 u1 := st1.below u0.heap.size u0 (Nat.le_refl _) ((Below.refl _ _).alloc (Nat.le_refl _) _)
  replace R := Lib.hid (R.out.after b1)
  replace X := Lib.hid (X.out.after b1)
  replace U := Lib.hid (U.out.trans (But.ofBelow (S := fun _ => False) b1) (fun _ h => h.elim))
  have V := Lib.hid V1
  have hz1 := V1.lt
  clear b1 st1 V1
  generalize u0.heap.size = vb at *
  simp only [Act.put]
  go_loopw [] (fun wr => ∃ (q cnt al : Nat) (acc : List Sx) (ta : Option Addr) (tc : Nat) (K : Nat → SV), p ≤ q ∧ q ≤ s.size ∧ cnt ≤ 512 ∧ al ≤ q ∧ Hid (al = acc.length) ∧ Hid (∀ r, Nt s.data.toList (some acc) q lv cnt r → Nt s.data.toList (some []) p lv m r) ∧ Box wr g 72 (RdN s q cnt) ∧ Box wr w.heap.size 26 #[.bool false, .bool false, .slice none 0 0, .slice none 0 0, .slice none 0 0] ∧ Box wr vb 26 #[.bool true, .bool false, .slice none 0 0, .slice none 0 0, .slice ta al tc] ∧ OwnG wr (vb + 1) 5 (.slice ta al tc) al (newsK K al) ∧ Hid (∀ i (hi : i < acc.length), RdI (okK (fun _ => False) vb (.slice ta al tc)) wr (K i) acc[i]) ∧ But (fun k => k = g) w wr) (fun wr => s.size + 1 - atN wr g)
  case atStart => exact ⟨p, m, 0, [], none, 0, fun _ => SV.nil, Nat.le_refl _, hp, hm, Nat.zero_le _, Lib.hid rfl, Lib.hid (fun r h => h), X.out, R.out, V.out, OwnG.nil _ _ _, Lib.hid (fun i hi => by cases hi), U.out⟩
  case round =>
    obtain ⟨q, cnt, al, acc, ta, tc, K, hpq, hq, hcnt, hal, HAL, HTO, hX, hR, hV, hO, HKD, hU⟩ := hrel
    clear X R V U
    have HAT := Lib.hid (atN_eq hX)
    have X := Lib.hid hX
    have R := Lib.hid hR
    have V := Lib.hid hV
    have O := Lib.hid hO
    have U := Lib.hid hU
    have hvlt := hV.lt
    clear hX hR hV hO hU
    go_wp2_with fail
    refine (skipN_any g s q cnt wr X.out (by omega) hq).mono ?_
    rintro e w3 ⟨rfl, X3, b3⟩
    obtain ⟨q1, hq1⟩ : ∃ q1, q1 = skipN s.data.toList q := ⟨_, rfl⟩
    have hk1 := skipN_le (l := s.data.toList) (p := q) (by rw [HL.out]; exact hq)
    rw [HL.out, ← hq1] at hk1
    rw [← hq1] at X3
    have HQ1 := Lib.hid hq1
    replace R := Lib.hid (b3.box R.out (by omega))
    replace V := Lib.hid (b3.box V.out (by omega))
    replace O := Lib.hid (O.out.but b3 (fun k h e => by have := (O.out.lt k h).1; omega))
    replace HKD : Hid (∀ i (hi : i < acc.length), RdI (okK (fun _ => False) vb (.slice ta al tc)) w3 (K i) acc[i]) := Lib.hid (fun i hi => (HKD.out i hi).but b3 (fun k hk e => by have := hk.1.resolve_left id; omega))
    replace U := Lib.hid (U.out.trans b3 (fun k hk => .inl hk))
    replace X := Lib.hid X3
    have hz3 := b3.size
    clear X3 b3 hq1
    go_wp2_with fail
    refine (peek_any g s q1 cnt w3 X.out (by omega)).mono ?_
    rintro e w4 ⟨b4, ⟨h4, rfl⟩ | ⟨h4, rfl⟩⟩
    · unfold FaultN
      have HE : Hid (Nt s.data.toList (some []) p lv m (RV.err s.size 2)) := Lib.hid (HTO.out _ (Nt.fail (fun h => by rw [HL.out, ← HQ1.out] at h; omega) (by rw [← HQ1.out, show s.size = s.data.toList.length from HL.out.symm]; exact Nt.short (by rw [HQ1.out, skipN_idem, ← HQ1.out, HL.out]; exact h4)) (by show (2 : Nat) ≠ 0; decide)))
      have HU := Lib.hid (U.out.trans (But.ofBelow (S := fun _ => False) b4) (fun _ h => h.elim))
      clear b4
      go_wp2_with fail
      exact ⟨rfl, vn_no HE.out (by decide) HU.out⟩
    replace R := Lib.hid (R.out.after b4)
    replace V := Lib.hid (V.out.after b4)
    replace O := Lib.hid (O.out.after b4)
    replace HKD : Hid (∀ i (hi : i < acc.length), RdI (okK (fun _ => False) vb (.slice ta al tc)) w4 (K i) acc[i]) := Lib.hid (fun i hi => (HKD.out i hi).after b4)
    replace U := Lib.hid (U.out.trans (But.ofBelow (S := fun _ => False) b4) (fun _ h => h.elim))
    replace X := Lib.hid (X.out.after b4)
    have hz4 := b4.size
    clear b4
    obtain ⟨x, hx⟩ : ∃ x, x = s.data.toList.getD q1 0 := ⟨_, rfl⟩
    rw [← hx]
    have HXC : Hid (s.data.toList.getD (skipN s.data.toList q) 0 = x) := Lib.hid (by rw [← HQ1.out, hx])
    have HQL : Hid (skipN s.data.toList q < s.data.toList.length) := Lib.hid (by rw [← HQ1.out, HL.out]; exact h4)
    clear hx
    have x1 := X.out.cell 1 rfl
    have f1 := X.out.frozen 1
    have hq6 : (q1 : Int) ≤ 1000000 := by omega
    by_cases h41 : x = 41
    · obtain ⟨e1, e2, e3⟩ := bEq (a := x) 41 41 rfl (by rw [h41]; rfl)
      have HE : Hid (Nt s.data.toList (some []) p lv m ⟨.mk true false [] [] acc, q1 + 1, cnt, 0⟩) := Lib.hid (HTO.out _ (by rw [HQ1.out]; exact Nt.close HQL.out (by rw [HXC.out]; exact h41)))
      clear h41 e3 HTO
      go_upto_region 5 with fail
      have X5 : Box (w4.setCell ⟨g, 1, none⟩ (.int .i64 ((q1 : Int) + 1))) g 72 (RdN s (q1 + 1) cnt) := X.out.set 1 _
      have b5 : But (fun k => k = g) w4 (w4.setCell ⟨g, 1, none⟩ (.int .i64 ((q1 : Int) + 1))) := (But.refl (fun k => k = g) w4).setCell (p := ⟨g, 1, none⟩) (.inl rfl) _
      change Code.wp _ _ _ _ (w4.setCell ⟨g, 1, none⟩ (.int .i64 ((q1 : Int) + 1)))
      generalize (w4.setCell ⟨g, 1, none⟩ (.int .i64 ((q1 : Int) + 1))) = w5 at *
      replace R := Lib.hid (b5.box R.out (by omega))
      replace V := Lib.hid (b5.box V.out (by omega))
      replace O := Lib.hid (O.out.but b5 (fun k h e => by have := (O.out.lt k h).1; omega))
      replace HKD : Hid (∀ i (hi : i < acc.length), RdI (okK (fun _ => False) vb (.slice ta al tc)) w5 (K i) acc[i]) := Lib.hid (fun i hi => (HKD.out i hi).but b5 (fun k hk e => by have := hk.1.resolve_left id; omega))
      replace U := Lib.hid (U.out.trans b5 (fun k hk => .inl hk))
      replace X := Lib.hid X5
      have hz5 := b5.size
      clear X5 b5 x1 f1
      go_wp2_with first | (refine wpList_load_box rfl 26 _ rfl V.out (by rfl) Tryd.underlying26 rfl (by kernel_rfl) ?_) | (refine wpList_store_box (cells := #[.bool true, .bool false, .slice none 0 0, .slice none 0 0, .slice ta al tc]) rfl 26 _ _ rfl R.out (by rfl) (by rfl) rfl (by kernel_rfl) (by simp [Value.oneCell']) ?_; intro u9 X9 st9)
      have b9 : But (fun k => k = w.heap.size) w5 u9 := But.ofStored st9 (st9.below 0 w5 (Nat.zero_le _) (Below.refl _ _))
      obtain ⟨a', c', e', hrow, hinb⟩ := O.out.row
      cases e'
      exact bodyPost_ret (v := .agg #[.bool true, .bool false, .slice none 0 0, .slice none 0 0, .slice ta al tc]) (box_result rfl _ _ (by rfl) X9 Tryd.underlying26 rfl (by kernel_rfl)) rfl (vn_yes (v := ⟨true, false, none, 0, 0, none, 0, 0, ta, al, tc⟩) HE.out (U.out.trans b9 (fun k hk => .inr (by omega)))
        (rd_list (hrow.keep (hinb.heap fun k hk => st9.other k (by omega))) (hinb.mono fun k hk => by omega) HAL.out (fun i hi => ((HKD.out i hi).but b9 (fun k hk e => by have := hk.1.resolve_left id; omega)).mono (fun k hk => by have := hk.1.resolve_left id; omega))) (b9.box X.out (by omega)))
    · obtain ⟨e1, e2, e3⟩ := bNe (a := x) 41 41 rfl (fun e => h41 (by rw [← UInt8.toNat_inj]; exact e))
      have H41 := Lib.hid h41
      clear h41 e3 x1 f1
      have hlv' : (lv : Int) ≤ 16 := by omega
      have hwl : IntKind.i64.wrap ((lv : Int) + 1) = (lv : Int) + 1 := by rw [IntKind.wrap_i64]; omega
      go_upto_region 6 with fail
      have hKS : Keeps (fun w' => Box w' vb 26 #[.bool true, .bool false, .slice none 0 0, .slice none 0 0, .slice ta al tc]) := fun w w' h b => h.after b
      refine wp_region_W (w := w4) [9] (fun w' => Box w' vb 26 #[.bool true, .bool false, .slice none 0 0, .slice none 0 0, .slice ta al tc]) rfl V.out.drew ?_
      refine wpW_val 0 hKS rfl (by kernel_rfl) (by kernel_rfl) (by kernel_rfl) (by kernel_rfl) rfl (fun _ _ _ _ h => h) (.pointer (some ⟨vb, 4, none⟩)) (fun w' h => by simp [go_sem]) ?_
      simp only [Act.put, List.setIfInBounds_toArray, List.set_cons_zero, List.set_cons_succ]
      refine wpW_val 1 hKS rfl (by kernel_rfl) (by kernel_rfl) (by kernel_rfl) (by kernel_rfl) rfl (fun _ _ _ _ h => h) (.slice ta al tc) (fun w' h => by simp [go_sem, h.cell 4 rfl]) ?_
      simp only [Act.put, List.setIfInBounds_toArray, List.set_cons_zero, List.set_cons_succ]
      refine wpW_val 2 hKS rfl (by kernel_rfl) (by kernel_rfl) (by kernel_rfl) (by kernel_rfl) rfl (fun _ _ _ _ h => h) (.pointer (some ⟨g, 0, none⟩)) (fun w' h => by simp [go_sem]) ?_
      simp only [Act.put, List.setIfInBounds_toArray, List.set_cons_zero, List.set_cons_succ]
      refine wpW_val 3 hKS rfl (by kernel_rfl) (by kernel_rfl) (by kernel_rfl) (by kernel_rfl) rfl (fun _ _ _ _ h => h) (.int .i64 lv) (fun w' h => by simp [go_sem]) ?_
      simp only [Act.put, List.setIfInBounds_toArray, List.set_cons_zero, List.set_cons_succ]
      refine wpW_val 4 hKS rfl (by kernel_rfl) (by kernel_rfl) (by kernel_rfl) (by kernel_rfl) rfl (fun _ _ _ _ h => h) (.int .i64 ((lv : Int) + 1)) (fun w' h => by simp [go_sem, hwl]) ?_
      simp only [Act.put, List.setIfInBounds_toArray, List.set_cons_zero, List.set_cons_succ]
      refine wpW_one 5 rfl (by kernel_rfl) (by kernel_rfl) rfl ?_
      intro w5 b5 s5
      have b5' : Below w4.heap.size w4 w5 := (Below.refl _ w4).drew.trans b5
      have hz5 := b5'.size
      refine wp_callE 23 #[.pointer (some ⟨g, 0, none⟩), .int .i64 ((lv : Int) + 1)] (by simp [go_sem]) _ (HD.out q1 cnt (lv + 1) w5 (X.out.after b5') (by omega) (by omega) hcnt (by omega)) ?_
      rintro e w6 ⟨b6, r, hr, ⟨h6, rfl⟩ | ⟨h6, v, rfl, rd, X6⟩⟩
      · refine .inr ⟨_, rfl, ?_⟩
        have HE : Hid (Nt s.data.toList (some []) p lv m r) := Lib.hid (HTO.out _ (Nt.fail (fun _ => by rw [HXC.out]; exact H41.out) (by rw [← HQ1.out]; exact hr) h6))
        have HU := Lib.hid ((U.out.trans (But.ofBelow (S := fun _ => False) b5') (fun _ h => h.elim)).trans b6 (fun k hk => .inl hk))
        have H6 := Lib.hid h6
        clear hKS b5 b5' s5 b6 hr h6
        go_wp2_with fail
        exact ⟨rfl, HU.out, r, HE.out, .inl ⟨H6.out, rfl⟩⟩
      · refine .inl ⟨_, rfl, b6.box s5 (by omega), ?_⟩
        simp only [Act.put, List.setIfInBounds_toArray, List.set_cons_zero, List.set_cons_succ]
        have hpl := Nt_place hr h6 (by rw [HL.out]; omega)
        rw [HL.out] at hpl
        have HMO : Hid (∀ r2, Nt s.data.toList (some (acc ++ [r.v])) r.p lv r.n r2 → Nt s.data.toList (some []) p lv m r2) := Lib.hid (fun r2 h => HTO.out r2 (Nt.more HQL.out (by rw [HXC.out]; exact H41.out) (by rw [← HQ1.out]; exact hr) h6 h))
        obtain ⟨rv, rp, rn, re⟩ := r
        dsimp only at rd X6 hpl HMO h6
        obtain ⟨vl, vh, a1, n1, c1, a2, n2, c2, a3, n3, c3⟩ := v
        refine wpW_one 6 rfl (by kernel_rfl) (by kernel_rfl) rfl ?_
        intro w7 b7 s7
        refine wp_of_run (.slice (some ⟨w7.heap.size, 0, none⟩) 1 1) (w7.alloc (.cells (SV.mk vl vh a1 n1 c1 a2 n2 c2 a3 n3 c3).cells 26)) (by simp [go_sem, SV.val, SV.cells]) ?_
        have b8 : Below w7.heap.size w7 (w7.alloc (.cells (SV.mk vl vh a1 n1 c1 a2 n2 c2 a3 n3 c3).cells 26)) := (Below.refl _ _).alloc (Nat.le_refl _) _
        have S8 : Src Tryd.prog 5 24 (.slice (some ⟨w7.heap.size, 0, none⟩) 1 1) 1 (newsK (fun _ => SV.mk vl vh a1 n1 c1 a2 n2 c2 a3 n3 c3) 1) (w7.alloc (.cells (SV.mk vl vh a1 n1 c1 a2 n2 c2 a3 n3 c3).cells 26)) := src_one w7 _
        have hz6 := b6.size
        have hz7 := b7.size
        have N8 := Box.new w7 26 (SV.mk vl vh a1 n1 c1 a2 n2 c2 a3 n3 c3).cells
        refine ⟨hKS _ _ s7 b8, ?_⟩
        simp only [Act.put, List.setIfInBounds_toArray, List.set_cons_zero, List.set_cons_succ]
        refine wpW_one 7 rfl (by kernel_rfl) (by kernel_rfl) rfl ?_
        intro w9 b9 s9
        have hz8 : w7.heap.size < (w7.alloc (.cells (SV.mk vl vh a1 n1 c1 a2 n2 c2 a3 n3 c3).cells 26)).heap.size := N8.lt
        have hz9 := b9.size
        have O5 := O.out.after b5'
        have hO5 : ∀ k, Value.ownBlock (.slice ta al tc) = some k → vb < k ∧ k < w5.heap.size := fun k h => ⟨(O5.lt k h).1, (O5.lt k h).2⟩
        have O6 := O5.but b6 (fun k h e => by have := hO5 k h; omega)
        have B69 : Below w6.heap.size w6 w9 := (b7.trans (b8.mono b7.size)).trans (b9.mono (Nat.le_trans b7.size b8.size))
        have O9 := O6.after B69
        have U9 := Lib.hid (((U.out.trans (But.ofBelow (S := fun _ => False) b5') (fun _ h => h.elim)).trans b6 (fun k hk => .inl hk)).trans (But.ofBelow (S := fun _ => False) B69) (fun _ h => h.elim))
        have X9 := Lib.hid (X6.after B69)
        have R9 := Lib.hid ((b6.box (R.out.after b5') (by omega)).after B69)
        have K9 : ∀ i (hi : i < acc.length), RdI (okK (fun _ => False) vb (.slice ta al tc)) w9 (K i) acc[i] := fun i hi => (((HKD.out i hi).after b5').but b6 (fun k hk e => by have := hk.1.resolve_left id; omega)).after B69
        have D9 : RdI (fun k => (False ∨ w5.heap.size ≤ k) ∧ k < w9.heap.size) w9 ⟨vl, vh, a1, n1, c1, a2, n2, c2, a3, n3, c3⟩ rv := ((rd.after B69).mono (fun k hk => (.inr hk : False ∨ w5.heap.size ≤ k))).there
        refine wp_append_K (B := vb + 1) _ _ rfl rfl O9 rfl (src_slice S8 N8 b9) (by omega) (by omega) ?_
        intro v10 w10 ho10 hg10 hw10
        rw [newsK_snoc] at ho10
        obtain ⟨ta', tc', rfl, _⟩ := ho10.row
        refine ⟨s9.grown hg10 (fun k hk => by have := (O9.lt k hk).1; omega), ?_⟩
        simp only [Act.put, List.setIfInBounds_toArray, List.set_cons_zero, List.set_cons_succ]
        refine wpW_val 8 hKS rfl (by kernel_rfl) (by kernel_rfl) (by kernel_rfl) (by kernel_rfl) rfl (fun _ _ _ _ h => h) (.pointer (some ⟨vb, 4, none⟩)) (fun w' h => by simp [go_sem]) ?_
        simp only [Act.put, List.setIfInBounds_toArray, List.set_cons_zero, List.set_cons_succ]
        refine wpW_write 9 rfl (by kernel_rfl) (by kernel_rfl) rfl ?_
        intro w11 b11 s11
        have hb10 : ∀ k, (Value.ownBlock (.slice ta al tc)) = some k → vb < k := fun k h => (hO5 k h).1
        have U10 := U9.out.trans (But.ofGrown hg10 (S := fun k => vb < k) hb10) (fun k hk => .inr (by omega))
        have X10 := X9.out.grown hg10 (fun k hk => by have := hb10 k hk; omega)
        have R10 := R9.out.grown hg10 (fun k hk => by have := hb10 k hk; omega)
        have KM := kids_more (ok := fun _ => False) (g := vb) (B := w5.heap.size) (G := w9.heap.size) (al := al) (own := .slice ta al tc) (v' := .slice ta' (al + 1) tc') (u := w9) (w2 := w10) (K := K) (acc := acc) (v := ⟨vl, vh, a1, n1, c1, a2, n2, c2, a3, n3, c3⟩) (rv := rv) HAL.out K9 D9 (fun k h => h.elim) (by omega) hO5 hg10 hw10 (.slice ta' (al + 1) tc')
        refine wp_store_slice 24 _ _ rfl rfl rfl (s11.cell 4 rfl) (s11.frozen 4) (fun w => by simp [go_sem]) ?_
        simp only [Act.put, List.setIfInBounds_toArray, List.set_cons_zero, List.set_cons_succ]
        refine wpU_done (by kernel_rfl) ?_
        intro w12 b12 _
        have hz11 := b11.size
        have b1112 : Below w10.heap.size w10 w11 := b11
        have KM' : Hid (∀ i (hi : i < (acc ++ [rv]).length), RdI (okK (fun _ => False) vb (.slice ta' (al + 1) tc')) w12 (if i = al then ⟨vl, vh, a1, n1, c1, a2, n2, c2, a3, n3, c3⟩ else K i) (acc ++ [rv])[i]) := Lib.hid (by
          have := kids_more (ok := fun _ => False) (g := vb) (B := w5.heap.size) (G := w9.heap.size) (al := al) (own := .slice ta al tc) (v' := .slice ta' (al + 1) tc') (u := w9) (w2 := w11) (K := K) (acc := acc) (v := ⟨vl, vh, a1, n1, c1, a2, n2, c2, a3, n3, c3⟩) (rv := rv) HAL.out K9 D9 (fun k h => h.elim) (by omega) hO5 (grown_after hg10 b11) hw10 (.slice ta' (al + 1) tc')
          exact fun i hi => (this i hi).after b12)
        have e12 : But (fun k => k = vb) w11 (w11.setCell ⟨vb, 4, none⟩ (.slice ta' (al + 1) tc')) := (But.refl (fun k => k = vb) w11).setCell (p := ⟨vb, 4, none⟩) (.inl rfl) _
        have V12 := Lib.hid ((s11.set 4 (.slice ta' (al + 1) tc')).after b12)
        have X12 := Lib.hid ((e12.box (X10.after b11) (by omega)).after b12)
        have R12 := Lib.hid ((e12.box (R10.after b11) (by omega)).after b12)
        have O12 := Lib.hid (((ho10.after b11).but e12 (fun k h e => by have := (ho10.lt k h).1; omega)).after b12)
        have U12 := Lib.hid (((U10.trans (But.ofBelow (S := fun _ => False) b11) (fun _ h => h.elim)).trans e12 (fun k hk => .inr (by omega))).trans (But.ofBelow (S := fun _ => False) b12) (fun _ h => h.elim))
        clear hKS b5 b5' s5 b6 rd X6 hr b7 s7 b8 S8 N8 b9 s9 O5 hO5 O6 B69 O9 U9 X9 R9 K9 D9 ho10 hg10 hw10 b11 s11 hb10 U10 X10 R10 KM b12 b1112 e12 O R V X U HKD HTO h6
        have e4' := atN_eq X12.out
        go_wp2_with fail
        go_roundw
        case rel => exact ⟨rp, rn, al + 1, acc ++ [rv], ta', tc', fun i => if i = al then ⟨vl, vh, a1, n1, c1, a2, n2, c2, a3, n3, c3⟩ else K i, by omega, by omega, hpl.2.2.1 hcnt, by omega, Lib.hid (by rw [HAL.out]; simp), HMO, X12.out, R12.out, V12.out, O12.out, KM', U12.out⟩
        case measure => rw [HAT.out, e4']; omega

theorem valueN_all (g : Nat) (s : ByteArray) (hs : s.size ≤ 100000) : ∀ f, ValueDoes g s f ∧ ListDoes g s f
  | 0 => have hv : ValueDoes g s 0 := fun p m lv w hX hp hf hm hlv => absurd hp (by omega)
    ⟨hv, listN_of g s 0 hs hv⟩
  | f + 1 => have hv : ValueDoes g s (f + 1) := fun p m lv w hX hp hf hm hlv => valueN_of g s f hs (valueN_all g s hs f).2 p m lv w hX hp hf hm hlv
    ⟨hv, listN_of g s (f + 1) hs hv⟩
theorem valueN_any (g : Nat) (s : ByteArray) (p m lv : Nat) (w : World) (hX : Box w g 72 (RdN s p m)) (hs : s.size ≤ 100000) (hp : p ≤ s.size) (hm : m ≤ 512) (hlv : lv ≤ 17) :
    Calls Tryd.prog 23 #[.pointer (some ⟨g, 0, none⟩), .int .i64 lv] w (ValN (Nt s.data.toList none p lv m) g s w) := (valueN_all g s hs (s.size + 1)).1 p m lv w hX hp (by omega) hm hlv

end Go.Proofs.YtkbblhioncecmaaDoor

/- The program's reader of advanced forms: plain atoms. -/
import Derived.Test.YtkbblhioncecmaaDoorNtE
namespace Go.Proofs.YtkbblhioncecmaaDoor
open Go.RowKit
set_option linter.unusedSimpArgs false
set_option linter.unusedVariables false


set_option maxHeartbeats 16000000 in
set_option maxRecDepth 100000 in
theorem plainN_any (g : Nat) (s : ByteArray) (p m : Nat) (w : World) (hX : Box w g 72 (RdN s p m)) (hs : s.size ≤ 100000) (hp : p ≤ s.size) :
    Calls Tryd.prog 47 #[.pointer (some ⟨g, 0, none⟩)] w (BytesN g s m (nPlain s.data.toList p) w) := by
  have HL : Hid (s.data.toList.length = s.size) := Lib.hid (by simp)
  obtain ⟨R, hR⟩ : ∃ R, R = nPlain s.data.toList p := ⟨_, rfl⟩
  rw [← hR]
  have HR := Lib.hid hR
  have hgw := hX.lt
  have HX := Lib.hid hX
  clear hR hX
  go_enter Tryd.func47, Tryd.ntmps47
  go_wp2_with fail
  refine (peek_any g s p m w HX.out (by omega)).mono ?_
  rintro e w1 ⟨hb1, ⟨h1, rfl⟩ | ⟨h1, rfl⟩⟩
  · unfold FaultN
    go_wp2_with fail
    exact ⟨rfl, bn_no (by rw [HR.out]; unfold nPlain; rw [if_pos (by rw [HL.out]; exact h1), HL.out]) (by decide) (But.ofBelow hb1)⟩
  obtain ⟨x, hx⟩ : ∃ x, x = s.data.toList.getD p 0 := ⟨_, rfl⟩
  rw [← hx]
  have HR1 : Hid (R = if numB x then nLen s.data.toList p else if x = 34 then nQuote s.data.toList (p + 1) else if x = 35 then nHex s.data.toList (p + 1) else if x = 124 then nB64 s.data.toList (p + 1) 124 else
      if signB x then ⟨(s.data.toList.drop p).takeWhile signB, p + ((s.data.toList.drop p).takeWhile signB).length, 0⟩ else BR.err p 3) := Lib.hid (by rw [HR.out]; unfold nPlain; rw [if_neg (by rw [HL.out]; omega), ← hx])
  have HXC := Lib.hid hx
  have X1 := Lib.hid (HX.out.after hb1)
  have U1 : Hid (But (fun k => k = g) w w1) := Lib.hid (But.ofBelow hb1)
  have hx255 := x.toNat_lt
  clear hx hb1 HX HR
  have hp6 : (p : Int) ≤ 1000000 := by omega
  go_wp2_with fail
  refine (is_any _ x _).mono ?_
  rintro e w9 ⟨rfl, rfl⟩
  rw [goodD]
  cases hn : numB x with
  | true =>
    have HRE : Hid (R = nLen s.data.toList p) := Lib.hid (by rw [HR1.out, hn]; rfl)
    clear hn
    go_wp2_with fail
    refine (lengthN_any g s p m w9 X1.out hs (by omega)).mono ?_
    rintro e w2 hP
    have HP := Lib.hid hP
    obtain ⟨b2, ⟨h2, rfl⟩ | ⟨h2, a, n, c, rfl, s2, i2, X2⟩⟩ := hP
    · clear b2 h2
      unfold FaultN at HP ⊢
      go_wp2_with fail
      exact ⟨rfl, by rw [HRE.out]; exact BytesN.trans U1.out HP.out⟩
    · clear b2 h2 s2 i2 X2
      go_wp2_with fail
      go_ret
      rw [HRE.out]
      exact BytesN.trans U1.out HP.out
  | false =>
    replace HR1 := Lib.hid (HR1.out.trans (if_neg (by rw [hn]; simp)))
    clear hn
    by_cases h34 : x = 34
    · obtain ⟨e1, e2, e3⟩ := bEq (a := x) 34 34 rfl (by rw [h34]; rfl)
      have HRE : Hid (R = nQuote s.data.toList (p + 1)) := Lib.hid (HR1.out.trans (if_pos h34))
      clear h34 e3
      go_wp2_with fail
      refine (quotedN_any g s p m w9 X1.out hs h1).mono ?_
      rintro e w2 hP
      have HP := Lib.hid hP
      obtain ⟨b2, ⟨h2, rfl⟩ | ⟨h2, a, n, c, rfl, s2, i2, X2⟩⟩ := hP
      · clear b2 h2
        unfold FaultN at HP ⊢
        go_wp2_with fail
        exact ⟨rfl, by rw [HRE.out]; exact BytesN.trans U1.out HP.out⟩
      · clear b2 h2 s2 i2 X2
        go_wp2_with fail
        go_ret
        rw [HRE.out]
        exact BytesN.trans U1.out HP.out
    · obtain ⟨e1, e2, e3⟩ := bNe (a := x) 34 34 rfl (fun e => h34 (by rw [← UInt8.toNat_inj]; exact e))
      replace HR1 := Lib.hid (HR1.out.trans (if_neg h34))
      clear h34 e3
      have x1 := X1.out.cell 1 rfl
      have f1 := X1.out.frozen 1
      by_cases h35 : x = 35
      · obtain ⟨e4, e5, e6⟩ := bEq (a := x) 35 35 rfl (by rw [h35]; rfl)
        have HRE : Hid (R = nHex s.data.toList (p + 1)) := Lib.hid (HR1.out.trans (if_pos h35))
        clear h35 e6
        have hln : (nSome hexC 35 (s.data.toList.drop (p + 1)) (p + 1)).b.length ≤ 100000 ∧ (nSome hexC 35 (s.data.toList.drop (p + 1)) (p + 1)).p ≤ 100000 := by
          have := nSome_len hexC 35 (s.data.toList.drop (p + 1)) (p + 1)
          rw [List.length_drop, HL.out] at this
          exact ⟨by omega, by omega⟩
        have X2 : Box (w9.setCell ⟨g, 1, none⟩ (.int .i64 ((p : Int) + 1))) g 72 (RdN s (p + 1) m) := X1.out.set 1 _
        have U2 := Lib.hid (U1.out.setCell (p := ⟨g, 1, none⟩) (.inl rfl) (.int .i64 ((p : Int) + 1)))
        have HX2 := Lib.hid X2
        go_upto_region 8 with fail
        change Code.wp _ _ _ _ (w9.setCell ⟨g, 1, none⟩ (.int .i64 ((p : Int) + 1)))
        generalize (w9.setCell ⟨g, 1, none⟩ (.int .i64 ((p : Int) + 1))) = w0 at *
        clear X2 X1 U1 x1 f1
        go_wp2_with fail
        refine (untilN_any hexC 35 ⟨hexsL.toArray⟩ good16 g s (p + 1) m w0 HX2.out (by omega) (by omega)).mono ?_
        rintro e w1 ⟨b1, ⟨h1, rfl⟩ | ⟨h1, rfl, X1⟩⟩
        · unfold FaultN
          go_wp2_with fail
          exact ⟨rfl, bn_no (by rw [HRE.out]; unfold nHex; dsimp only; rw [if_pos h1]) h1 (U2.out.trans b1 (fun k hk => .inl hk))⟩
        · have HX1 := Lib.hid X1
          have HB1 := Lib.hid (U2.out.trans b1 (fun k hk => .inl hk))
          have H1 := Lib.hid h1
          have HLN := Lib.hid hln
          clear X1 b1 h1 hln
          obtain ⟨x, hx⟩ : ∃ x, x = nSome hexC 35 (s.data.toList.drop (p + 1)) (p + 1) := ⟨_, rfl⟩
          rw [← hx] at HX1 H1 HLN ⊢
          have HXX := Lib.hid hx
          clear hx
          go_wp2_with fail
          refine (unhexO_any ⟨x.b.toArray⟩ w1 (by have := HLN.out; show x.b.toArray.size ≤ _; simp; omega)).mono ?_
          rintro e w2 ⟨a, n, c, rfl, s2, i2, b2⟩
          have hdl : (ByteArray.mk x.b.toArray).data.toList = x.b := by simp
          rw [hdl] at s2 ⊢
          have X2 := HX1.out.after b2
          have x1 := X2.cell 1 rfl
          have f1 := X2.frozen 1
          have HX2 := Lib.hid X2
          have HS2 := Lib.hid s2
          have HI2 := Lib.hid i2
          have HB2 := Lib.hid (HB1.out.trans (But.ofBelow (S := fun _ => False) b2) (fun _ h => h.elim))
          have hz12 := HB1.out.size
          have hxp : (x.p : Int) ≤ 1000000 := by have := HLN.out.2; omega
          clear X2 s2 i2 b2 hdl
          cases hu : unhex x.b with
          | none =>
            rw [errForm_none]
            have HU := Lib.hid hu
            clear hu
            go_wp2_with fail
            refine (wrong_any x.p 3 _).mono ?_
            rintro e w3 ⟨rfl, rfl⟩
            unfold FaultN
            go_wp2_with fail
            exact ⟨rfl, bn_no (by rw [HRE.out]; unfold nHex; dsimp only; rw [← HXX.out, if_neg (by rw [H1.out]; simp), HU.out]) (by decide) HB2.out⟩
          | some b =>
            rw [errForm_some]
            have HU := Lib.hid hu
            rw [hu] at HS2
            clear hu
            go_wp2_with fail
            have e4 : But (fun k => k = g) w2 (w2.setCell ⟨g, 1, none⟩ (.int .i64 ((x.p : Int) + 1))) := (But.refl (fun k => k = g) w2).setCell (p := ⟨g, 1, none⟩) (.inl rfl) _
            go_ret
            exact bn_yes (by rw [HRE.out]; unfold nHex; dsimp only; rw [← HXX.out, if_neg (by rw [H1.out]; simp), HU.out]; rfl) (HB2.out.setCell (p := ⟨g, 1, none⟩) (.inl rfl) _) (HS2.out.but e4 HI2.out (fun k hk => by omega)) (HI2.out.mono fun k hk => by omega) (HX2.out.set 1 _)
      · obtain ⟨e4, e5, e6⟩ := bNe (a := x) 35 35 rfl (fun e => h35 (by rw [← UInt8.toNat_inj]; exact e))
        replace HR1 := Lib.hid (HR1.out.trans (if_neg h35))
        clear h35 e6
        by_cases h124 : x = 124
        · obtain ⟨e7, e8, e9⟩ := bEq (a := x) 124 124 rfl (by rw [h124]; rfl)
          have HRE : Hid (R = nB64 s.data.toList (p + 1) 124) := Lib.hid (HR1.out.trans (if_pos h124))
          clear h124 e9
          have X2 : Box (w9.setCell ⟨g, 1, none⟩ (.int .i64 ((p : Int) + 1))) g 72 (RdN s (p + 1) m) := X1.out.set 1 _
          have U2 := Lib.hid (U1.out.setCell (p := ⟨g, 1, none⟩) (.inl rfl) (.int .i64 ((p : Int) + 1)))
          have HX2 := Lib.hid X2
          clear X2
          go_wp2_with fail
          refine (base64N_any 124 g s (p + 1) m _ HX2.out hs (by omega)).mono ?_
          rintro e w2 hP
          have HP := Lib.hid hP
          obtain ⟨b2, ⟨h2, rfl⟩ | ⟨h2, a, n, c, rfl, s2, i2, X2⟩⟩ := hP
          · clear b2 h2
            unfold FaultN at HP ⊢
            go_wp2_with fail
            exact ⟨rfl, by rw [HRE.out]; exact BytesN.trans U2.out HP.out⟩
          · clear b2 h2 s2 i2 X2
            go_wp2_with fail
            go_ret
            rw [HRE.out]
            exact BytesN.trans U2.out HP.out
        · obtain ⟨e7, e8, e9⟩ := bNe (a := x) 124 124 rfl (fun e => h124 (by rw [← UInt8.toNat_inj]; exact e))
          replace HR1 := Lib.hid (HR1.out.trans (if_neg h124))
          clear h124 e9
          go_wp2_with fail
          refine (is_any ⟨signL.toArray⟩ x _).mono ?_
          rintro e w8 ⟨rfl, rfl⟩
          rw [goodS]
          cases hsg : signB x with
          | false =>
            have HRE : Hid (R = BR.err p 3) := Lib.hid (HR1.out.trans (if_neg (by rw [hsg]; simp)))
            clear hsg
            go_wp2_with fail
            refine (wrong_any p 3 _).mono ?_
            rintro e w7 ⟨rfl, rfl⟩
            unfold FaultN
            go_wp2_with fail
            exact ⟨rfl, bn_no HRE.out (by decide) U1.out⟩
          | true =>
            have HRE : Hid (R = ⟨(s.data.toList.drop p).takeWhile signB, runN s.data.toList p, 0⟩) := Lib.hid (HR1.out.trans (if_pos (by rw [hsg])))
            clear hsg HR1
            go_wp2_with fail
            go_loopw [] (fun wr => ∃ k : Nat, p ≤ k ∧ k ≤ s.size ∧ Hid (runN s.data.toList k = runN s.data.toList p) ∧ Box wr g 72 (RdN s k m) ∧ But (fun k => k = g) w wr) (fun wr => s.size - atN wr g)
            case atStart => exact ⟨p, Nat.le_refl _, by omega, Lib.hid rfl, X1.out, U1.out⟩
            case round =>
              obtain ⟨k, hpk, hk, hsk, hX2, hbut⟩ := hrel
              clear X1 U1 x1 f1
              have HAT := Lib.hid (atN_eq hX2)
              have HX := Lib.hid hX2
              have HBU := Lib.hid hbut
              clear hX2 hbut
              have hp0 : (0 : Int) ≤ p := by omega
              have hpk' : (p : Int) ≤ k := by omega
              have hks : (k : Int) ≤ s.size := by omega
              by_cases hlt : k < s.size
              · have hk0 : (0 : Int) ≤ k := by omega
                have hk1 : (k : Int) < s.size := by omega
                obtain ⟨c, hc⟩ : ∃ c, c = s.data.toList.getD k 0 := ⟨_, rfl⟩
                have HCH := Lib.hid hc
                clear hc
                have HGK := Lib.hid (show s.data.toList[k]'(by rw [HL.out]; exact hlt) = c by rw [HCH.out, List.getD_eq_getElem?_getD, List.getElem?_eq_getElem (by rw [HL.out]; exact hlt)]; rfl)
                cases hbb : signB c with
                | true =>
                  have HBB := Lib.hid hbb
                  clear hbb
                  go_upto_region 19 with fail
                  refine wp_region_made wr.heap.size wr rfl (by kernel_rfl) (Below.refl _ _) ?_
                  refine wpQ_run rfl (.pointer (some ⟨g, 0, none⟩)) (fun w' hw => by simp [go_sem]) ?_
                  simp only [Act.put, List.setIfInBounds_toArray, List.set_cons_zero, List.set_cons_succ]
                  refine wpQ_run rfl (.pointer (some ⟨g, 0, none⟩)) (fun w' hw => by simp [go_sem]) ?_
                  simp only [Act.put, List.setIfInBounds_toArray, List.set_cons_zero, List.set_cons_succ]
                  refine wpQ_run rfl (.pointer (some ⟨g, 1, none⟩)) (fun w' hw => by simp [go_sem]) ?_
                  simp only [Act.put, List.setIfInBounds_toArray, List.set_cons_zero, List.set_cons_succ]
                  refine wpQ_run rfl (.int .i64 k) (fun w' hw => by have := (HX.out.after hw).cell 1 rfl; simp [go_sem, this]) ?_
                  simp only [Act.put, List.setIfInBounds_toArray, List.set_cons_zero, List.set_cons_succ]
                  refine wpQ_run rfl (.pointer (some ⟨g, 0, none⟩)) (fun w' hw => by simp [go_sem]) ?_
                  simp only [Act.put, List.setIfInBounds_toArray, List.set_cons_zero, List.set_cons_succ]
                  refine wpQ_run rfl (.pointer (some ⟨g, 0, none⟩)) (fun w' hw => by simp [go_sem]) ?_
                  simp only [Act.put, List.setIfInBounds_toArray, List.set_cons_zero, List.set_cons_succ]
                  refine wpQ_run rfl (.pointer (some ⟨g, 0, none⟩)) (fun w' hw => by simp [go_sem]) ?_
                  simp only [Act.put, List.setIfInBounds_toArray, List.set_cons_zero, List.set_cons_succ]
                  refine wpQ_run rfl (.string s) (fun w' hw => by have := (HX.out.after hw).cell 0 rfl; simp [go_sem, this]) ?_
                  simp only [Act.put, List.setIfInBounds_toArray, List.set_cons_zero, List.set_cons_succ]
                  refine wpQ_run rfl (.int .i64 s.size) (fun w' hw => by simp [go_sem]) ?_
                  simp only [Act.put, List.setIfInBounds_toArray, List.set_cons_zero, List.set_cons_succ]
                  refine wpQ_run rfl (.bool true) (fun w' hw => by simp [go_sem]; omega) ?_
                  simp only [Act.put, List.setIfInBounds_toArray, List.set_cons_zero, List.set_cons_succ]
                  refine wpQ_run rfl (.bool true) (fun w' hw => by simp [go_sem]) ?_
                  simp only [Act.put, List.setIfInBounds_toArray, List.set_cons_zero, List.set_cons_succ]
                  refine wpQ_run rfl (.pointer (some ⟨g, 0, none⟩)) (fun w' hw => by simp [go_sem]) ?_
                  simp only [Act.put, List.setIfInBounds_toArray, List.set_cons_zero, List.set_cons_succ]
                  refine wpQ_run rfl (.pointer (some ⟨g, 0, none⟩)) (fun w' hw => by simp [go_sem]) ?_
                  simp only [Act.put, List.setIfInBounds_toArray, List.set_cons_zero, List.set_cons_succ]
                  refine wpQ_run rfl (.pointer (some ⟨g, 0, none⟩)) (fun w' hw => by simp [go_sem]) ?_
                  simp only [Act.put, List.setIfInBounds_toArray, List.set_cons_zero, List.set_cons_succ]
                  refine wpQ_run rfl (.string s) (fun w' hw => by have := (HX.out.after hw).cell 0 rfl; simp [go_sem, this]) ?_
                  simp only [Act.put, List.setIfInBounds_toArray, List.set_cons_zero, List.set_cons_succ]
                  refine wpQ_run rfl (.pointer (some ⟨g, 0, none⟩)) (fun w' hw => by simp [go_sem]) ?_
                  simp only [Act.put, List.setIfInBounds_toArray, List.set_cons_zero, List.set_cons_succ]
                  refine wpQ_run rfl (.pointer (some ⟨g, 0, none⟩)) (fun w' hw => by simp [go_sem]) ?_
                  simp only [Act.put, List.setIfInBounds_toArray, List.set_cons_zero, List.set_cons_succ]
                  refine wpQ_run rfl (.pointer (some ⟨g, 1, none⟩)) (fun w' hw => by simp [go_sem]) ?_
                  simp only [Act.put, List.setIfInBounds_toArray, List.set_cons_zero, List.set_cons_succ]
                  refine wpQ_run rfl (.int .i64 k) (fun w' hw => by have := (HX.out.after hw).cell 1 rfl; simp [go_sem, this]) ?_
                  simp only [Act.put, List.setIfInBounds_toArray, List.set_cons_zero, List.set_cons_succ]
                  refine wpQ_run rfl (.int .u8 (c.toNat : Int)) (fun w' hw => by rw [HCH.out, ← getD_byte s k hlt]; simp [go_sem, hlt, hk0, hk1]) ?_
                  simp only [Act.put, List.setIfInBounds_toArray, List.set_cons_zero, List.set_cons_succ]
                  refine wpQ_call rfl 45 #[.string ⟨signL.toArray⟩, .int .u8 (c.toNat : Int)] (fun w' => by simp [go_sem, signL]) (.bool true) (Nat.le_refl _) (fun w' => (is_any _ c w').mono (fun e w2 h => by obtain ⟨rfl, rfl⟩ := h; exact ⟨by rw [goodS, HBB.out], Below.refl _ _⟩)) ?_
                  simp only [Act.put, List.setIfInBounds_toArray, List.set_cons_zero, List.set_cons_succ]
                  refine wpQ_run rfl (.bool true) (fun w' hw => by simp [go_sem]) ?_
                  simp only [Act.put, List.setIfInBounds_toArray, List.set_cons_zero, List.set_cons_succ]
                  intro w1 hb1
                  have HX1 := Lib.hid (HX.out.after hb1)
                  have HB1 := Lib.hid (HBU.out.trans (But.ofBelow (S := fun _ => False) hb1) (fun _ h => h.elim))
                  clear hb1
                  have x1 := HX1.out.cell 1 rfl
                  have f1 := HX1.out.frozen 1
                  have hk6 : (k : Int) ≤ 1000000 := by omega
                  go_wp2_with fail
                  have X4 : Box (w1.setCell ⟨g, 1, none⟩ (.int .i64 ((k : Int) + 1))) g 72 (RdN s (k + 1) m) := HX1.out.set 1 _
                  have e4' := atN_eq X4
                  go_roundw
                  case rel => exact ⟨k + 1, by omega, by omega, Lib.hid (by rw [← hsk.out]; exact (runN_sign (by rw [HL.out]; exact hlt) (by rw [HGK.out]; exact HBB.out)).symm), X4, HB1.out.setCell (p := ⟨g, 1, none⟩) (.inl rfl) _⟩
                  case measure => rw [HAT.out, e4']; omega
                | false =>
                  have HBB := Lib.hid hbb
                  clear hbb
                  go_upto_region 19 with fail
                  refine wp_region_made wr.heap.size wr rfl (by kernel_rfl) (Below.refl _ _) ?_
                  refine wpQ_run rfl (.pointer (some ⟨g, 0, none⟩)) (fun w' hw => by simp [go_sem]) ?_
                  simp only [Act.put, List.setIfInBounds_toArray, List.set_cons_zero, List.set_cons_succ]
                  refine wpQ_run rfl (.pointer (some ⟨g, 0, none⟩)) (fun w' hw => by simp [go_sem]) ?_
                  simp only [Act.put, List.setIfInBounds_toArray, List.set_cons_zero, List.set_cons_succ]
                  refine wpQ_run rfl (.pointer (some ⟨g, 1, none⟩)) (fun w' hw => by simp [go_sem]) ?_
                  simp only [Act.put, List.setIfInBounds_toArray, List.set_cons_zero, List.set_cons_succ]
                  refine wpQ_run rfl (.int .i64 k) (fun w' hw => by have := (HX.out.after hw).cell 1 rfl; simp [go_sem, this]) ?_
                  simp only [Act.put, List.setIfInBounds_toArray, List.set_cons_zero, List.set_cons_succ]
                  refine wpQ_run rfl (.pointer (some ⟨g, 0, none⟩)) (fun w' hw => by simp [go_sem]) ?_
                  simp only [Act.put, List.setIfInBounds_toArray, List.set_cons_zero, List.set_cons_succ]
                  refine wpQ_run rfl (.pointer (some ⟨g, 0, none⟩)) (fun w' hw => by simp [go_sem]) ?_
                  simp only [Act.put, List.setIfInBounds_toArray, List.set_cons_zero, List.set_cons_succ]
                  refine wpQ_run rfl (.pointer (some ⟨g, 0, none⟩)) (fun w' hw => by simp [go_sem]) ?_
                  simp only [Act.put, List.setIfInBounds_toArray, List.set_cons_zero, List.set_cons_succ]
                  refine wpQ_run rfl (.string s) (fun w' hw => by have := (HX.out.after hw).cell 0 rfl; simp [go_sem, this]) ?_
                  simp only [Act.put, List.setIfInBounds_toArray, List.set_cons_zero, List.set_cons_succ]
                  refine wpQ_run rfl (.int .i64 s.size) (fun w' hw => by simp [go_sem]) ?_
                  simp only [Act.put, List.setIfInBounds_toArray, List.set_cons_zero, List.set_cons_succ]
                  refine wpQ_run rfl (.bool true) (fun w' hw => by simp [go_sem]; omega) ?_
                  simp only [Act.put, List.setIfInBounds_toArray, List.set_cons_zero, List.set_cons_succ]
                  refine wpQ_run rfl (.bool true) (fun w' hw => by simp [go_sem]) ?_
                  simp only [Act.put, List.setIfInBounds_toArray, List.set_cons_zero, List.set_cons_succ]
                  refine wpQ_run rfl (.pointer (some ⟨g, 0, none⟩)) (fun w' hw => by simp [go_sem]) ?_
                  simp only [Act.put, List.setIfInBounds_toArray, List.set_cons_zero, List.set_cons_succ]
                  refine wpQ_run rfl (.pointer (some ⟨g, 0, none⟩)) (fun w' hw => by simp [go_sem]) ?_
                  simp only [Act.put, List.setIfInBounds_toArray, List.set_cons_zero, List.set_cons_succ]
                  refine wpQ_run rfl (.pointer (some ⟨g, 0, none⟩)) (fun w' hw => by simp [go_sem]) ?_
                  simp only [Act.put, List.setIfInBounds_toArray, List.set_cons_zero, List.set_cons_succ]
                  refine wpQ_run rfl (.string s) (fun w' hw => by have := (HX.out.after hw).cell 0 rfl; simp [go_sem, this]) ?_
                  simp only [Act.put, List.setIfInBounds_toArray, List.set_cons_zero, List.set_cons_succ]
                  refine wpQ_run rfl (.pointer (some ⟨g, 0, none⟩)) (fun w' hw => by simp [go_sem]) ?_
                  simp only [Act.put, List.setIfInBounds_toArray, List.set_cons_zero, List.set_cons_succ]
                  refine wpQ_run rfl (.pointer (some ⟨g, 0, none⟩)) (fun w' hw => by simp [go_sem]) ?_
                  simp only [Act.put, List.setIfInBounds_toArray, List.set_cons_zero, List.set_cons_succ]
                  refine wpQ_run rfl (.pointer (some ⟨g, 1, none⟩)) (fun w' hw => by simp [go_sem]) ?_
                  simp only [Act.put, List.setIfInBounds_toArray, List.set_cons_zero, List.set_cons_succ]
                  refine wpQ_run rfl (.int .i64 k) (fun w' hw => by have := (HX.out.after hw).cell 1 rfl; simp [go_sem, this]) ?_
                  simp only [Act.put, List.setIfInBounds_toArray, List.set_cons_zero, List.set_cons_succ]
                  refine wpQ_run rfl (.int .u8 (c.toNat : Int)) (fun w' hw => by rw [HCH.out, ← getD_byte s k hlt]; simp [go_sem, hlt, hk0, hk1]) ?_
                  simp only [Act.put, List.setIfInBounds_toArray, List.set_cons_zero, List.set_cons_succ]
                  refine wpQ_call rfl 45 #[.string ⟨signL.toArray⟩, .int .u8 (c.toNat : Int)] (fun w' => by simp [go_sem, signL]) (.bool false) (Nat.le_refl _) (fun w' => (is_any _ c w').mono (fun e w2 h => by obtain ⟨rfl, rfl⟩ := h; exact ⟨by rw [goodS, HBB.out], Below.refl _ _⟩)) ?_
                  simp only [Act.put, List.setIfInBounds_toArray, List.set_cons_zero, List.set_cons_succ]
                  refine wpQ_run rfl (.bool false) (fun w' hw => by simp [go_sem]) ?_
                  simp only [Act.put, List.setIfInBounds_toArray, List.set_cons_zero, List.set_cons_succ]
                  intro w1 hb1
                  have HX1 := Lib.hid (HX.out.after hb1)
                  have HB1 := Lib.hid (HBU.out.trans (But.ofBelow (S := fun _ => False) hb1) (fun _ h => h.elim))
                  clear hb1
                  have HXF := HX1
                  have HBF := HB1
                  have HKE : Hid (runN s.data.toList p = k) := Lib.hid (by rw [← hsk.out]; exact runN_other (by rw [HL.out]; exact hlt) (by rw [HGK.out]; exact HBB.out))
                  go_upto_region 21 with fail
                  have hKS : Keeps (fun w' => Box w' g 72 (RdN s k m)) := fun w w' h b => h.after b
                  refine wp_region_U (w := w1) (fun w' => Box w' g 72 (RdN s k m)) rfl HXF.out.drew ?_
                  refine wpU_val 0 hKS rfl (by kernel_rfl) (by kernel_rfl) (by kernel_rfl) rfl (fun _ _ _ _ h => h) (.pointer (some ⟨g, 0, none⟩)) (fun w' h => by simp [go_sem]) ?_
                  simp only [Act.put, List.setIfInBounds_toArray, List.set_cons_zero, List.set_cons_succ]
                  refine wpU_val 1 hKS rfl (by kernel_rfl) (by kernel_rfl) (by kernel_rfl) rfl (fun _ _ _ _ h => h) (.pointer (some ⟨g, 0, none⟩)) (fun w' h => by simp [go_sem]) ?_
                  simp only [Act.put, List.setIfInBounds_toArray, List.set_cons_zero, List.set_cons_succ]
                  refine wpU_val 2 hKS rfl (by kernel_rfl) (by kernel_rfl) (by kernel_rfl) rfl (fun _ _ _ _ h => h) (.pointer (some ⟨g, 0, none⟩)) (fun w' h => by simp [go_sem]) ?_
                  simp only [Act.put, List.setIfInBounds_toArray, List.set_cons_zero, List.set_cons_succ]
                  refine wpU_val 3 hKS rfl (by kernel_rfl) (by kernel_rfl) (by kernel_rfl) rfl (fun _ _ _ _ h => h) (.string s) (fun w' h => by simp [go_sem, h.cell 0 rfl]) ?_
                  simp only [Act.put, List.setIfInBounds_toArray, List.set_cons_zero, List.set_cons_succ]
                  refine wpU_val 4 hKS rfl (by kernel_rfl) (by kernel_rfl) (by kernel_rfl) rfl (fun _ _ _ _ h => h) (.int .i64 p) (fun w' h => by simp [go_sem]) ?_
                  simp only [Act.put, List.setIfInBounds_toArray, List.set_cons_zero, List.set_cons_succ]
                  refine wpU_val 5 hKS rfl (by kernel_rfl) (by kernel_rfl) (by kernel_rfl) rfl (fun _ _ _ _ h => h) (.pointer (some ⟨g, 0, none⟩)) (fun w' h => by simp [go_sem]) ?_
                  simp only [Act.put, List.setIfInBounds_toArray, List.set_cons_zero, List.set_cons_succ]
                  refine wpU_val 6 hKS rfl (by kernel_rfl) (by kernel_rfl) (by kernel_rfl) rfl (fun _ _ _ _ h => h) (.pointer (some ⟨g, 0, none⟩)) (fun w' h => by simp [go_sem]) ?_
                  simp only [Act.put, List.setIfInBounds_toArray, List.set_cons_zero, List.set_cons_succ]
                  refine wpU_val 7 hKS rfl (by kernel_rfl) (by kernel_rfl) (by kernel_rfl) rfl (fun _ _ _ _ h => h) (.pointer (some ⟨g, 1, none⟩)) (fun w' h => by simp [go_sem]) ?_
                  simp only [Act.put, List.setIfInBounds_toArray, List.set_cons_zero, List.set_cons_succ]
                  refine wpU_val 8 hKS rfl (by kernel_rfl) (by kernel_rfl) (by kernel_rfl) rfl (fun _ _ _ _ h => h) (.int .i64 k) (fun w' h => by simp [go_sem, h.cell 1 rfl]) ?_
                  simp only [Act.put, List.setIfInBounds_toArray, List.set_cons_zero, List.set_cons_succ]
                  refine wpU_val 9 hKS rfl (by kernel_rfl) (by kernel_rfl) (by kernel_rfl) rfl (fun _ _ _ _ h => h) (.string (s.extract p k)) (fun w' h => by simp [go_sem, hp0, hpk', hks]; try omega) ?_
                  simp only [Act.put, List.setIfInBounds_toArray, List.set_cons_zero, List.set_cons_succ]
                  refine wpU_one 10 rfl (by kernel_rfl) rfl ?_
                  intro w14 b14 s14
                  obtain ⟨v15, w15, hr15, ho15, b15⟩ := conv_own w14 (s.extract p k) (by simp; omega)
                  refine wp_of_run v15 w15 (by simp [go_sem, hr15]) ?_
                  refine ⟨hKS _ _ s14 b15, ?_⟩
                  simp only [Act.put, List.setIfInBounds_toArray, List.set_cons_zero, List.set_cons_succ]
                  obtain ⟨a15, n15, c15, rfl, sl15, in15⟩ := OwnB.parts ho15
                  refine wpU_val 11 hKS rfl (by kernel_rfl) (by kernel_rfl) (by kernel_rfl) rfl (fun _ _ _ _ h => h) (.slice a15 n15 c15) (fun w' h => by simp [go_sem]) ?_
                  simp only [Act.put, List.setIfInBounds_toArray, List.set_cons_zero, List.set_cons_succ]
                  refine wpU_done (by kernel_rfl) ?_
                  intro w16 b16 s16
                  have Bl : Below w1.heap.size w1 w16 := (((Below.refl _ w1).drew.trans b14).trans (b15.mono b14.size)).trans (b16.mono (Nat.le_trans b14.size b15.size))
                  rw [extract_data, ← HKE.out, run_take] at sl15
                  have HF := Lib.hid (bn_yes (m := m) HRE.out (HBF.out.trans (But.ofBelow (S := fun _ => False) Bl) (fun _ h => h.elim)) (sl15.after b16) (in15.mono (fun k hk => Nat.le_trans HBF.out.size (Nat.le_trans b14.size hk))) (by rw [HKE.out]; exact s16))
                  clear hKS b14 s14 b15 sl15 in15 hr15 ho15 b16 s16 Bl
                  go_wp2_with fail
                  go_ret
                  exact HF.out
              · have hk1 : ¬ (k : Int) < s.size := by omega
                have x0 := HX.out.cell 0 rfl
                have x1 := HX.out.cell 1 rfl
                have HKE : Hid (runN s.data.toList p = k) := Lib.hid (by rw [← hsk.out]; exact runN_end (by rw [HL.out]; omega))
                go_upto_region 19 with fail
                go_quiet (fail)
                have HXF := Lib.hid (HX.out.drewN nq)
                have HBF := Lib.hid (HBU.out.drewN nq)
                generalize wr.drewN nq = w1 at *
                go_upto_region 21 with fail
                have hKS : Keeps (fun w' => Box w' g 72 (RdN s k m)) := fun w w' h b => h.after b
                refine wp_region_U (w := w1) (fun w' => Box w' g 72 (RdN s k m)) rfl HXF.out.drew ?_
                refine wpU_val 0 hKS rfl (by kernel_rfl) (by kernel_rfl) (by kernel_rfl) rfl (fun _ _ _ _ h => h) (.pointer (some ⟨g, 0, none⟩)) (fun w' h => by simp [go_sem]) ?_
                simp only [Act.put, List.setIfInBounds_toArray, List.set_cons_zero, List.set_cons_succ]
                refine wpU_val 1 hKS rfl (by kernel_rfl) (by kernel_rfl) (by kernel_rfl) rfl (fun _ _ _ _ h => h) (.pointer (some ⟨g, 0, none⟩)) (fun w' h => by simp [go_sem]) ?_
                simp only [Act.put, List.setIfInBounds_toArray, List.set_cons_zero, List.set_cons_succ]
                refine wpU_val 2 hKS rfl (by kernel_rfl) (by kernel_rfl) (by kernel_rfl) rfl (fun _ _ _ _ h => h) (.pointer (some ⟨g, 0, none⟩)) (fun w' h => by simp [go_sem]) ?_
                simp only [Act.put, List.setIfInBounds_toArray, List.set_cons_zero, List.set_cons_succ]
                refine wpU_val 3 hKS rfl (by kernel_rfl) (by kernel_rfl) (by kernel_rfl) rfl (fun _ _ _ _ h => h) (.string s) (fun w' h => by simp [go_sem, h.cell 0 rfl]) ?_
                simp only [Act.put, List.setIfInBounds_toArray, List.set_cons_zero, List.set_cons_succ]
                refine wpU_val 4 hKS rfl (by kernel_rfl) (by kernel_rfl) (by kernel_rfl) rfl (fun _ _ _ _ h => h) (.int .i64 p) (fun w' h => by simp [go_sem]) ?_
                simp only [Act.put, List.setIfInBounds_toArray, List.set_cons_zero, List.set_cons_succ]
                refine wpU_val 5 hKS rfl (by kernel_rfl) (by kernel_rfl) (by kernel_rfl) rfl (fun _ _ _ _ h => h) (.pointer (some ⟨g, 0, none⟩)) (fun w' h => by simp [go_sem]) ?_
                simp only [Act.put, List.setIfInBounds_toArray, List.set_cons_zero, List.set_cons_succ]
                refine wpU_val 6 hKS rfl (by kernel_rfl) (by kernel_rfl) (by kernel_rfl) rfl (fun _ _ _ _ h => h) (.pointer (some ⟨g, 0, none⟩)) (fun w' h => by simp [go_sem]) ?_
                simp only [Act.put, List.setIfInBounds_toArray, List.set_cons_zero, List.set_cons_succ]
                refine wpU_val 7 hKS rfl (by kernel_rfl) (by kernel_rfl) (by kernel_rfl) rfl (fun _ _ _ _ h => h) (.pointer (some ⟨g, 1, none⟩)) (fun w' h => by simp [go_sem]) ?_
                simp only [Act.put, List.setIfInBounds_toArray, List.set_cons_zero, List.set_cons_succ]
                refine wpU_val 8 hKS rfl (by kernel_rfl) (by kernel_rfl) (by kernel_rfl) rfl (fun _ _ _ _ h => h) (.int .i64 k) (fun w' h => by simp [go_sem, h.cell 1 rfl]) ?_
                simp only [Act.put, List.setIfInBounds_toArray, List.set_cons_zero, List.set_cons_succ]
                refine wpU_val 9 hKS rfl (by kernel_rfl) (by kernel_rfl) (by kernel_rfl) rfl (fun _ _ _ _ h => h) (.string (s.extract p k)) (fun w' h => by simp [go_sem, hp0, hpk', hks]; try omega) ?_
                simp only [Act.put, List.setIfInBounds_toArray, List.set_cons_zero, List.set_cons_succ]
                refine wpU_one 10 rfl (by kernel_rfl) rfl ?_
                intro w14 b14 s14
                obtain ⟨v15, w15, hr15, ho15, b15⟩ := conv_own w14 (s.extract p k) (by simp; omega)
                refine wp_of_run v15 w15 (by simp [go_sem, hr15]) ?_
                refine ⟨hKS _ _ s14 b15, ?_⟩
                simp only [Act.put, List.setIfInBounds_toArray, List.set_cons_zero, List.set_cons_succ]
                obtain ⟨a15, n15, c15, rfl, sl15, in15⟩ := OwnB.parts ho15
                refine wpU_val 11 hKS rfl (by kernel_rfl) (by kernel_rfl) (by kernel_rfl) rfl (fun _ _ _ _ h => h) (.slice a15 n15 c15) (fun w' h => by simp [go_sem]) ?_
                simp only [Act.put, List.setIfInBounds_toArray, List.set_cons_zero, List.set_cons_succ]
                refine wpU_done (by kernel_rfl) ?_
                intro w16 b16 s16
                have Bl : Below w1.heap.size w1 w16 := (((Below.refl _ w1).drew.trans b14).trans (b15.mono b14.size)).trans (b16.mono (Nat.le_trans b14.size b15.size))
                rw [extract_data, ← HKE.out, run_take] at sl15
                have HF := Lib.hid (bn_yes (m := m) HRE.out (HBF.out.trans (But.ofBelow (S := fun _ => False) Bl) (fun _ h => h.elim)) (sl15.after b16) (in15.mono (fun k hk => Nat.le_trans HBF.out.size (Nat.le_trans b14.size hk))) (by rw [HKE.out]; exact s16))
                clear hKS b14 s14 b15 sl15 in15 hr15 ho15 b16 s16 Bl
                go_wp2_with fail
                go_ret
                exact HF.out

end Go.Proofs.YtkbblhioncecmaaDoor

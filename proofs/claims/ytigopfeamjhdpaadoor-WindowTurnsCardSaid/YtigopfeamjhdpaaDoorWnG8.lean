/- The program's reader of advanced forms: plain atoms. The program's reader of advanced forms: a value, given what its list does. The program's reader of advanced forms: a list; values and lists. -/
import Derived.Test.YtigopfeamjhdpaaDoorWnG7
namespace Go.Proofs.YtigopfeamjhdpaaDoor
open Go.RowKit
set_option linter.unusedSimpArgs false
set_option linter.unusedVariables false


set_option maxHeartbeats 16000000 in
set_option maxRecDepth 100000 in
theorem plainN_any (g : Nat) (s : ByteArray) (p m : Nat) (w : World) (hX : Box w g 79 (RdN s p m)) (hs : s.size ≤ 100000) (hp : p ≤ s.size) :
    Calls Tryd.prog 58 #[.pointer (some ⟨g, 0, none⟩)] w (BytesN g s m (nPlain s.data.toList p) w) := by
  have HL : Hid (s.data.toList.length = s.size) := Lib.hid (by simp)
  obtain ⟨R, hR⟩ : ∃ R, R = nPlain s.data.toList p := ⟨_, rfl⟩
  rw [← hR]
  have HR := Lib.hid hR
  have hgw := hX.lt
  have HX := Lib.hid hX
  clear hR hX
  go_enter Tryd.func58, Tryd.ntmps58
  go_wp2_with fail
  refine (peek_any g s p m w HX.out (by omega)).mono ?_
  rintro e w1 ⟨hb1, ⟨h1, rfl⟩ | ⟨h1, rfl⟩⟩
  · unfold FaultN
    go_wp2_with fail
    exact ⟨rfl, bn_no (by rw [HR.out]; unfold nPlain; rw [if_pos (by rw [HL.out]; exact h1), HL.out]) (by decide) (But.ofBelow hb1)⟩
  obtain ⟨x, hx⟩ : ∃ x, x = s.data.toList.getD p 0 := ⟨_, rfl⟩
  rw [← hx]
  have HR1 : Hid (R = if numB x then nLen s.data.toList p else if x = 34 then nQuote s.data.toList (p + 1) else if x = 35 then nHex s.data.toList (p + 1) else if x = 124 then nB64 s.data.toList (p + 1) 124 else
      if signB x then ⟨(s.data.toList.drop p).takeWhile signB, p + ((s.data.toList.drop p).takeWhile signB).length, 0⟩ else BR.err p 3) := Lib.hid (by rw [HR.out]; unfold nPlain; rw [if_neg (by rw [HL.out]; omega), ← hx])
  have HXC := Lib.hid hx
  have X1 := Lib.hid (HX.out.after hb1)
  have U1 : Hid (But (fun k => k = g) w w1) := Lib.hid (But.ofBelow hb1)
  have hx255 := x.toNat_lt
  clear hx hb1 HX HR
  have hp6 : (p : Int) ≤ 1000000 := by omega
  go_wp2_with fail
  refine (is_any _ x _).mono ?_
  rintro e w9 ⟨rfl, rfl⟩
  rw [goodD]
  cases hn : numB x with
  | true =>
    have HRE : Hid (R = nLen s.data.toList p) := Lib.hid (by rw [HR1.out, hn]; rfl)
    clear hn
    go_wp2_with fail
    refine (lengthN_any g s p m w9 X1.out hs (by omega)).mono ?_
    rintro e w2 hP
    have HP := Lib.hid hP
    obtain ⟨b2, ⟨h2, rfl⟩ | ⟨h2, a, n, c, rfl, s2, i2, X2⟩⟩ := hP
    · clear b2 h2
      unfold FaultN at HP ⊢
      go_wp2_with fail
      exact ⟨rfl, by rw [HRE.out]; exact BytesN.trans U1.out HP.out⟩
    · clear b2 h2 s2 i2 X2
      go_wp2_with fail
      go_ret
      rw [HRE.out]
      exact BytesN.trans U1.out HP.out
  | false =>
    replace HR1 := Lib.hid (HR1.out.trans (if_neg (by rw [hn]; simp)))
    clear hn
    by_cases h34 : x = 34
    · obtain ⟨e1, e2, e3⟩ := bEq (a := x) 34 34 rfl (by rw [h34]; rfl)
      have HRE : Hid (R = nQuote s.data.toList (p + 1)) := Lib.hid (HR1.out.trans (if_pos h34))
      clear h34 e3
      go_wp2_with fail
      refine (quotedN_any g s p m w9 X1.out hs h1).mono ?_
      rintro e w2 hP
      have HP := Lib.hid hP
      obtain ⟨b2, ⟨h2, rfl⟩ | ⟨h2, a, n, c, rfl, s2, i2, X2⟩⟩ := hP
      · clear b2 h2
        unfold FaultN at HP ⊢
        go_wp2_with fail
        exact ⟨rfl, by rw [HRE.out]; exact BytesN.trans U1.out HP.out⟩
      · clear b2 h2 s2 i2 X2
        go_wp2_with fail
        go_ret
        rw [HRE.out]
        exact BytesN.trans U1.out HP.out
    · obtain ⟨e1, e2, e3⟩ := bNe (a := x) 34 34 rfl (fun e => h34 (by rw [← UInt8.toNat_inj]; exact e))
      replace HR1 := Lib.hid (HR1.out.trans (if_neg h34))
      clear h34 e3
      have x1 := X1.out.cell 1 rfl
      have f1 := X1.out.frozen 1
      by_cases h35 : x = 35
      · obtain ⟨e4, e5, e6⟩ := bEq (a := x) 35 35 rfl (by rw [h35]; rfl)
        have HRE : Hid (R = nHex s.data.toList (p + 1)) := Lib.hid (HR1.out.trans (if_pos h35))
        clear h35 e6
        have hln : (nSome hexC 35 (s.data.toList.drop (p + 1)) (p + 1)).b.length ≤ 100000 ∧ (nSome hexC 35 (s.data.toList.drop (p + 1)) (p + 1)).p ≤ 100000 := by
          have := nSome_len hexC 35 (s.data.toList.drop (p + 1)) (p + 1)
          rw [List.length_drop, HL.out] at this
          exact ⟨by omega, by omega⟩
        have X2 : Box (w9.setCell ⟨g, 1, none⟩ (.int .i64 ((p : Int) + 1))) g 79 (RdN s (p + 1) m) := X1.out.set 1 _
        have U2 := Lib.hid (U1.out.setCell (p := ⟨g, 1, none⟩) (.inl rfl) (.int .i64 ((p : Int) + 1)))
        have HX2 := Lib.hid X2
        go_upto_region 8 with fail
        change Code.wp _ _ _ _ (w9.setCell ⟨g, 1, none⟩ (.int .i64 ((p : Int) + 1)))
        generalize (w9.setCell ⟨g, 1, none⟩ (.int .i64 ((p : Int) + 1))) = w0 at *
        clear X2 X1 U1 x1 f1
        go_wp2_with fail
        refine (untilN_any hexC 35 ⟨hexsL.toArray⟩ good16 g s (p + 1) m w0 HX2.out (by omega) (by omega)).mono ?_
        rintro e w1 ⟨b1, ⟨h1, rfl⟩ | ⟨h1, rfl, X1⟩⟩
        · unfold FaultN
          go_wp2_with fail
          exact ⟨rfl, bn_no (by rw [HRE.out]; unfold nHex; dsimp only; rw [if_pos h1]) h1 (U2.out.trans b1 (fun k hk => .inl hk))⟩
        · have HX1 := Lib.hid X1
          have HB1 := Lib.hid (U2.out.trans b1 (fun k hk => .inl hk))
          have H1 := Lib.hid h1
          have HLN := Lib.hid hln
          clear X1 b1 h1 hln
          obtain ⟨x, hx⟩ : ∃ x, x = nSome hexC 35 (s.data.toList.drop (p + 1)) (p + 1) := ⟨_, rfl⟩
          rw [← hx] at HX1 H1 HLN ⊢
          have HXX := Lib.hid hx
          clear hx
          go_wp2_with fail
          refine (unhexO_any ⟨x.b.toArray⟩ w1 (by have := HLN.out; show x.b.toArray.size ≤ _; simp; omega)).mono ?_
          rintro e w2 ⟨a, n, c, rfl, s2, i2, b2⟩
          have hdl : (ByteArray.mk x.b.toArray).data.toList = x.b := by simp
          rw [hdl] at s2 ⊢
          have X2 := HX1.out.after b2
          have x1 := X2.cell 1 rfl
          have f1 := X2.frozen 1
          have HX2 := Lib.hid X2
          have HS2 := Lib.hid s2
          have HI2 := Lib.hid i2
          have HB2 := Lib.hid (HB1.out.trans (But.ofBelow (S := fun _ => False) b2) (fun _ h => h.elim))
          have hz12 := HB1.out.size
          have hxp : (x.p : Int) ≤ 1000000 := by have := HLN.out.2; omega
          clear X2 s2 i2 b2 hdl
          cases hu : unhex x.b with
          | none =>
            rw [errForm_none]
            have HU := Lib.hid hu
            clear hu
            go_wp2_with fail
            refine (wrong_any x.p 3 _).mono ?_
            rintro e w3 ⟨rfl, rfl⟩
            unfold FaultN
            go_wp2_with fail
            exact ⟨rfl, bn_no (by rw [HRE.out]; unfold nHex; dsimp only; rw [← HXX.out, if_neg (by rw [H1.out]; simp), HU.out]) (by decide) HB2.out⟩
          | some b =>
            rw [errForm_some]
            have HU := Lib.hid hu
            rw [hu] at HS2
            clear hu
            go_wp2_with fail
            have e4 : But (fun k => k = g) w2 (w2.setCell ⟨g, 1, none⟩ (.int .i64 ((x.p : Int) + 1))) := (But.refl (fun k => k = g) w2).setCell (p := ⟨g, 1, none⟩) (.inl rfl) _
            go_ret
            exact bn_yes (by rw [HRE.out]; unfold nHex; dsimp only; rw [← HXX.out, if_neg (by rw [H1.out]; simp), HU.out]; rfl) (HB2.out.setCell (p := ⟨g, 1, none⟩) (.inl rfl) _) (HS2.out.but e4 HI2.out (fun k hk => by omega)) (HI2.out.mono fun k hk => by omega) (HX2.out.set 1 _)
      · obtain ⟨e4, e5, e6⟩ := bNe (a := x) 35 35 rfl (fun e => h35 (by rw [← UInt8.toNat_inj]; exact e))
        replace HR1 := Lib.hid (HR1.out.trans (if_neg h35))
        clear h35 e6
        by_cases h124 : x = 124
        · obtain ⟨e7, e8, e9⟩ := bEq (a := x) 124 124 rfl (by rw [h124]; rfl)
          have HRE : Hid (R = nB64 s.data.toList (p + 1) 124) := Lib.hid (HR1.out.trans (if_pos h124))
          clear h124 e9
          have X2 : Box (w9.setCell ⟨g, 1, none⟩ (.int .i64 ((p : Int) + 1))) g 79 (RdN s (p + 1) m) := X1.out.set 1 _
          have U2 := Lib.hid (U1.out.setCell (p := ⟨g, 1, none⟩) (.inl rfl) (.int .i64 ((p : Int) + 1)))
          have HX2 := Lib.hid X2
          clear X2
          go_wp2_with fail
          refine (base64N_any 124 g s (p + 1) m _ HX2.out hs (by omega)).mono ?_
          rintro e w2 hP
          have HP := Lib.hid hP
          obtain ⟨b2, ⟨h2, rfl⟩ | ⟨h2, a, n, c, rfl, s2, i2, X2⟩⟩ := hP
          · clear b2 h2
            unfold FaultN at HP ⊢
            go_wp2_with fail
            exact ⟨rfl, by rw [HRE.out]; exact BytesN.trans U2.out HP.out⟩
          · clear b2 h2 s2 i2 X2
            go_wp2_with fail
            go_ret
            rw [HRE.out]
            exact BytesN.trans U2.out HP.out
        · obtain ⟨e7, e8, e9⟩ := bNe (a := x) 124 124 rfl (fun e => h124 (by rw [← UInt8.toNat_inj]; exact e))
          replace HR1 := Lib.hid (HR1.out.trans (if_neg h124))
          clear h124 e9
          go_wp2_with fail
          refine (is_any ⟨signL.toArray⟩ x _).mono ?_
          rintro e w8 ⟨rfl, rfl⟩
          rw [goodS]
          cases hsg : signB x with
          | false =>
            have HRE : Hid (R = BR.err p 3) := Lib.hid (HR1.out.trans (if_neg (by rw [hsg]; simp)))
            clear hsg
            go_wp2_with fail
            refine (wrong_any p 3 _).mono ?_
            rintro e w7 ⟨rfl, rfl⟩
            unfold FaultN
            go_wp2_with fail
            exact ⟨rfl, bn_no HRE.out (by decide) U1.out⟩
          | true =>
            have HRE : Hid (R = ⟨(s.data.toList.drop p).takeWhile signB, runN s.data.toList p, 0⟩) := Lib.hid (HR1.out.trans (if_pos (by rw [hsg])))
            clear hsg HR1
            go_wp2_with fail
            go_loopw [] (fun wr => ∃ k : Nat, p ≤ k ∧ k ≤ s.size ∧ Hid (runN s.data.toList k = runN s.data.toList p) ∧ Box wr g 79 (RdN s k m) ∧ But (fun k => k = g) w wr) (fun wr => s.size - atN wr g)
            case atStart => exact ⟨p, Nat.le_refl _, by omega, Lib.hid rfl, X1.out, U1.out⟩
            case round =>
              obtain ⟨k, hpk, hk, hsk, hX2, hbut⟩ := hrel
              clear X1 U1 x1 f1
              have HAT := Lib.hid (atN_eq hX2)
              have HX := Lib.hid hX2
              have HBU := Lib.hid hbut
              clear hX2 hbut
              have hp0 : (0 : Int) ≤ p := by omega
              have hpk' : (p : Int) ≤ k := by omega
              have hks : (k : Int) ≤ s.size := by omega
              by_cases hlt : k < s.size
              · have hk0 : (0 : Int) ≤ k := by omega
                have hk1 : (k : Int) < s.size := by omega
                obtain ⟨c, hc⟩ : ∃ c, c = s.data.toList.getD k 0 := ⟨_, rfl⟩
                have HCH := Lib.hid hc
                clear hc
                have HGK := Lib.hid (show s.data.toList[k]'(by rw [HL.out]; exact hlt) = c by rw [HCH.out, List.getD_eq_getElem?_getD, List.getElem?_eq_getElem (by rw [HL.out]; exact hlt)]; rfl)
                cases hbb : signB c with
                | true =>
                  have HBB := Lib.hid hbb
                  clear hbb
                  go_upto_region 19 with fail
                  refine wp_region_made wr.heap.size wr rfl (by kernel_rfl) (Below.refl _ _) ?_
                  refine wpQ_run rfl (.pointer (some ⟨g, 0, none⟩)) (fun w' hw => by simp [go_sem]) ?_
                  simp only [Act.put, List.setIfInBounds_toArray, List.set_cons_zero, List.set_cons_succ]
                  refine wpQ_run rfl (.pointer (some ⟨g, 0, none⟩)) (fun w' hw => by simp [go_sem]) ?_
                  simp only [Act.put, List.setIfInBounds_toArray, List.set_cons_zero, List.set_cons_succ]
                  refine wpQ_run rfl (.pointer (some ⟨g, 1, none⟩)) (fun w' hw => by simp [go_sem]) ?_
                  simp only [Act.put, List.setIfInBounds_toArray, List.set_cons_zero, List.set_cons_succ]
                  refine wpQ_run rfl (.int .i64 k) (fun w' hw => by have := (HX.out.after hw).cell 1 rfl; simp [go_sem, this]) ?_
                  simp only [Act.put, List.setIfInBounds_toArray, List.set_cons_zero, List.set_cons_succ]
                  refine wpQ_run rfl (.pointer (some ⟨g, 0, none⟩)) (fun w' hw => by simp [go_sem]) ?_
                  simp only [Act.put, List.setIfInBounds_toArray, List.set_cons_zero, List.set_cons_succ]
                  refine wpQ_run rfl (.pointer (some ⟨g, 0, none⟩)) (fun w' hw => by simp [go_sem]) ?_
                  simp only [Act.put, List.setIfInBounds_toArray, List.set_cons_zero, List.set_cons_succ]
                  refine wpQ_run rfl (.pointer (some ⟨g, 0, none⟩)) (fun w' hw => by simp [go_sem]) ?_
                  simp only [Act.put, List.setIfInBounds_toArray, List.set_cons_zero, List.set_cons_succ]
                  refine wpQ_run rfl (.string s) (fun w' hw => by have := (HX.out.after hw).cell 0 rfl; simp [go_sem, this]) ?_
                  simp only [Act.put, List.setIfInBounds_toArray, List.set_cons_zero, List.set_cons_succ]
                  refine wpQ_run rfl (.int .i64 s.size) (fun w' hw => by simp [go_sem]) ?_
                  simp only [Act.put, List.setIfInBounds_toArray, List.set_cons_zero, List.set_cons_succ]
                  refine wpQ_run rfl (.bool true) (fun w' hw => by simp [go_sem]; omega) ?_
                  simp only [Act.put, List.setIfInBounds_toArray, List.set_cons_zero, List.set_cons_succ]
                  refine wpQ_run rfl (.bool true) (fun w' hw => by simp [go_sem]) ?_
                  simp only [Act.put, List.setIfInBounds_toArray, List.set_cons_zero, List.set_cons_succ]
                  refine wpQ_run rfl (.pointer (some ⟨g, 0, none⟩)) (fun w' hw => by simp [go_sem]) ?_
                  simp only [Act.put, List.setIfInBounds_toArray, List.set_cons_zero, List.set_cons_succ]
                  refine wpQ_run rfl (.pointer (some ⟨g, 0, none⟩)) (fun w' hw => by simp [go_sem]) ?_
                  simp only [Act.put, List.setIfInBounds_toArray, List.set_cons_zero, List.set_cons_succ]
                  refine wpQ_run rfl (.pointer (some ⟨g, 0, none⟩)) (fun w' hw => by simp [go_sem]) ?_
                  simp only [Act.put, List.setIfInBounds_toArray, List.set_cons_zero, List.set_cons_succ]
                  refine wpQ_run rfl (.string s) (fun w' hw => by have := (HX.out.after hw).cell 0 rfl; simp [go_sem, this]) ?_
                  simp only [Act.put, List.setIfInBounds_toArray, List.set_cons_zero, List.set_cons_succ]
                  refine wpQ_run rfl (.pointer (some ⟨g, 0, none⟩)) (fun w' hw => by simp [go_sem]) ?_
                  simp only [Act.put, List.setIfInBounds_toArray, List.set_cons_zero, List.set_cons_succ]
                  refine wpQ_run rfl (.pointer (some ⟨g, 0, none⟩)) (fun w' hw => by simp [go_sem]) ?_
                  simp only [Act.put, List.setIfInBounds_toArray, List.set_cons_zero, List.set_cons_succ]
                  refine wpQ_run rfl (.pointer (some ⟨g, 1, none⟩)) (fun w' hw => by simp [go_sem]) ?_
                  simp only [Act.put, List.setIfInBounds_toArray, List.set_cons_zero, List.set_cons_succ]
                  refine wpQ_run rfl (.int .i64 k) (fun w' hw => by have := (HX.out.after hw).cell 1 rfl; simp [go_sem, this]) ?_
                  simp only [Act.put, List.setIfInBounds_toArray, List.set_cons_zero, List.set_cons_succ]
                  refine wpQ_run rfl (.int .u8 (c.toNat : Int)) (fun w' hw => by rw [HCH.out, ← getD_byte s k hlt]; simp [go_sem, hlt, hk0, hk1]) ?_
                  simp only [Act.put, List.setIfInBounds_toArray, List.set_cons_zero, List.set_cons_succ]
                  refine wpQ_call rfl 56 #[.string ⟨signL.toArray⟩, .int .u8 (c.toNat : Int)] (fun w' => by simp [go_sem, signL]) (.bool true) (Nat.le_refl _) (fun w' => (is_any _ c w').mono (fun e w2 h => by obtain ⟨rfl, rfl⟩ := h; exact ⟨by rw [goodS, HBB.out], Below.refl _ _⟩)) ?_
                  simp only [Act.put, List.setIfInBounds_toArray, List.set_cons_zero, List.set_cons_succ]
                  refine wpQ_run rfl (.bool true) (fun w' hw => by simp [go_sem]) ?_
                  simp only [Act.put, List.setIfInBounds_toArray, List.set_cons_zero, List.set_cons_succ]
                  intro w1 hb1
                  have HX1 := Lib.hid (HX.out.after hb1)
                  have HB1 := Lib.hid (HBU.out.trans (But.ofBelow (S := fun _ => False) hb1) (fun _ h => h.elim))
                  clear hb1
                  have x1 := HX1.out.cell 1 rfl
                  have f1 := HX1.out.frozen 1
                  have hk6 : (k : Int) ≤ 1000000 := by omega
                  go_wp2_with fail
                  have X4 : Box (w1.setCell ⟨g, 1, none⟩ (.int .i64 ((k : Int) + 1))) g 79 (RdN s (k + 1) m) := HX1.out.set 1 _
                  have e4' := atN_eq X4
                  go_roundw
                  case rel => exact ⟨k + 1, by omega, by omega, Lib.hid (by rw [← hsk.out]; exact (runN_sign (by rw [HL.out]; exact hlt) (by rw [HGK.out]; exact HBB.out)).symm), X4, HB1.out.setCell (p := ⟨g, 1, none⟩) (.inl rfl) _⟩
                  case measure => rw [HAT.out, e4']; omega
                | false =>
                  have HBB := Lib.hid hbb
                  clear hbb
                  go_upto_region 19 with fail
                  refine wp_region_made wr.heap.size wr rfl (by kernel_rfl) (Below.refl _ _) ?_
                  refine wpQ_run rfl (.pointer (some ⟨g, 0, none⟩)) (fun w' hw => by simp [go_sem]) ?_
                  simp only [Act.put, List.setIfInBounds_toArray, List.set_cons_zero, List.set_cons_succ]
                  refine wpQ_run rfl (.pointer (some ⟨g, 0, none⟩)) (fun w' hw => by simp [go_sem]) ?_
                  simp only [Act.put, List.setIfInBounds_toArray, List.set_cons_zero, List.set_cons_succ]
                  refine wpQ_run rfl (.pointer (some ⟨g, 1, none⟩)) (fun w' hw => by simp [go_sem]) ?_
                  simp only [Act.put, List.setIfInBounds_toArray, List.set_cons_zero, List.set_cons_succ]
                  refine wpQ_run rfl (.int .i64 k) (fun w' hw => by have := (HX.out.after hw).cell 1 rfl; simp [go_sem, this]) ?_
                  simp only [Act.put, List.setIfInBounds_toArray, List.set_cons_zero, List.set_cons_succ]
                  refine wpQ_run rfl (.pointer (some ⟨g, 0, none⟩)) (fun w' hw => by simp [go_sem]) ?_
                  simp only [Act.put, List.setIfInBounds_toArray, List.set_cons_zero, List.set_cons_succ]
                  refine wpQ_run rfl (.pointer (some ⟨g, 0, none⟩)) (fun w' hw => by simp [go_sem]) ?_
                  simp only [Act.put, List.setIfInBounds_toArray, List.set_cons_zero, List.set_cons_succ]
                  refine wpQ_run rfl (.pointer (some ⟨g, 0, none⟩)) (fun w' hw => by simp [go_sem]) ?_
                  simp only [Act.put, List.setIfInBounds_toArray, List.set_cons_zero, List.set_cons_succ]
                  refine wpQ_run rfl (.string s) (fun w' hw => by have := (HX.out.after hw).cell 0 rfl; simp [go_sem, this]) ?_
                  simp only [Act.put, List.setIfInBounds_toArray, List.set_cons_zero, List.set_cons_succ]
                  refine wpQ_run rfl (.int .i64 s.size) (fun w' hw => by simp [go_sem]) ?_
                  simp only [Act.put, List.setIfInBounds_toArray, List.set_cons_zero, List.set_cons_succ]
                  refine wpQ_run rfl (.bool true) (fun w' hw => by simp [go_sem]; omega) ?_
                  simp only [Act.put, List.setIfInBounds_toArray, List.set_cons_zero, List.set_cons_succ]
                  refine wpQ_run rfl (.bool true) (fun w' hw => by simp [go_sem]) ?_
                  simp only [Act.put, List.setIfInBounds_toArray, List.set_cons_zero, List.set_cons_succ]
                  refine wpQ_run rfl (.pointer (some ⟨g, 0, none⟩)) (fun w' hw => by simp [go_sem]) ?_
                  simp only [Act.put, List.setIfInBounds_toArray, List.set_cons_zero, List.set_cons_succ]
                  refine wpQ_run rfl (.pointer (some ⟨g, 0, none⟩)) (fun w' hw => by simp [go_sem]) ?_
                  simp only [Act.put, List.setIfInBounds_toArray, List.set_cons_zero, List.set_cons_succ]
                  refine wpQ_run rfl (.pointer (some ⟨g, 0, none⟩)) (fun w' hw => by simp [go_sem]) ?_
                  simp only [Act.put, List.setIfInBounds_toArray, List.set_cons_zero, List.set_cons_succ]
                  refine wpQ_run rfl (.string s) (fun w' hw => by have := (HX.out.after hw).cell 0 rfl; simp [go_sem, this]) ?_
                  simp only [Act.put, List.setIfInBounds_toArray, List.set_cons_zero, List.set_cons_succ]
                  refine wpQ_run rfl (.pointer (some ⟨g, 0, none⟩)) (fun w' hw => by simp [go_sem]) ?_
                  simp only [Act.put, List.setIfInBounds_toArray, List.set_cons_zero, List.set_cons_succ]
                  refine wpQ_run rfl (.pointer (some ⟨g, 0, none⟩)) (fun w' hw => by simp [go_sem]) ?_
                  simp only [Act.put, List.setIfInBounds_toArray, List.set_cons_zero, List.set_cons_succ]
                  refine wpQ_run rfl (.pointer (some ⟨g, 1, none⟩)) (fun w' hw => by simp [go_sem]) ?_
                  simp only [Act.put, List.setIfInBounds_toArray, List.set_cons_zero, List.set_cons_succ]
                  refine wpQ_run rfl (.int .i64 k) (fun w' hw => by have := (HX.out.after hw).cell 1 rfl; simp [go_sem, this]) ?_
                  simp only [Act.put, List.setIfInBounds_toArray, List.set_cons_zero, List.set_cons_succ]
                  refine wpQ_run rfl (.int .u8 (c.toNat : Int)) (fun w' hw => by rw [HCH.out, ← getD_byte s k hlt]; simp [go_sem, hlt, hk0, hk1]) ?_
                  simp only [Act.put, List.setIfInBounds_toArray, List.set_cons_zero, List.set_cons_succ]
                  refine wpQ_call rfl 56 #[.string ⟨signL.toArray⟩, .int .u8 (c.toNat : Int)] (fun w' => by simp [go_sem, signL]) (.bool false) (Nat.le_refl _) (fun w' => (is_any _ c w').mono (fun e w2 h => by obtain ⟨rfl, rfl⟩ := h; exact ⟨by rw [goodS, HBB.out], Below.refl _ _⟩)) ?_
                  simp only [Act.put, List.setIfInBounds_toArray, List.set_cons_zero, List.set_cons_succ]
                  refine wpQ_run rfl (.bool false) (fun w' hw => by simp [go_sem]) ?_
                  simp only [Act.put, List.setIfInBounds_toArray, List.set_cons_zero, List.set_cons_succ]
                  intro w1 hb1
                  have HX1 := Lib.hid (HX.out.after hb1)
                  have HB1 := Lib.hid (HBU.out.trans (But.ofBelow (S := fun _ => False) hb1) (fun _ h => h.elim))
                  clear hb1
                  have HXF := HX1
                  have HBF := HB1
                  have HKE : Hid (runN s.data.toList p = k) := Lib.hid (by rw [← hsk.out]; exact runN_other (by rw [HL.out]; exact hlt) (by rw [HGK.out]; exact HBB.out))
                  go_upto_region 21 with fail
                  have hKS : Keeps (fun w' => Box w' g 79 (RdN s k m)) := fun w w' h b => h.after b
                  refine wp_region_U (w := w1) (fun w' => Box w' g 79 (RdN s k m)) rfl HXF.out.drew ?_
                  refine wpU_val 0 hKS rfl (by kernel_rfl) (by kernel_rfl) (by kernel_rfl) rfl (fun _ _ _ _ h => h) (.pointer (some ⟨g, 0, none⟩)) (fun w' h => by simp [go_sem]) ?_
                  simp only [Act.put, List.setIfInBounds_toArray, List.set_cons_zero, List.set_cons_succ]
                  refine wpU_val 1 hKS rfl (by kernel_rfl) (by kernel_rfl) (by kernel_rfl) rfl (fun _ _ _ _ h => h) (.pointer (some ⟨g, 0, none⟩)) (fun w' h => by simp [go_sem]) ?_
                  simp only [Act.put, List.setIfInBounds_toArray, List.set_cons_zero, List.set_cons_succ]
                  refine wpU_val 2 hKS rfl (by kernel_rfl) (by kernel_rfl) (by kernel_rfl) rfl (fun _ _ _ _ h => h) (.pointer (some ⟨g, 0, none⟩)) (fun w' h => by simp [go_sem]) ?_
                  simp only [Act.put, List.setIfInBounds_toArray, List.set_cons_zero, List.set_cons_succ]
                  refine wpU_val 3 hKS rfl (by kernel_rfl) (by kernel_rfl) (by kernel_rfl) rfl (fun _ _ _ _ h => h) (.string s) (fun w' h => by simp [go_sem, h.cell 0 rfl]) ?_
                  simp only [Act.put, List.setIfInBounds_toArray, List.set_cons_zero, List.set_cons_succ]
                  refine wpU_val 4 hKS rfl (by kernel_rfl) (by kernel_rfl) (by kernel_rfl) rfl (fun _ _ _ _ h => h) (.int .i64 p) (fun w' h => by simp [go_sem]) ?_
                  simp only [Act.put, List.setIfInBounds_toArray, List.set_cons_zero, List.set_cons_succ]
                  refine wpU_val 5 hKS rfl (by kernel_rfl) (by kernel_rfl) (by kernel_rfl) rfl (fun _ _ _ _ h => h) (.pointer (some ⟨g, 0, none⟩)) (fun w' h => by simp [go_sem]) ?_
                  simp only [Act.put, List.setIfInBounds_toArray, List.set_cons_zero, List.set_cons_succ]
                  refine wpU_val 6 hKS rfl (by kernel_rfl) (by kernel_rfl) (by kernel_rfl) rfl (fun _ _ _ _ h => h) (.pointer (some ⟨g, 0, none⟩)) (fun w' h => by simp [go_sem]) ?_
                  simp only [Act.put, List.setIfInBounds_toArray, List.set_cons_zero, List.set_cons_succ]
                  refine wpU_val 7 hKS rfl (by kernel_rfl) (by kernel_rfl) (by kernel_rfl) rfl (fun _ _ _ _ h => h) (.pointer (some ⟨g, 1, none⟩)) (fun w' h => by simp [go_sem]) ?_
                  simp only [Act.put, List.setIfInBounds_toArray, List.set_cons_zero, List.set_cons_succ]
                  refine wpU_val 8 hKS rfl (by kernel_rfl) (by kernel_rfl) (by kernel_rfl) rfl (fun _ _ _ _ h => h) (.int .i64 k) (fun w' h => by simp [go_sem, h.cell 1 rfl]) ?_
                  simp only [Act.put, List.setIfInBounds_toArray, List.set_cons_zero, List.set_cons_succ]
                  refine wpU_val 9 hKS rfl (by kernel_rfl) (by kernel_rfl) (by kernel_rfl) rfl (fun _ _ _ _ h => h) (.string (s.extract p k)) (fun w' h => by simp [go_sem, hp0, hpk', hks]; try omega) ?_
                  simp only [Act.put, List.setIfInBounds_toArray, List.set_cons_zero, List.set_cons_succ]
                  refine wpU_one 10 rfl (by kernel_rfl) rfl ?_
                  intro w14 b14 s14
                  obtain ⟨v15, w15, hr15, ho15, b15⟩ := conv_own w14 (s.extract p k) (by simp; omega)
                  refine wp_of_run v15 w15 (by simp [go_sem, hr15]) ?_
                  refine ⟨hKS _ _ s14 b15, ?_⟩
                  simp only [Act.put, List.setIfInBounds_toArray, List.set_cons_zero, List.set_cons_succ]
                  obtain ⟨a15, n15, c15, rfl, sl15, in15⟩ := OwnB.parts ho15
                  refine wpU_val 11 hKS rfl (by kernel_rfl) (by kernel_rfl) (by kernel_rfl) rfl (fun _ _ _ _ h => h) (.slice a15 n15 c15) (fun w' h => by simp [go_sem]) ?_
                  simp only [Act.put, List.setIfInBounds_toArray, List.set_cons_zero, List.set_cons_succ]
                  refine wpU_done (by kernel_rfl) ?_
                  intro w16 b16 s16
                  have Bl : Below w1.heap.size w1 w16 := (((Below.refl _ w1).drew.trans b14).trans (b15.mono b14.size)).trans (b16.mono (Nat.le_trans b14.size b15.size))
                  rw [extract_data, ← HKE.out, run_take] at sl15
                  have HF := Lib.hid (bn_yes (m := m) HRE.out (HBF.out.trans (But.ofBelow (S := fun _ => False) Bl) (fun _ h => h.elim)) (sl15.after b16) (in15.mono (fun k hk => Nat.le_trans HBF.out.size (Nat.le_trans b14.size hk))) (by rw [HKE.out]; exact s16))
                  clear hKS b14 s14 b15 sl15 in15 hr15 ho15 b16 s16 Bl
                  go_wp2_with fail
                  go_ret
                  exact HF.out
              · have hk1 : ¬ (k : Int) < s.size := by omega
                have x0 := HX.out.cell 0 rfl
                have x1 := HX.out.cell 1 rfl
                have HKE : Hid (runN s.data.toList p = k) := Lib.hid (by rw [← hsk.out]; exact runN_end (by rw [HL.out]; omega))
                go_upto_region 19 with fail
                go_quiet (fail)
                have HXF := Lib.hid (HX.out.drewN nq)
                have HBF := Lib.hid (HBU.out.drewN nq)
                generalize wr.drewN nq = w1 at *
                go_upto_region 21 with fail
                have hKS : Keeps (fun w' => Box w' g 79 (RdN s k m)) := fun w w' h b => h.after b
                refine wp_region_U (w := w1) (fun w' => Box w' g 79 (RdN s k m)) rfl HXF.out.drew ?_
                refine wpU_val 0 hKS rfl (by kernel_rfl) (by kernel_rfl) (by kernel_rfl) rfl (fun _ _ _ _ h => h) (.pointer (some ⟨g, 0, none⟩)) (fun w' h => by simp [go_sem]) ?_
                simp only [Act.put, List.setIfInBounds_toArray, List.set_cons_zero, List.set_cons_succ]
                refine wpU_val 1 hKS rfl (by kernel_rfl) (by kernel_rfl) (by kernel_rfl) rfl (fun _ _ _ _ h => h) (.pointer (some ⟨g, 0, none⟩)) (fun w' h => by simp [go_sem]) ?_
                simp only [Act.put, List.setIfInBounds_toArray, List.set_cons_zero, List.set_cons_succ]
                refine wpU_val 2 hKS rfl (by kernel_rfl) (by kernel_rfl) (by kernel_rfl) rfl (fun _ _ _ _ h => h) (.pointer (some ⟨g, 0, none⟩)) (fun w' h => by simp [go_sem]) ?_
                simp only [Act.put, List.setIfInBounds_toArray, List.set_cons_zero, List.set_cons_succ]
                refine wpU_val 3 hKS rfl (by kernel_rfl) (by kernel_rfl) (by kernel_rfl) rfl (fun _ _ _ _ h => h) (.string s) (fun w' h => by simp [go_sem, h.cell 0 rfl]) ?_
                simp only [Act.put, List.setIfInBounds_toArray, List.set_cons_zero, List.set_cons_succ]
                refine wpU_val 4 hKS rfl (by kernel_rfl) (by kernel_rfl) (by kernel_rfl) rfl (fun _ _ _ _ h => h) (.int .i64 p) (fun w' h => by simp [go_sem]) ?_
                simp only [Act.put, List.setIfInBounds_toArray, List.set_cons_zero, List.set_cons_succ]
                refine wpU_val 5 hKS rfl (by kernel_rfl) (by kernel_rfl) (by kernel_rfl) rfl (fun _ _ _ _ h => h) (.pointer (some ⟨g, 0, none⟩)) (fun w' h => by simp [go_sem]) ?_
                simp only [Act.put, List.setIfInBounds_toArray, List.set_cons_zero, List.set_cons_succ]
                refine wpU_val 6 hKS rfl (by kernel_rfl) (by kernel_rfl) (by kernel_rfl) rfl (fun _ _ _ _ h => h) (.pointer (some ⟨g, 0, none⟩)) (fun w' h => by simp [go_sem]) ?_
                simp only [Act.put, List.setIfInBounds_toArray, List.set_cons_zero, List.set_cons_succ]
                refine wpU_val 7 hKS rfl (by kernel_rfl) (by kernel_rfl) (by kernel_rfl) rfl (fun _ _ _ _ h => h) (.pointer (some ⟨g, 1, none⟩)) (fun w' h => by simp [go_sem]) ?_
                simp only [Act.put, List.setIfInBounds_toArray, List.set_cons_zero, List.set_cons_succ]
                refine wpU_val 8 hKS rfl (by kernel_rfl) (by kernel_rfl) (by kernel_rfl) rfl (fun _ _ _ _ h => h) (.int .i64 k) (fun w' h => by simp [go_sem, h.cell 1 rfl]) ?_
                simp only [Act.put, List.setIfInBounds_toArray, List.set_cons_zero, List.set_cons_succ]
                refine wpU_val 9 hKS rfl (by kernel_rfl) (by kernel_rfl) (by kernel_rfl) rfl (fun _ _ _ _ h => h) (.string (s.extract p k)) (fun w' h => by simp [go_sem, hp0, hpk', hks]; try omega) ?_
                simp only [Act.put, List.setIfInBounds_toArray, List.set_cons_zero, List.set_cons_succ]
                refine wpU_one 10 rfl (by kernel_rfl) rfl ?_
                intro w14 b14 s14
                obtain ⟨v15, w15, hr15, ho15, b15⟩ := conv_own w14 (s.extract p k) (by simp; omega)
                refine wp_of_run v15 w15 (by simp [go_sem, hr15]) ?_
                refine ⟨hKS _ _ s14 b15, ?_⟩
                simp only [Act.put, List.setIfInBounds_toArray, List.set_cons_zero, List.set_cons_succ]
                obtain ⟨a15, n15, c15, rfl, sl15, in15⟩ := OwnB.parts ho15
                refine wpU_val 11 hKS rfl (by kernel_rfl) (by kernel_rfl) (by kernel_rfl) rfl (fun _ _ _ _ h => h) (.slice a15 n15 c15) (fun w' h => by simp [go_sem]) ?_
                simp only [Act.put, List.setIfInBounds_toArray, List.set_cons_zero, List.set_cons_succ]
                refine wpU_done (by kernel_rfl) ?_
                intro w16 b16 s16
                have Bl : Below w1.heap.size w1 w16 := (((Below.refl _ w1).drew.trans b14).trans (b15.mono b14.size)).trans (b16.mono (Nat.le_trans b14.size b15.size))
                rw [extract_data, ← HKE.out, run_take] at sl15
                have HF := Lib.hid (bn_yes (m := m) HRE.out (HBF.out.trans (But.ofBelow (S := fun _ => False) Bl) (fun _ h => h.elim)) (sl15.after b16) (in15.mono (fun k hk => Nat.le_trans HBF.out.size (Nat.le_trans b14.size hk))) (by rw [HKE.out]; exact s16))
                clear hKS b14 s14 b15 sl15 in15 hr15 ho15 b16 s16 Bl
                go_wp2_with fail
                go_ret
                exact HF.out

end Go.Proofs.YtigopfeamjhdpaaDoor
namespace Go.Proofs.YtigopfeamjhdpaaDoor
open Go.RowKit
set_option linter.unusedSimpArgs false
set_option linter.unusedVariables false

/-- a value, or a list's rest: a fault, or what is read -/
def ValN (Rel : RV → Prop) (g : Nat) (s : ByteArray) (w : World) (e : Ending) (w' : World) : Prop :=
  But (fun k => k = g) w w' ∧ ∃ r : RV, Rel r ∧ ((r.e ≠ 0 ∧ e = FaultN r.p r.e) ∨ (r.e = 0 ∧ ∃ v : SV, e = .returned v.val ∧ RdI (fun k => w.heap.size ≤ k) w' v r.v ∧ Box w' g 79 (RdN s r.p r.n)))
theorem vn_no {Rel : RV → Prop} {g : Nat} {s : ByteArray} {p e : Nat} (h : Rel (RV.err p e)) (he : e ≠ 0) {w w' : World} (hb : But (fun k => k = g) w w') : ValN Rel g s w (FaultN p e) w' := ⟨hb, _, h, .inl ⟨he, rfl⟩⟩
theorem vn_yes {Rel : RV → Prop} {g : Nat} {s : ByteArray} {p n : Nat} {x : Sx} {v : SV} (h : Rel ⟨x, p, n, 0⟩) {w w' : World} (hb : But (fun k => k = g) w w') (hr : RdI (fun k => w.heap.size ≤ k) w' v x) (hX : Box w' g 79 (RdN s p n)) : ValN Rel g s w (.returned v.val) w' := ⟨hb, _, h, .inr ⟨rfl, v, rfl, hr, hX⟩⟩
def begL : List UInt8 := [40, 91, 34, 35, 124]
theorem begL_is : ∀ n : Fin 256, (isIn begL (n.val.toUInt8) || signB (n.val.toUInt8)) = begB (n.val.toUInt8) := by decide +kernel
theorem beg_of (c : UInt8) : (isIn begL c || signB c) = begB c := by have := begL_is ⟨c.toNat, c.toNat_lt⟩; rwa [byte_fin] at this
/-- what a list does from that place on, so deep -/
def ListDoes (g : Nat) (s : ByteArray) (f : Nat) : Prop := ∀ (p m lv : Nat) (w : World), Box w g 79 (RdN s p m) → p ≤ s.size → s.size < p + f → m ≤ 512 → lv ≤ 16 →
  Calls Tryd.prog 57 #[.pointer (some ⟨g, 0, none⟩), .int .i64 lv] w (ValN (Nt s.data.toList (some []) p lv m) g s w)
def ValueDoes (g : Nat) (s : ByteArray) (f : Nat) : Prop := ∀ (p m lv : Nat) (w : World), Box w g 79 (RdN s p m) → p ≤ s.size → s.size < p + f → m ≤ 512 → lv ≤ 17 →
  Calls Tryd.prog 37 #[.pointer (some ⟨g, 0, none⟩), .int .i64 lv] w (ValN (Nt s.data.toList none p lv m) g s w)

set_option maxHeartbeats 32000000 in
set_option maxRecDepth 100000 in
theorem valueN_of (g : Nat) (s : ByteArray) (f : Nat) (hs : s.size ≤ 100000) (hd : ListDoes g s f) (p m lv : Nat) (w : World) (hX : Box w g 79 (RdN s p m)) (hp : p ≤ s.size) (hf : s.size < p + (f + 1)) (hm : m ≤ 512) (hlv : lv ≤ 17) :
    Calls Tryd.prog 37 #[.pointer (some ⟨g, 0, none⟩), .int .i64 lv] w (ValN (Nt s.data.toList none p lv m) g s w) := by
  have HL : Hid (s.data.toList.length = s.size) := Lib.hid (by simp)
  have HD := Lib.hid hd
  have hgw := hX.lt
  have B0 : Below w.heap.size w (w.alloc (.cells #[.bool false, .bool false, .slice none 0 0, .slice none 0 0, .slice none 0 0] 27)) := (Below.refl _ _).alloc (Nat.le_refl _) _
  have R := Lib.hid (Box.new w 27 #[.bool false, .bool false, .slice none 0 0, .slice none 0 0, .slice none 0 0])
  have X := Lib.hid (hX.after B0)
  have U : Hid (But (fun k => k = g) w (w.alloc (.cells #[.bool false, .bool false, .slice none 0 0, .slice none 0 0, .slice none 0 0] 27))) := Lib.hid (But.ofBelow B0)
  have hz : w.heap.size < ((w.alloc (.cells #[.bool false, .bool false, .slice none 0 0, .slice none 0 0, .slice none 0 0] 27))).heap.size := R.out.lt
  obtain ⟨q, hq⟩ : ∃ q, q = skipN s.data.toList p := ⟨_, rfl⟩
  have HQ := Lib.hid hq
  have hsk := skipN_le (l := s.data.toList) (p := p) (by rw [HL.out]; exact hp)
  rw [HL.out, ← hq] at hsk
  clear hX hd hq B0
  go_enter Tryd.func37, Tryd.ntmps37
  go_upto_region 1 with fail
  change Code.wp _ _ _ _ (w.alloc (.cells #[.bool false, .bool false, .slice none 0 0, .slice none 0 0, .slice none 0 0] 27))
  generalize (w.alloc (.cells #[.bool false, .bool false, .slice none 0 0, .slice none 0 0, .slice none 0 0] 27)) = u0 at *
  go_wp2_with fail
  refine (skipN_any g s p m u0 X.out (by omega) hp).mono ?_
  rintro e w1 ⟨rfl, X1, b1⟩
  rw [← HQ.out] at X1
  replace R := Lib.hid (b1.box R.out (by omega))
  replace U := Lib.hid (U.out.trans b1 (fun k hk => .inl hk))
  replace X := Lib.hid X1
  have hz1 := b1.size
  clear X1 b1
  go_wp2_with fail
  refine (peek_any g s q m w1 X.out (by omega)).mono ?_
  rintro e w2 ⟨b2, ⟨h2, rfl⟩ | ⟨h2, rfl⟩⟩
  · unfold FaultN
    go_wp2_with fail
    exact ⟨rfl, vn_no (by rw [show s.size = s.data.toList.length from HL.out.symm]; exact Nt.short (by rw [HL.out, ← HQ.out]; exact h2)) (by decide) (U.out.trans (But.ofBelow (S := fun _ => False) b2) (fun _ h => h.elim))⟩
  obtain ⟨x, hx⟩ : ∃ x, x = s.data.toList.getD q 0 := ⟨_, rfl⟩
  rw [← hx]
  have HXC : Hid (s.data.toList.getD (skipN s.data.toList p) 0 = x) := Lib.hid (by rw [← HQ.out, hx])
  have HQL : Hid (skipN s.data.toList p < s.data.toList.length) := Lib.hid (by rw [← HQ.out, HL.out]; exact h2)
  replace R := Lib.hid (R.out.after b2)
  replace X := Lib.hid (X.out.after b2)
  replace U := Lib.hid (U.out.trans (But.ofBelow (S := fun _ => False) b2) (fun _ h => h.elim))
  have hz2 := b2.size
  clear b2 hx
  have x1 := X.out.cell 1 rfl
  have f1 := X.out.frozen 1
  have x2 := X.out.cell 2 rfl
  have f2 := X.out.frozen 2
  have hq6 : (q : Int) ≤ 1000000 := by omega
  have hm6 : (m : Int) ≤ 512 := by omega
  have HB1 := Lib.hid (beg_of x)
  have hx255 := x.toNat_lt
  go_wp2_with fail
  refine (is_any ⟨begL.toArray⟩ x _).mono ?_
  rintro e w9 ⟨rfl, rfl⟩
  have hbl : (ByteArray.mk begL.toArray).data.toList = begL := by simp
  rw [hbl]
  clear hbl
  cases hbl : isIn begL x with
  | true =>
    have HBG : Hid (begB x = true) := Lib.hid (by rw [← HB1.out, hbl]; rfl)
    clear hbl HB1
    have X3 : Box (w9.setCell ⟨g, 2, none⟩ (.int .i64 ((m : Int) + 1))) g 79 (RdN s q (m + 1)) := X.out.set 2 _
    have b3 : But (fun k => k = g) w9 (w9.setCell ⟨g, 2, none⟩ (.int .i64 ((m : Int) + 1))) := (But.refl (fun k => k = g) w9).setCell (p := ⟨g, 2, none⟩) (.inl rfl) _
    go_upto_region 6 with fail
    change Code.wp _ _ _ _ (w9.setCell ⟨g, 2, none⟩ (.int .i64 ((m : Int) + 1)))
    generalize (w9.setCell ⟨g, 2, none⟩ (.int .i64 ((m : Int) + 1))) = w3 at *
    replace R := Lib.hid (b3.box R.out (by omega))
    replace U := Lib.hid (U.out.trans b3 (fun k hk => .inl hk))
    replace X := Lib.hid X3
    have hz3 := b3.size
    clear X3 b3 x1 f1 x2 f2
    have x1 := X.out.cell 1 rfl
    have f1 := X.out.frozen 1
    have x2 := X.out.cell 2 rfl
    by_cases hm : 512 < m + 1
    · have hm' : (512 : Int) < (m : Int) + 1 := by omega
      have HE : Hid (Nt s.data.toList none p lv m (RV.err q 4)) := Lib.hid (by rw [HQ.out]; exact Nt.long HQL.out (by rw [HXC.out]; exact HBG.out) (.inl hm))
      clear hm
      go_wp2_with fail
      refine (wrong_any q 4 _).mono ?_
      rintro e w8 ⟨rfl, rfl⟩
      unfold FaultN
      go_wp2_with fail
      exact ⟨rfl, vn_no HE.out (by decide) U.out⟩
    have hm' : ¬ (512 : Int) < (m : Int) + 1 := by omega
    by_cases h40 : x = 40
    · obtain ⟨e1, e2, e3⟩ := bEq (a := x) 40 40 rfl (by rw [h40]; rfl)
      by_cases hlv : 16 < lv
      · have hlv' : (16 : Int) < lv := by omega
        have HE : Hid (Nt s.data.toList none p lv m (RV.err q 4)) := Lib.hid (by rw [HQ.out]; exact Nt.long HQL.out (by rw [HXC.out]; exact HBG.out) (.inr ⟨by rw [HXC.out]; exact h40, hlv⟩))
        clear hlv h40 e3
        go_wp2_with fail
        refine (wrong_any q 4 _).mono ?_
        rintro e w8 ⟨rfl, rfl⟩
        unfold FaultN
        go_wp2_with fail
        exact ⟨rfl, vn_no HE.out (by decide) U.out⟩
      · have hlv' : ¬ (16 : Int) < lv := by omega
        have HLI : Hid (∀ r, Nt s.data.toList (some []) (q + 1) lv (m + 1) r → Nt s.data.toList none p lv m r) := Lib.hid (fun r hr => Nt.list HQL.out (by rw [HXC.out]; exact h40) (by omega) (by omega) (by rw [← HQ.out]; exact hr))
        clear h40 e3
        go_upto_region 11 with fail
        have X4 : Box (w3.setCell ⟨g, 1, none⟩ (.int .i64 ((q : Int) + 1))) g 79 (RdN s (q + 1) (m + 1)) := X.out.set 1 _
        have b4 : But (fun k => k = g) w3 (w3.setCell ⟨g, 1, none⟩ (.int .i64 ((q : Int) + 1))) := (But.refl (fun k => k = g) w3).setCell (p := ⟨g, 1, none⟩) (.inl rfl) _
        change Code.wp _ _ _ _ (w3.setCell ⟨g, 1, none⟩ (.int .i64 ((q : Int) + 1)))
        generalize (w3.setCell ⟨g, 1, none⟩ (.int .i64 ((q : Int) + 1))) = w4 at *
        replace R := Lib.hid (b4.box R.out (by omega))
        replace U := Lib.hid (U.out.trans b4 (fun k hk => .inl hk))
        replace X := Lib.hid X4
        have hz4 := b4.size
        clear X4 b4 x1 f1 x2
        go_wp2_with fail
        refine (HD.out (q + 1) (m + 1) lv w4 X.out (by omega) (by omega) (by omega) (by omega)).mono ?_
        rintro e w5 ⟨b5, r, hr, ⟨h5, rfl⟩ | ⟨h5, v, rfl, rd, X5⟩⟩
        · have HR := Lib.hid (HLI.out r hr)
          replace U := Lib.hid (U.out.trans b5 (fun k hk => .inl hk))
          have H5 := Lib.hid h5
          clear hr h5 b5
          unfold FaultN
          go_wp2_with fail
          exact ⟨rfl, U.out, r, HR.out, .inl ⟨H5.out, rfl⟩⟩
        · have HR := Lib.hid (HLI.out r hr)
          replace U := Lib.hid (U.out.trans b5 (fun k hk => .inl hk))
          replace R := Lib.hid (b5.box R.out (by omega))
          replace X := Lib.hid X5
          have RD := Lib.hid rd
          have H5 := Lib.hid h5
          have hz5 := b5.size
          clear hr h5 b5 X5 rd
          obtain ⟨vl, vh, a1, n1, c1, a2, n2, c2, a3, n3, c3⟩ := v
          unfold SV.val
          go_wp2_with (refine wpList_store_box (cells := #[.bool vl, .bool vh, .slice a1 n1 c1, .slice a2 n2 c2, .slice a3 n3 c3]) rfl 27 _ _ rfl R.out (by rfl) (by rfl) rfl (by kernel_rfl) (by simp [Value.oneCell']) ?_; intro u9 X9 st9)
          have b9 : But (fun k => k = w.heap.size) w5 u9 := But.ofStored st9 (st9.below 0 w5 (Nat.zero_le _) (Below.refl _ _))
          exact bodyPost_ret (v := .agg #[.bool vl, .bool vh, .slice a1 n1 c1, .slice a2 n2 c2, .slice a3 n3 c3]) (box_result rfl _ _ (by rfl) X9 Tryd.underlying27 rfl (by kernel_rfl)) rfl ⟨U.out.trans b9 (fun k hk => .inr (by omega)), r, HR.out, .inr ⟨H5.out, ⟨vl, vh, a1, n1, c1, a2, n2, c2, a3, n3, c3⟩, rfl, (RD.out.but b9 (fun k hk e => by omega)).mono (fun k hk => by omega), b9.box X.out (by omega)⟩⟩
    obtain ⟨e1, e2, e3⟩ := bNe (a := x) 40 40 rfl (fun e => h40 (by rw [← UInt8.toNat_inj]; exact e))
    have H40 := Lib.hid h40
    clear h40 e3
    by_cases h91 : x = 91
    · obtain ⟨e4, e5, e6⟩ := bEq (a := x) 91 91 rfl (by rw [h91]; rfl)
      obtain ⟨N, hN⟩ : ∃ N, N = nHint s.data.toList (q + 1) (m + 1) := ⟨_, rfl⟩
      have HN : Hid (Nt s.data.toList none p lv m N) := Lib.hid (by rw [hN, HQ.out]; exact Nt.hint HQL.out (by rw [HXC.out]; exact h91) (by omega))
      have HNE := Lib.hid hN
      clear h91 e6 hN
      go_upto_region 14 with fail
      have X4 : Box (w3.setCell ⟨g, 1, none⟩ (.int .i64 ((q : Int) + 1))) g 79 (RdN s (q + 1) (m + 1)) := X.out.set 1 _
      have b4 : But (fun k => k = g) w3 (w3.setCell ⟨g, 1, none⟩ (.int .i64 ((q : Int) + 1))) := (But.refl (fun k => k = g) w3).setCell (p := ⟨g, 1, none⟩) (.inl rfl) _
      change Code.wp _ _ _ _ (w3.setCell ⟨g, 1, none⟩ (.int .i64 ((q : Int) + 1)))
      generalize (w3.setCell ⟨g, 1, none⟩ (.int .i64 ((q : Int) + 1))) = w4 at *
      replace R := Lib.hid (b4.box R.out (by omega))
      replace U := Lib.hid (U.out.trans b4 (fun k hk => .inl hk))
      replace X := Lib.hid X4
      have hz4 := b4.size
      clear X4 b4 x1 f1 x2
      go_wp2_with fail
      refine (skipN_any g s (q + 1) (m + 1) w4 X.out (by omega) (by omega)).mono ?_
      rintro e w5 ⟨rfl, X5, b5⟩
      obtain ⟨q1, hq1⟩ : ∃ q1, q1 = skipN s.data.toList (q + 1) := ⟨_, rfl⟩
      have hk1 := skipN_le (l := s.data.toList) (p := q + 1) (by rw [HL.out]; omega)
      rw [HL.out, ← hq1] at hk1
      rw [← hq1] at X5
      replace R := Lib.hid (b5.box R.out (by omega))
      replace U := Lib.hid (U.out.trans b5 (fun k hk => .inl hk))
      replace X := Lib.hid X5
      have hz5 := b5.size
      have HQ1 := Lib.hid hq1
      clear X5 b5 hq1
      go_wp2_with fail
      refine (plainN_any g s q1 (m + 1) w5 X.out hs (by omega)).mono ?_
      rintro e w6 ⟨b6, ⟨h6, rfl⟩ | ⟨h6, a1, n1, c1, rfl, s6, i6, X6⟩⟩
      · replace U := Lib.hid (U.out.trans b6 (fun k hk => .inl hk))
        have HE : Hid (N = RV.err (nPlain s.data.toList q1).p (nPlain s.data.toList q1).e) := Lib.hid (by rw [HNE.out]; unfold nHint; dsimp only; rw [← HQ1.out, if_pos h6])
        have H6 := Lib.hid h6
        clear b6 h6
        unfold FaultN
        go_wp2_with fail
        exact ⟨rfl, vn_no (by rw [← HE.out]; exact HN.out) H6.out U.out⟩
      have hp6 := nPlain_place h6
      rw [HL.out] at hp6
      have HNF : Hid (N = if s.data.toList.length ≤ skipN s.data.toList (nPlain s.data.toList q1).p then RV.err s.data.toList.length 2 else if s.data.toList.getD (skipN s.data.toList (nPlain s.data.toList q1).p) 0 ≠ 93 then RV.err (skipN s.data.toList (nPlain s.data.toList q1).p) 3 else
          let d := nPlain s.data.toList (skipN s.data.toList (skipN s.data.toList (nPlain s.data.toList q1).p + 1))
          if d.e ≠ 0 then RV.err d.p d.e else ⟨.mk false true (nPlain s.data.toList q1).b d.b [], d.p, m + 1, 0⟩) := Lib.hid (by rw [HNE.out]; unfold nHint; dsimp only; rw [← HQ1.out, if_neg (by rw [h6]; simp)])
      obtain ⟨hb, hhb⟩ : ∃ hb, hb = (nPlain s.data.toList q1).b := ⟨_, rfl⟩
      obtain ⟨q2, hq2⟩ : ∃ q2, q2 = (nPlain s.data.toList q1).p := ⟨_, rfl⟩
      rw [← hq2, ← hhb] at HNF
      rw [← hhb] at s6
      rw [← hq2] at X6 hp6
      replace R := Lib.hid (b6.box R.out (by omega))
      replace U := Lib.hid (U.out.trans b6 (fun k hk => .inl hk))
      replace X := Lib.hid X6
      have S1 := Lib.hid s6
      have I1 := Lib.hid (i6.mono (fun k hk => show w.heap.size < k by omega))
      have hz6 := b6.size
      clear b6 h6 s6 i6 X6 HNE hhb hq2
      go_upto_region 16 with (refine wpList_store_box (cells := #[.bool false, .bool true, .slice a1 n1 c1, .slice none 0 0, .slice none 0 0]) rfl 27 _ _ rfl (Box.new _ _ _) (by rfl) (by rfl) rfl (by kernel_rfl) (by simp [Value.oneCell']) ?_; intro u7 V7 st7)
      have b7 : Below w6.heap.size w6 u7 := st7.below w6.heap.size w6 (Nat.le_refl _) ((Below.refl _ _).alloc (Nat.le_refl _) _)
      replace R := Lib.hid (R.out.after b7)
      replace X := Lib.hid (X.out.after b7)
      replace U := Lib.hid (U.out.trans (But.ofBelow (S := fun _ => False) b7) (fun _ h => h.elim))
      have S2 := Lib.hid (S1.out.after b7)
      have V := Lib.hid V7
      have hz7 := V7.lt
      have hvl : w.heap.size < w6.heap.size := by omega
      have HI1 : Hid (InB (fun k => w.heap.size < k ∧ k < w6.heap.size) a1 n1) := Lib.hid (S1.out.inB.elim (fun h => .inl h) (fun h => I1.out.elim (fun h' => .inl h') (fun h' => .inr fun b o s e => ⟨h' b o s e, h b o s e⟩)))
      clear b7 st7 V7 S1 I1
      generalize w6.heap.size = vb at *
      go_wp2_with fail
      refine (skipN_any g s q2 (m + 1) u7 X.out (by omega) (by omega)).mono ?_
      rintro e w8 ⟨rfl, X8, b8⟩
      obtain ⟨q3, hq3⟩ : ∃ q3, q3 = skipN s.data.toList q2 := ⟨_, rfl⟩
      have hk3 := skipN_le (l := s.data.toList) (p := q2) (by rw [HL.out]; omega)
      rw [HL.out, ← hq3] at hk3
      rw [← hq3] at X8 HNF
      replace R := Lib.hid (b8.box R.out (by omega))
      replace V := Lib.hid (b8.box V.out (by omega))
      replace S2 := Lib.hid (S2.out.but b8 HI1.out (fun k hk e => by omega))
      replace U := Lib.hid (U.out.trans b8 (fun k hk => .inl hk))
      replace X := Lib.hid X8
      have hz8 := b8.size
      clear X8 b8 hq3
      go_wp2_with fail
      refine (signN_any g s q3 (m + 1) 93 w8 X.out (by omega)).mono ?_
      rintro e w10 ⟨b10, ⟨h10, rfl⟩ | ⟨h10, k10, rfl⟩ | ⟨h10, k10, rfl, X10⟩⟩
      · replace U := Lib.hid (U.out.trans b10 (fun k hk => .inl hk))
        have HE : Hid (N = RV.err s.size 2) := Lib.hid (by rw [HNF.out, if_pos (by rw [HL.out]; exact h10), HL.out])
        clear b10
        unfold FaultN
        go_wp2_with fail
        exact ⟨rfl, vn_no (by rw [← HE.out]; exact HN.out) (by decide) U.out⟩
      · replace U := Lib.hid (U.out.trans b10 (fun k hk => .inl hk))
        have HE : Hid (N = RV.err q3 3) := Lib.hid (by rw [HNF.out, if_neg (by rw [HL.out]; omega), if_pos k10])
        clear b10 k10
        unfold FaultN
        go_wp2_with fail
        exact ⟨rfl, vn_no (by rw [← HE.out]; exact HN.out) (by decide) U.out⟩
      replace HNF := Lib.hid (HNF.out.trans (by rw [if_neg (by rw [HL.out]; omega), if_neg (by rw [k10]; simp)]))
      replace R := Lib.hid (b10.box R.out (by omega))
      replace V := Lib.hid (b10.box V.out (by omega))
      replace S2 := Lib.hid (S2.out.but b10 HI1.out (fun k hk e => by omega))
      replace U := Lib.hid (U.out.trans b10 (fun k hk => .inl hk))
      replace X := Lib.hid X10
      have hz10 := b10.size
      clear X10 b10 k10
      go_wp2_with fail
      refine (skipN_any g s (q3 + 1) (m + 1) w10 X.out (by omega) (by omega)).mono ?_
      rintro e w11 ⟨rfl, X11, b11⟩
      obtain ⟨q4, hq4⟩ : ∃ q4, q4 = skipN s.data.toList (q3 + 1) := ⟨_, rfl⟩
      have hk4 := skipN_le (l := s.data.toList) (p := q3 + 1) (by rw [HL.out]; omega)
      rw [HL.out, ← hq4] at hk4
      rw [← hq4] at X11 HNF
      replace R := Lib.hid (b11.box R.out (by omega))
      replace V := Lib.hid (b11.box V.out (by omega))
      replace S2 := Lib.hid (S2.out.but b11 HI1.out (fun k hk e => by omega))
      replace U := Lib.hid (U.out.trans b11 (fun k hk => .inl hk))
      replace X := Lib.hid X11
      have hz11 := b11.size
      clear X11 b11 hq4
      go_wp2_with fail
      refine (plainN_any g s q4 (m + 1) w11 X.out hs (by omega)).mono ?_
      rintro e w12 ⟨b12, ⟨h12, rfl⟩ | ⟨h12, a2, n2, c2, rfl, s12, i12, X12⟩⟩
      · replace U := Lib.hid (U.out.trans b12 (fun k hk => .inl hk))
        have HE : Hid (N = RV.err (nPlain s.data.toList q4).p (nPlain s.data.toList q4).e) := Lib.hid (by rw [HNF.out, if_pos h12])
        have H12 := Lib.hid h12
        clear b12 h12
        unfold FaultN
        go_wp2_with fail
        exact ⟨rfl, vn_no (by rw [← HE.out]; exact HN.out) H12.out U.out⟩
      have HE : Hid (N = ⟨.mk false true hb (nPlain s.data.toList q4).b [], (nPlain s.data.toList q4).p, m + 1, 0⟩) := Lib.hid (by rw [HNF.out, if_neg (by rw [h12]; simp)])
      replace R := Lib.hid (b12.box R.out (by omega))
      replace V := Lib.hid (b12.box V.out (by omega))
      replace S2 := Lib.hid (S2.out.but b12 HI1.out (fun k hk e => by omega))
      replace U := Lib.hid (U.out.trans b12 (fun k hk => .inl hk))
      replace X := Lib.hid X12
      have S3 := Lib.hid s12
      have I3 := Lib.hid (i12.mono (fun k hk => show vb < k by omega))
      have hz12 := b12.size
      clear b12 h12 s12 i12 X12 HNF
      have v3 := V.out.cell 3 rfl
      have fv3 := V.out.frozen 3
      go_upto_region 20 with fail
      have b13 : But (fun k => k = vb) w12 (w12.setCell ⟨vb, 3, none⟩ (.slice a2 n2 c2)) := (But.refl (fun k => k = vb) w12).setCell (p := ⟨vb, 3, none⟩) (.inl rfl) _
      have V13 : Box (w12.setCell ⟨vb, 3, none⟩ (.slice a2 n2 c2)) vb 27 #[.bool false, .bool true, .slice a1 n1 c1, .slice a2 n2 c2, .slice none 0 0] := V.out.set 3 _
      change Code.wp _ _ _ _ (w12.setCell ⟨vb, 3, none⟩ (.slice a2 n2 c2))
      generalize (w12.setCell ⟨vb, 3, none⟩ (.slice a2 n2 c2)) = w13 at *
      replace R := Lib.hid (b13.box R.out (by omega))
      replace V := Lib.hid V13
      replace X := Lib.hid (b13.box X.out (by omega))
      replace S2 := Lib.hid (S2.out.but b13 HI1.out (fun k hk e => by omega))
      replace S3 := Lib.hid (S3.out.but b13 I3.out (fun k hk e => by omega))
      replace U := Lib.hid (U.out.trans b13 (fun k hk => .inr (by omega)))
      clear v3 fv3 b13 V13
      go_wp2_with first | (refine wpList_load_box rfl 27 _ rfl V.out (by rfl) Tryd.underlying27 rfl (by kernel_rfl) ?_) | (refine wpList_store_box (cells := #[.bool false, .bool true, .slice a1 n1 c1, .slice a2 n2 c2, .slice none 0 0]) rfl 27 _ _ rfl R.out (by rfl) (by rfl) rfl (by kernel_rfl) (by simp [Value.oneCell']) ?_; intro u14 X14 st14)
      have b14 : But (fun k => k = w.heap.size) w13 u14 := But.ofStored st14 (st14.below 0 w13 (Nat.zero_le _) (Below.refl _ _))
      exact bodyPost_ret (v := .agg #[.bool false, .bool true, .slice a1 n1 c1, .slice a2 n2 c2, .slice none 0 0]) (box_result rfl _ _ (by rfl) X14 Tryd.underlying27 rfl (by kernel_rfl)) rfl (vn_yes (v := ⟨false, true, a1, n1, c1, a2, n2, c2, none, 0, 0⟩) (by rw [← HE.out]; exact HN.out) (U.out.trans b14 (fun k hk => .inr (by omega)))
        (rd_hint (S2.out.but b14 HI1.out (fun k hk e => by omega)) (S3.out.but b14 I3.out (fun k hk e => by omega)) (HI1.out.mono (fun k hk => by omega)) (I3.out.mono (fun k hk => by omega))) (b14.box X.out (by omega)))
    · obtain ⟨e4, e5, e6⟩ := bNe (a := x) 91 91 rfl (fun e => h91 (by rw [← UInt8.toNat_inj]; exact e))
      obtain ⟨N, hN⟩ : ∃ N, N = nAtom s.data.toList q (m + 1) := ⟨_, rfl⟩
      have HN : Hid (Nt s.data.toList none p lv m N) := Lib.hid (by rw [hN, HQ.out]; exact Nt.atom HQL.out (by rw [HXC.out]; exact HBG.out) (by rw [HXC.out]; exact H40.out) (by rw [HXC.out]; exact h91) (by omega))
      have HNE := Lib.hid hN
      clear h91 e6 hN
      go_wp2_with fail
      refine (plainN_any g s q (m + 1) w3 X.out hs (by omega)).mono ?_
      rintro e w6 ⟨b6, ⟨h6, rfl⟩ | ⟨h6, a1, n1, c1, rfl, s6, i6, X6⟩⟩
      · replace U := Lib.hid (U.out.trans b6 (fun k hk => .inl hk))
        have HE : Hid (N = RV.err (nPlain s.data.toList q).p (nPlain s.data.toList q).e) := Lib.hid (by rw [HNE.out]; unfold nAtom; dsimp only; rw [if_pos h6])
        have H6 := Lib.hid h6
        clear b6 h6
        unfold FaultN
        go_wp2_with fail
        exact ⟨rfl, vn_no (by rw [← HE.out]; exact HN.out) H6.out U.out⟩
      have HE : Hid (N = ⟨.mk false false [] (nPlain s.data.toList q).b [], (nPlain s.data.toList q).p, m + 1, 0⟩) := Lib.hid (by rw [HNE.out]; unfold nAtom; dsimp only; rw [if_neg (by rw [h6]; simp)])
      replace R := Lib.hid (b6.box R.out (by omega))
      replace U := Lib.hid (U.out.trans b6 (fun k hk => .inl hk))
      replace X := Lib.hid X6
      have S1 := Lib.hid s6
      have I1 := Lib.hid (i6.mono (fun k hk => show w.heap.size < k by omega))
      clear b6 h6 s6 i6 X6 HNE
      go_wp2_with (refine wpList_store_box (cells := #[.bool false, .bool false, .slice none 0 0, .slice a1 n1 c1, .slice none 0 0]) rfl 27 _ _ rfl R.out (by rfl) (by rfl) rfl (by kernel_rfl) (by simp [Value.oneCell']) ?_; intro u14 X14 st14)
      have b14 : But (fun k => k = w.heap.size) w6 u14 := But.ofStored st14 (st14.below 0 w6 (Nat.zero_le _) (Below.refl _ _))
      exact bodyPost_ret (v := .agg #[.bool false, .bool false, .slice none 0 0, .slice a1 n1 c1, .slice none 0 0]) (box_result rfl _ _ (by rfl) X14 Tryd.underlying27 rfl (by kernel_rfl)) rfl (vn_yes (v := ⟨false, false, none, 0, 0, a1, n1, c1, none, 0, 0⟩) (by rw [← HE.out]; exact HN.out) (U.out.trans b14 (fun k hk => .inr (by omega)))
        (rd_atomI (S1.out.but b14 I1.out (fun k hk e => by omega)) (I1.out.mono (fun k hk => by omega))) (b14.box X.out (by omega)))
  | false =>
    rw [hbl] at HB1
    clear hbl
    go_wp2_with fail
    refine (is_any ⟨signL.toArray⟩ x _).mono ?_
    rintro e w8 ⟨rfl, rfl⟩
    rw [goodS]
    cases hsg : signB x with
    | false =>
      have HBG : Hid (begB x = false) := Lib.hid (by rw [← HB1.out, hsg]; rfl)
      clear hsg HB1
      go_wp2_with fail
      refine (wrong_any q 3 _).mono ?_
      rintro e w8 ⟨rfl, rfl⟩
      unfold FaultN
      go_wp2_with fail
      exact ⟨rfl, vn_no (by rw [HQ.out]; exact Nt.bad HQL.out (by rw [HXC.out]; exact HBG.out)) (by decide) U.out⟩
    | true =>
      have HBG : Hid (begB x = true) := Lib.hid (by rw [← HB1.out, hsg]; rfl)
      clear hsg HB1
      have X3 : Box (w8.setCell ⟨g, 2, none⟩ (.int .i64 ((m : Int) + 1))) g 79 (RdN s q (m + 1)) := X.out.set 2 _
      have b3 : But (fun k => k = g) w8 (w8.setCell ⟨g, 2, none⟩ (.int .i64 ((m : Int) + 1))) := (But.refl (fun k => k = g) w8).setCell (p := ⟨g, 2, none⟩) (.inl rfl) _
      go_upto_region 6 with fail
      change Code.wp _ _ _ _ (w8.setCell ⟨g, 2, none⟩ (.int .i64 ((m : Int) + 1)))
      generalize (w8.setCell ⟨g, 2, none⟩ (.int .i64 ((m : Int) + 1))) = w3 at *
      replace R := Lib.hid (b3.box R.out (by omega))
      replace U := Lib.hid (U.out.trans b3 (fun k hk => .inl hk))
      replace X := Lib.hid X3
      have hz3 := b3.size
      clear X3 b3 x1 f1 x2 f2
      have x1 := X.out.cell 1 rfl
      have f1 := X.out.frozen 1
      have x2 := X.out.cell 2 rfl
      by_cases hm : 512 < m + 1
      · have hm' : (512 : Int) < (m : Int) + 1 := by omega
        have HE : Hid (Nt s.data.toList none p lv m (RV.err q 4)) := Lib.hid (by rw [HQ.out]; exact Nt.long HQL.out (by rw [HXC.out]; exact HBG.out) (.inl hm))
        clear hm
        go_wp2_with fail
        refine (wrong_any q 4 _).mono ?_
        rintro e w8 ⟨rfl, rfl⟩
        unfold FaultN
        go_wp2_with fail
        exact ⟨rfl, vn_no HE.out (by decide) U.out⟩
      have hm' : ¬ (512 : Int) < (m : Int) + 1 := by omega
      by_cases h40 : x = 40
      · obtain ⟨e1, e2, e3⟩ := bEq (a := x) 40 40 rfl (by rw [h40]; rfl)
        by_cases hlv : 16 < lv
        · have hlv' : (16 : Int) < lv := by omega
          have HE : Hid (Nt s.data.toList none p lv m (RV.err q 4)) := Lib.hid (by rw [HQ.out]; exact Nt.long HQL.out (by rw [HXC.out]; exact HBG.out) (.inr ⟨by rw [HXC.out]; exact h40, hlv⟩))
          clear hlv h40 e3
          go_wp2_with fail
          refine (wrong_any q 4 _).mono ?_
          rintro e w8 ⟨rfl, rfl⟩
          unfold FaultN
          go_wp2_with fail
          exact ⟨rfl, vn_no HE.out (by decide) U.out⟩
        · have hlv' : ¬ (16 : Int) < lv := by omega
          have HLI : Hid (∀ r, Nt s.data.toList (some []) (q + 1) lv (m + 1) r → Nt s.data.toList none p lv m r) := Lib.hid (fun r hr => Nt.list HQL.out (by rw [HXC.out]; exact h40) (by omega) (by omega) (by rw [← HQ.out]; exact hr))
          clear h40 e3
          go_upto_region 11 with fail
          have X4 : Box (w3.setCell ⟨g, 1, none⟩ (.int .i64 ((q : Int) + 1))) g 79 (RdN s (q + 1) (m + 1)) := X.out.set 1 _
          have b4 : But (fun k => k = g) w3 (w3.setCell ⟨g, 1, none⟩ (.int .i64 ((q : Int) + 1))) := (But.refl (fun k => k = g) w3).setCell (p := ⟨g, 1, none⟩) (.inl rfl) _
          change Code.wp _ _ _ _ (w3.setCell ⟨g, 1, none⟩ (.int .i64 ((q : Int) + 1)))
          generalize (w3.setCell ⟨g, 1, none⟩ (.int .i64 ((q : Int) + 1))) = w4 at *
          replace R := Lib.hid (b4.box R.out (by omega))
          replace U := Lib.hid (U.out.trans b4 (fun k hk => .inl hk))
          replace X := Lib.hid X4
          have hz4 := b4.size
          clear X4 b4 x1 f1 x2
          go_wp2_with fail
          refine (HD.out (q + 1) (m + 1) lv w4 X.out (by omega) (by omega) (by omega) (by omega)).mono ?_
          rintro e w5 ⟨b5, r, hr, ⟨h5, rfl⟩ | ⟨h5, v, rfl, rd, X5⟩⟩
          · have HR := Lib.hid (HLI.out r hr)
            replace U := Lib.hid (U.out.trans b5 (fun k hk => .inl hk))
            have H5 := Lib.hid h5
            clear hr h5 b5
            unfold FaultN
            go_wp2_with fail
            exact ⟨rfl, U.out, r, HR.out, .inl ⟨H5.out, rfl⟩⟩
          · have HR := Lib.hid (HLI.out r hr)
            replace U := Lib.hid (U.out.trans b5 (fun k hk => .inl hk))
            replace R := Lib.hid (b5.box R.out (by omega))
            replace X := Lib.hid X5
            have RD := Lib.hid rd
            have H5 := Lib.hid h5
            have hz5 := b5.size
            clear hr h5 b5 X5 rd
            obtain ⟨vl, vh, a1, n1, c1, a2, n2, c2, a3, n3, c3⟩ := v
            unfold SV.val
            go_wp2_with (refine wpList_store_box (cells := #[.bool vl, .bool vh, .slice a1 n1 c1, .slice a2 n2 c2, .slice a3 n3 c3]) rfl 27 _ _ rfl R.out (by rfl) (by rfl) rfl (by kernel_rfl) (by simp [Value.oneCell']) ?_; intro u9 X9 st9)
            have b9 : But (fun k => k = w.heap.size) w5 u9 := But.ofStored st9 (st9.below 0 w5 (Nat.zero_le _) (Below.refl _ _))
            exact bodyPost_ret (v := .agg #[.bool vl, .bool vh, .slice a1 n1 c1, .slice a2 n2 c2, .slice a3 n3 c3]) (box_result rfl _ _ (by rfl) X9 Tryd.underlying27 rfl (by kernel_rfl)) rfl ⟨U.out.trans b9 (fun k hk => .inr (by omega)), r, HR.out, .inr ⟨H5.out, ⟨vl, vh, a1, n1, c1, a2, n2, c2, a3, n3, c3⟩, rfl, (RD.out.but b9 (fun k hk e => by omega)).mono (fun k hk => by omega), b9.box X.out (by omega)⟩⟩
      obtain ⟨e1, e2, e3⟩ := bNe (a := x) 40 40 rfl (fun e => h40 (by rw [← UInt8.toNat_inj]; exact e))
      have H40 := Lib.hid h40
      clear h40 e3
      by_cases h91 : x = 91
      · obtain ⟨e4, e5, e6⟩ := bEq (a := x) 91 91 rfl (by rw [h91]; rfl)
        obtain ⟨N, hN⟩ : ∃ N, N = nHint s.data.toList (q + 1) (m + 1) := ⟨_, rfl⟩
        have HN : Hid (Nt s.data.toList none p lv m N) := Lib.hid (by rw [hN, HQ.out]; exact Nt.hint HQL.out (by rw [HXC.out]; exact h91) (by omega))
        have HNE := Lib.hid hN
        clear h91 e6 hN
        go_upto_region 14 with fail
        have X4 : Box (w3.setCell ⟨g, 1, none⟩ (.int .i64 ((q : Int) + 1))) g 79 (RdN s (q + 1) (m + 1)) := X.out.set 1 _
        have b4 : But (fun k => k = g) w3 (w3.setCell ⟨g, 1, none⟩ (.int .i64 ((q : Int) + 1))) := (But.refl (fun k => k = g) w3).setCell (p := ⟨g, 1, none⟩) (.inl rfl) _
        change Code.wp _ _ _ _ (w3.setCell ⟨g, 1, none⟩ (.int .i64 ((q : Int) + 1)))
        generalize (w3.setCell ⟨g, 1, none⟩ (.int .i64 ((q : Int) + 1))) = w4 at *
        replace R := Lib.hid (b4.box R.out (by omega))
        replace U := Lib.hid (U.out.trans b4 (fun k hk => .inl hk))
        replace X := Lib.hid X4
        have hz4 := b4.size
        clear X4 b4 x1 f1 x2
        go_wp2_with fail
        refine (skipN_any g s (q + 1) (m + 1) w4 X.out (by omega) (by omega)).mono ?_
        rintro e w5 ⟨rfl, X5, b5⟩
        obtain ⟨q1, hq1⟩ : ∃ q1, q1 = skipN s.data.toList (q + 1) := ⟨_, rfl⟩
        have hk1 := skipN_le (l := s.data.toList) (p := q + 1) (by rw [HL.out]; omega)
        rw [HL.out, ← hq1] at hk1
        rw [← hq1] at X5
        replace R := Lib.hid (b5.box R.out (by omega))
        replace U := Lib.hid (U.out.trans b5 (fun k hk => .inl hk))
        replace X := Lib.hid X5
        have hz5 := b5.size
        have HQ1 := Lib.hid hq1
        clear X5 b5 hq1
        go_wp2_with fail
        refine (plainN_any g s q1 (m + 1) w5 X.out hs (by omega)).mono ?_
        rintro e w6 ⟨b6, ⟨h6, rfl⟩ | ⟨h6, a1, n1, c1, rfl, s6, i6, X6⟩⟩
        · replace U := Lib.hid (U.out.trans b6 (fun k hk => .inl hk))
          have HE : Hid (N = RV.err (nPlain s.data.toList q1).p (nPlain s.data.toList q1).e) := Lib.hid (by rw [HNE.out]; unfold nHint; dsimp only; rw [← HQ1.out, if_pos h6])
          have H6 := Lib.hid h6
          clear b6 h6
          unfold FaultN
          go_wp2_with fail
          exact ⟨rfl, vn_no (by rw [← HE.out]; exact HN.out) H6.out U.out⟩
        have hp6 := nPlain_place h6
        rw [HL.out] at hp6
        have HNF : Hid (N = if s.data.toList.length ≤ skipN s.data.toList (nPlain s.data.toList q1).p then RV.err s.data.toList.length 2 else if s.data.toList.getD (skipN s.data.toList (nPlain s.data.toList q1).p) 0 ≠ 93 then RV.err (skipN s.data.toList (nPlain s.data.toList q1).p) 3 else
            let d := nPlain s.data.toList (skipN s.data.toList (skipN s.data.toList (nPlain s.data.toList q1).p + 1))
            if d.e ≠ 0 then RV.err d.p d.e else ⟨.mk false true (nPlain s.data.toList q1).b d.b [], d.p, m + 1, 0⟩) := Lib.hid (by rw [HNE.out]; unfold nHint; dsimp only; rw [← HQ1.out, if_neg (by rw [h6]; simp)])
        obtain ⟨hb, hhb⟩ : ∃ hb, hb = (nPlain s.data.toList q1).b := ⟨_, rfl⟩
        obtain ⟨q2, hq2⟩ : ∃ q2, q2 = (nPlain s.data.toList q1).p := ⟨_, rfl⟩
        rw [← hq2, ← hhb] at HNF
        rw [← hhb] at s6
        rw [← hq2] at X6 hp6
        replace R := Lib.hid (b6.box R.out (by omega))
        replace U := Lib.hid (U.out.trans b6 (fun k hk => .inl hk))
        replace X := Lib.hid X6
        have S1 := Lib.hid s6
        have I1 := Lib.hid (i6.mono (fun k hk => show w.heap.size < k by omega))
        have hz6 := b6.size
        clear b6 h6 s6 i6 X6 HNE hhb hq2
        go_upto_region 16 with (refine wpList_store_box (cells := #[.bool false, .bool true, .slice a1 n1 c1, .slice none 0 0, .slice none 0 0]) rfl 27 _ _ rfl (Box.new _ _ _) (by rfl) (by rfl) rfl (by kernel_rfl) (by simp [Value.oneCell']) ?_; intro u7 V7 st7)
        have b7 : Below w6.heap.size w6 u7 := st7.below w6.heap.size w6 (Nat.le_refl _) ((Below.refl _ _).alloc (Nat.le_refl _) _)
        replace R := Lib.hid (R.out.after b7)
        replace X := Lib.hid (X.out.after b7)
        replace U := Lib.hid (U.out.trans (But.ofBelow (S := fun _ => False) b7) (fun _ h => h.elim))
        have S2 := Lib.hid (S1.out.after b7)
        have V := Lib.hid V7
        have hz7 := V7.lt
        have hvl : w.heap.size < w6.heap.size := by omega
        have HI1 : Hid (InB (fun k => w.heap.size < k ∧ k < w6.heap.size) a1 n1) := Lib.hid (S1.out.inB.elim (fun h => .inl h) (fun h => I1.out.elim (fun h' => .inl h') (fun h' => .inr fun b o s e => ⟨h' b o s e, h b o s e⟩)))
        clear b7 st7 V7 S1 I1
        generalize w6.heap.size = vb at *
        go_wp2_with fail
        refine (skipN_any g s q2 (m + 1) u7 X.out (by omega) (by omega)).mono ?_
        rintro e w8 ⟨rfl, X8, b8⟩
        obtain ⟨q3, hq3⟩ : ∃ q3, q3 = skipN s.data.toList q2 := ⟨_, rfl⟩
        have hk3 := skipN_le (l := s.data.toList) (p := q2) (by rw [HL.out]; omega)
        rw [HL.out, ← hq3] at hk3
        rw [← hq3] at X8 HNF
        replace R := Lib.hid (b8.box R.out (by omega))
        replace V := Lib.hid (b8.box V.out (by omega))
        replace S2 := Lib.hid (S2.out.but b8 HI1.out (fun k hk e => by omega))
        replace U := Lib.hid (U.out.trans b8 (fun k hk => .inl hk))
        replace X := Lib.hid X8
        have hz8 := b8.size
        clear X8 b8 hq3
        go_wp2_with fail
        refine (signN_any g s q3 (m + 1) 93 w8 X.out (by omega)).mono ?_
        rintro e w10 ⟨b10, ⟨h10, rfl⟩ | ⟨h10, k10, rfl⟩ | ⟨h10, k10, rfl, X10⟩⟩
        · replace U := Lib.hid (U.out.trans b10 (fun k hk => .inl hk))
          have HE : Hid (N = RV.err s.size 2) := Lib.hid (by rw [HNF.out, if_pos (by rw [HL.out]; exact h10), HL.out])
          clear b10
          unfold FaultN
          go_wp2_with fail
          exact ⟨rfl, vn_no (by rw [← HE.out]; exact HN.out) (by decide) U.out⟩
        · replace U := Lib.hid (U.out.trans b10 (fun k hk => .inl hk))
          have HE : Hid (N = RV.err q3 3) := Lib.hid (by rw [HNF.out, if_neg (by rw [HL.out]; omega), if_pos k10])
          clear b10 k10
          unfold FaultN
          go_wp2_with fail
          exact ⟨rfl, vn_no (by rw [← HE.out]; exact HN.out) (by decide) U.out⟩
        replace HNF := Lib.hid (HNF.out.trans (by rw [if_neg (by rw [HL.out]; omega), if_neg (by rw [k10]; simp)]))
        replace R := Lib.hid (b10.box R.out (by omega))
        replace V := Lib.hid (b10.box V.out (by omega))
        replace S2 := Lib.hid (S2.out.but b10 HI1.out (fun k hk e => by omega))
        replace U := Lib.hid (U.out.trans b10 (fun k hk => .inl hk))
        replace X := Lib.hid X10
        have hz10 := b10.size
        clear X10 b10 k10
        go_wp2_with fail
        refine (skipN_any g s (q3 + 1) (m + 1) w10 X.out (by omega) (by omega)).mono ?_
        rintro e w11 ⟨rfl, X11, b11⟩
        obtain ⟨q4, hq4⟩ : ∃ q4, q4 = skipN s.data.toList (q3 + 1) := ⟨_, rfl⟩
        have hk4 := skipN_le (l := s.data.toList) (p := q3 + 1) (by rw [HL.out]; omega)
        rw [HL.out, ← hq4] at hk4
        rw [← hq4] at X11 HNF
        replace R := Lib.hid (b11.box R.out (by omega))
        replace V := Lib.hid (b11.box V.out (by omega))
        replace S2 := Lib.hid (S2.out.but b11 HI1.out (fun k hk e => by omega))
        replace U := Lib.hid (U.out.trans b11 (fun k hk => .inl hk))
        replace X := Lib.hid X11
        have hz11 := b11.size
        clear X11 b11 hq4
        go_wp2_with fail
        refine (plainN_any g s q4 (m + 1) w11 X.out hs (by omega)).mono ?_
        rintro e w12 ⟨b12, ⟨h12, rfl⟩ | ⟨h12, a2, n2, c2, rfl, s12, i12, X12⟩⟩
        · replace U := Lib.hid (U.out.trans b12 (fun k hk => .inl hk))
          have HE : Hid (N = RV.err (nPlain s.data.toList q4).p (nPlain s.data.toList q4).e) := Lib.hid (by rw [HNF.out, if_pos h12])
          have H12 := Lib.hid h12
          clear b12 h12
          unfold FaultN
          go_wp2_with fail
          exact ⟨rfl, vn_no (by rw [← HE.out]; exact HN.out) H12.out U.out⟩
        have HE : Hid (N = ⟨.mk false true hb (nPlain s.data.toList q4).b [], (nPlain s.data.toList q4).p, m + 1, 0⟩) := Lib.hid (by rw [HNF.out, if_neg (by rw [h12]; simp)])
        replace R := Lib.hid (b12.box R.out (by omega))
        replace V := Lib.hid (b12.box V.out (by omega))
        replace S2 := Lib.hid (S2.out.but b12 HI1.out (fun k hk e => by omega))
        replace U := Lib.hid (U.out.trans b12 (fun k hk => .inl hk))
        replace X := Lib.hid X12
        have S3 := Lib.hid s12
        have I3 := Lib.hid (i12.mono (fun k hk => show vb < k by omega))
        have hz12 := b12.size
        clear b12 h12 s12 i12 X12 HNF
        have v3 := V.out.cell 3 rfl
        have fv3 := V.out.frozen 3
        go_upto_region 20 with fail
        have b13 : But (fun k => k = vb) w12 (w12.setCell ⟨vb, 3, none⟩ (.slice a2 n2 c2)) := (But.refl (fun k => k = vb) w12).setCell (p := ⟨vb, 3, none⟩) (.inl rfl) _
        have V13 : Box (w12.setCell ⟨vb, 3, none⟩ (.slice a2 n2 c2)) vb 27 #[.bool false, .bool true, .slice a1 n1 c1, .slice a2 n2 c2, .slice none 0 0] := V.out.set 3 _
        change Code.wp _ _ _ _ (w12.setCell ⟨vb, 3, none⟩ (.slice a2 n2 c2))
        generalize (w12.setCell ⟨vb, 3, none⟩ (.slice a2 n2 c2)) = w13 at *
        replace R := Lib.hid (b13.box R.out (by omega))
        replace V := Lib.hid V13
        replace X := Lib.hid (b13.box X.out (by omega))
        replace S2 := Lib.hid (S2.out.but b13 HI1.out (fun k hk e => by omega))
        replace S3 := Lib.hid (S3.out.but b13 I3.out (fun k hk e => by omega))
        replace U := Lib.hid (U.out.trans b13 (fun k hk => .inr (by omega)))
        clear v3 fv3 b13 V13
        go_wp2_with first | (refine wpList_load_box rfl 27 _ rfl V.out (by rfl) Tryd.underlying27 rfl (by kernel_rfl) ?_) | (refine wpList_store_box (cells := #[.bool false, .bool true, .slice a1 n1 c1, .slice a2 n2 c2, .slice none 0 0]) rfl 27 _ _ rfl R.out (by rfl) (by rfl) rfl (by kernel_rfl) (by simp [Value.oneCell']) ?_; intro u14 X14 st14)
        have b14 : But (fun k => k = w.heap.size) w13 u14 := But.ofStored st14 (st14.below 0 w13 (Nat.zero_le _) (Below.refl _ _))
        exact bodyPost_ret (v := .agg #[.bool false, .bool true, .slice a1 n1 c1, .slice a2 n2 c2, .slice none 0 0]) (box_result rfl _ _ (by rfl) X14 Tryd.underlying27 rfl (by kernel_rfl)) rfl (vn_yes (v := ⟨false, true, a1, n1, c1, a2, n2, c2, none, 0, 0⟩) (by rw [← HE.out]; exact HN.out) (U.out.trans b14 (fun k hk => .inr (by omega)))
          (rd_hint (S2.out.but b14 HI1.out (fun k hk e => by omega)) (S3.out.but b14 I3.out (fun k hk e => by omega)) (HI1.out.mono (fun k hk => by omega)) (I3.out.mono (fun k hk => by omega))) (b14.box X.out (by omega)))
      · obtain ⟨e4, e5, e6⟩ := bNe (a := x) 91 91 rfl (fun e => h91 (by rw [← UInt8.toNat_inj]; exact e))
        obtain ⟨N, hN⟩ : ∃ N, N = nAtom s.data.toList q (m + 1) := ⟨_, rfl⟩
        have HN : Hid (Nt s.data.toList none p lv m N) := Lib.hid (by rw [hN, HQ.out]; exact Nt.atom HQL.out (by rw [HXC.out]; exact HBG.out) (by rw [HXC.out]; exact H40.out) (by rw [HXC.out]; exact h91) (by omega))
        have HNE := Lib.hid hN
        clear h91 e6 hN
        go_wp2_with fail
        refine (plainN_any g s q (m + 1) w3 X.out hs (by omega)).mono ?_
        rintro e w6 ⟨b6, ⟨h6, rfl⟩ | ⟨h6, a1, n1, c1, rfl, s6, i6, X6⟩⟩
        · replace U := Lib.hid (U.out.trans b6 (fun k hk => .inl hk))
          have HE : Hid (N = RV.err (nPlain s.data.toList q).p (nPlain s.data.toList q).e) := Lib.hid (by rw [HNE.out]; unfold nAtom; dsimp only; rw [if_pos h6])
          have H6 := Lib.hid h6
          clear b6 h6
          unfold FaultN
          go_wp2_with fail
          exact ⟨rfl, vn_no (by rw [← HE.out]; exact HN.out) H6.out U.out⟩
        have HE : Hid (N = ⟨.mk false false [] (nPlain s.data.toList q).b [], (nPlain s.data.toList q).p, m + 1, 0⟩) := Lib.hid (by rw [HNE.out]; unfold nAtom; dsimp only; rw [if_neg (by rw [h6]; simp)])
        replace R := Lib.hid (b6.box R.out (by omega))
        replace U := Lib.hid (U.out.trans b6 (fun k hk => .inl hk))
        replace X := Lib.hid X6
        have S1 := Lib.hid s6
        have I1 := Lib.hid (i6.mono (fun k hk => show w.heap.size < k by omega))
        clear b6 h6 s6 i6 X6 HNE
        go_wp2_with (refine wpList_store_box (cells := #[.bool false, .bool false, .slice none 0 0, .slice a1 n1 c1, .slice none 0 0]) rfl 27 _ _ rfl R.out (by rfl) (by rfl) rfl (by kernel_rfl) (by simp [Value.oneCell']) ?_; intro u14 X14 st14)
        have b14 : But (fun k => k = w.heap.size) w6 u14 := But.ofStored st14 (st14.below 0 w6 (Nat.zero_le _) (Below.refl _ _))
        exact bodyPost_ret (v := .agg #[.bool false, .bool false, .slice none 0 0, .slice a1 n1 c1, .slice none 0 0]) (box_result rfl _ _ (by rfl) X14 Tryd.underlying27 rfl (by kernel_rfl)) rfl (vn_yes (v := ⟨false, false, none, 0, 0, a1, n1, c1, none, 0, 0⟩) (by rw [← HE.out]; exact HN.out) (U.out.trans b14 (fun k hk => .inr (by omega)))
          (rd_atomI (S1.out.but b14 I1.out (fun k hk e => by omega)) (I1.out.mono (fun k hk => by omega))) (b14.box X.out (by omega)))

end Go.Proofs.YtigopfeamjhdpaaDoor
namespace Go.Proofs.YtigopfeamjhdpaaDoor
open Go.RowKit
set_option linter.unusedSimpArgs false
set_option linter.unusedVariables false

/-- a call that may throw -/
theorem wp_callE {P : Program} {o : Oper} {a : Act} {w : World} {K : Act → World → Prop} {Q : Exit → Act → World → Prop} (f : FuncId) (args : Array Value) (hr : (execOp a.eval o).run P w = .ok (.enter f args) w) (R : Ending → World → Prop) (hc : Calls P f args w R)
    (h : ∀ e w', R e w' → (∃ v, e = .returned v ∧ K (a.put o.dst v) w') ∨ (∃ c, e = .panicked c ∧ Q (.panic c) a w')) : o.wp P a w K Q := by
  unfold Oper.wp
  rw [hr]
  refine hc.mono fun e w' he => ?_
  rcases h e w' he with ⟨v, rfl, hv⟩ | ⟨c, rfl, hq⟩
  · exact hv
  · exact hq

theorem grown_after {w w1 w2 : World} {row : Option Nat} (h : w.grownBy w1 row) (hb : Below w1.heap.size w1 w2) : w.grownBy w2 row :=
  ⟨hb.os.trans h.os, hb.tape.trans h.tape, hb.output.trans h.output, Nat.le_trans h.size hb.size, fun k hk hne => (hb.block k (Nat.lt_of_lt_of_le hk h.size)).trans (h.block k hk hne)⟩
theorem src_slice {w w' : World} {v : SV} (h : Src Tryd.prog 5 25 (.slice (some ⟨w.heap.size, 0, none⟩) 1 1) 1 (newsK (fun _ => v) 1) (w.alloc (.cells v.cells 27))) (hn : Box (w.alloc (.cells v.cells 27)) w.heap.size 27 v.cells) (hb : Below (w.alloc (.cells v.cells 27)).heap.size (w.alloc (.cells v.cells 27)) w') :
    Src Tryd.prog 5 25 (.slice (some ⟨w.heap.size, 0, none⟩) 1 1) 1 (newsK (fun _ => v) 1) w' := by
  refine Src.ofSlice _ Tryd.underlying25 _ 1 1 _ (newsK_len _ 1) (fun j u hu => ?_) (newsK_one _ 1)
  rw [Addr.add_mid]
  refine (hn.after hb).cell (0 + j) ?_
  rw [Nat.zero_add]
  simpa [newsK] using hu
set_option maxHeartbeats 32000000 in
set_option maxRecDepth 100000 in
theorem listN_of (g : Nat) (s : ByteArray) (f : Nat) (hs : s.size ≤ 100000) (hd : ValueDoes g s f) : ListDoes g s f := by
  intro p m lv w hX hp hf hm hlv
  have HL : Hid (s.data.toList.length = s.size) := Lib.hid (by simp)
  have HD := Lib.hid hd
  have hgw := hX.lt
  have B0 : Below w.heap.size w (w.alloc (.cells #[.bool false, .bool false, .slice none 0 0, .slice none 0 0, .slice none 0 0] 27)) := (Below.refl _ _).alloc (Nat.le_refl _) _
  have R := Lib.hid (Box.new w 27 #[.bool false, .bool false, .slice none 0 0, .slice none 0 0, .slice none 0 0])
  have X := Lib.hid (hX.after B0)
  have U : Hid (But (fun k => k = g) w (w.alloc (.cells #[.bool false, .bool false, .slice none 0 0, .slice none 0 0, .slice none 0 0] 27))) := Lib.hid (But.ofBelow B0)
  have hz : w.heap.size < ((w.alloc (.cells #[.bool false, .bool false, .slice none 0 0, .slice none 0 0, .slice none 0 0] 27))).heap.size := R.out.lt
  clear hX hd B0
  go_enter Tryd.func57, Tryd.ntmps57
  go_upto_region 1 with fail
  change Code.wp _ _ _ _ (w.alloc (.cells #[.bool false, .bool false, .slice none 0 0, .slice none 0 0, .slice none 0 0] 27))
  generalize (w.alloc (.cells #[.bool false, .bool false, .slice none 0 0, .slice none 0 0, .slice none 0 0] 27)) = u0 at *
  go_upto_region 2 with (refine wpList_store_box (cells := #[.bool true, .bool false, .slice none 0 0, .slice none 0 0, .slice none 0 0]) rfl 27 _ _ rfl (Box.new _ _ _) (by rfl) (by rfl) rfl (by kernel_rfl) (by simp [Value.oneCell']) ?_; intro u1 V1 st1)
  have b1 : Below u0.heap.size u0 u1 := st1.below u0.heap.size u0 (Nat.le_refl _) ((Below.refl _ _).alloc (Nat.le_refl _) _)
  replace R := Lib.hid (R.out.after b1)
  replace X := Lib.hid (X.out.after b1)
  replace U := Lib.hid (U.out.trans (But.ofBelow (S := fun _ => False) b1) (fun _ h => h.elim))
  have V := Lib.hid V1
  have hz1 := V1.lt
  clear b1 st1 V1
  generalize u0.heap.size = vb at *
  simp only [Act.put]
  go_loopw [] (fun wr => ∃ (q cnt al : Nat) (acc : List Sx) (ta : Option Addr) (tc : Nat) (K : Nat → SV), p ≤ q ∧ q ≤ s.size ∧ cnt ≤ 512 ∧ al ≤ q ∧ Hid (al = acc.length) ∧ Hid (∀ r, Nt s.data.toList (some acc) q lv cnt r → Nt s.data.toList (some []) p lv m r) ∧ Box wr g 79 (RdN s q cnt) ∧ Box wr w.heap.size 27 #[.bool false, .bool false, .slice none 0 0, .slice none 0 0, .slice none 0 0] ∧ Box wr vb 27 #[.bool true, .bool false, .slice none 0 0, .slice none 0 0, .slice ta al tc] ∧ OwnG wr (vb + 1) 5 (.slice ta al tc) al (newsK K al) ∧ Hid (∀ i (hi : i < acc.length), RdI (okK (fun _ => False) vb (.slice ta al tc)) wr (K i) acc[i]) ∧ But (fun k => k = g) w wr) (fun wr => s.size + 1 - atN wr g)
  case atStart => exact ⟨p, m, 0, [], none, 0, fun _ => SV.nil, Nat.le_refl _, hp, hm, Nat.zero_le _, Lib.hid rfl, Lib.hid (fun r h => h), X.out, R.out, V.out, OwnG.nil _ _ _, Lib.hid (fun i hi => by cases hi), U.out⟩
  case round =>
    obtain ⟨q, cnt, al, acc, ta, tc, K, hpq, hq, hcnt, hal, HAL, HTO, hX, hR, hV, hO, HKD, hU⟩ := hrel
    clear X R V U
    have HAT := Lib.hid (atN_eq hX)
    have X := Lib.hid hX
    have R := Lib.hid hR
    have V := Lib.hid hV
    have O := Lib.hid hO
    have U := Lib.hid hU
    have hvlt := hV.lt
    clear hX hR hV hO hU
    go_wp2_with fail
    refine (skipN_any g s q cnt wr X.out (by omega) hq).mono ?_
    rintro e w3 ⟨rfl, X3, b3⟩
    obtain ⟨q1, hq1⟩ : ∃ q1, q1 = skipN s.data.toList q := ⟨_, rfl⟩
    have hk1 := skipN_le (l := s.data.toList) (p := q) (by rw [HL.out]; exact hq)
    rw [HL.out, ← hq1] at hk1
    rw [← hq1] at X3
    have HQ1 := Lib.hid hq1
    replace R := Lib.hid (b3.box R.out (by omega))
    replace V := Lib.hid (b3.box V.out (by omega))
    replace O := Lib.hid (O.out.but b3 (fun k h e => by have := (O.out.lt k h).1; omega))
    replace HKD : Hid (∀ i (hi : i < acc.length), RdI (okK (fun _ => False) vb (.slice ta al tc)) w3 (K i) acc[i]) := Lib.hid (fun i hi => (HKD.out i hi).but b3 (fun k hk e => by have := hk.1.resolve_left id; omega))
    replace U := Lib.hid (U.out.trans b3 (fun k hk => .inl hk))
    replace X := Lib.hid X3
    have hz3 := b3.size
    clear X3 b3 hq1
    go_wp2_with fail
    refine (peek_any g s q1 cnt w3 X.out (by omega)).mono ?_
    rintro e w4 ⟨b4, ⟨h4, rfl⟩ | ⟨h4, rfl⟩⟩
    · unfold FaultN
      have HE : Hid (Nt s.data.toList (some []) p lv m (RV.err s.size 2)) := Lib.hid (HTO.out _ (Nt.fail (fun h => by rw [HL.out, ← HQ1.out] at h; omega) (by rw [← HQ1.out, show s.size = s.data.toList.length from HL.out.symm]; exact Nt.short (by rw [HQ1.out, skipN_idem, ← HQ1.out, HL.out]; exact h4)) (by show (2 : Nat) ≠ 0; decide)))
      have HU := Lib.hid (U.out.trans (But.ofBelow (S := fun _ => False) b4) (fun _ h => h.elim))
      clear b4
      go_wp2_with fail
      exact ⟨rfl, vn_no HE.out (by decide) HU.out⟩
    replace R := Lib.hid (R.out.after b4)
    replace V := Lib.hid (V.out.after b4)
    replace O := Lib.hid (O.out.after b4)
    replace HKD : Hid (∀ i (hi : i < acc.length), RdI (okK (fun _ => False) vb (.slice ta al tc)) w4 (K i) acc[i]) := Lib.hid (fun i hi => (HKD.out i hi).after b4)
    replace U := Lib.hid (U.out.trans (But.ofBelow (S := fun _ => False) b4) (fun _ h => h.elim))
    replace X := Lib.hid (X.out.after b4)
    have hz4 := b4.size
    clear b4
    obtain ⟨x, hx⟩ : ∃ x, x = s.data.toList.getD q1 0 := ⟨_, rfl⟩
    rw [← hx]
    have HXC : Hid (s.data.toList.getD (skipN s.data.toList q) 0 = x) := Lib.hid (by rw [← HQ1.out, hx])
    have HQL : Hid (skipN s.data.toList q < s.data.toList.length) := Lib.hid (by rw [← HQ1.out, HL.out]; exact h4)
    clear hx
    have x1 := X.out.cell 1 rfl
    have f1 := X.out.frozen 1
    have hq6 : (q1 : Int) ≤ 1000000 := by omega
    by_cases h41 : x = 41
    · obtain ⟨e1, e2, e3⟩ := bEq (a := x) 41 41 rfl (by rw [h41]; rfl)
      have HE : Hid (Nt s.data.toList (some []) p lv m ⟨.mk true false [] [] acc, q1 + 1, cnt, 0⟩) := Lib.hid (HTO.out _ (by rw [HQ1.out]; exact Nt.close HQL.out (by rw [HXC.out]; exact h41)))
      clear h41 e3 HTO
      go_upto_region 5 with fail
      have X5 : Box (w4.setCell ⟨g, 1, none⟩ (.int .i64 ((q1 : Int) + 1))) g 79 (RdN s (q1 + 1) cnt) := X.out.set 1 _
      have b5 : But (fun k => k = g) w4 (w4.setCell ⟨g, 1, none⟩ (.int .i64 ((q1 : Int) + 1))) := (But.refl (fun k => k = g) w4).setCell (p := ⟨g, 1, none⟩) (.inl rfl) _
      change Code.wp _ _ _ _ (w4.setCell ⟨g, 1, none⟩ (.int .i64 ((q1 : Int) + 1)))
      generalize (w4.setCell ⟨g, 1, none⟩ (.int .i64 ((q1 : Int) + 1))) = w5 at *
      replace R := Lib.hid (b5.box R.out (by omega))
      replace V := Lib.hid (b5.box V.out (by omega))
      replace O := Lib.hid (O.out.but b5 (fun k h e => by have := (O.out.lt k h).1; omega))
      replace HKD : Hid (∀ i (hi : i < acc.length), RdI (okK (fun _ => False) vb (.slice ta al tc)) w5 (K i) acc[i]) := Lib.hid (fun i hi => (HKD.out i hi).but b5 (fun k hk e => by have := hk.1.resolve_left id; omega))
      replace U := Lib.hid (U.out.trans b5 (fun k hk => .inl hk))
      replace X := Lib.hid X5
      have hz5 := b5.size
      clear X5 b5 x1 f1
      go_wp2_with first | (refine wpList_load_box rfl 27 _ rfl V.out (by rfl) Tryd.underlying27 rfl (by kernel_rfl) ?_) | (refine wpList_store_box (cells := #[.bool true, .bool false, .slice none 0 0, .slice none 0 0, .slice ta al tc]) rfl 27 _ _ rfl R.out (by rfl) (by rfl) rfl (by kernel_rfl) (by simp [Value.oneCell']) ?_; intro u9 X9 st9)
      have b9 : But (fun k => k = w.heap.size) w5 u9 := But.ofStored st9 (st9.below 0 w5 (Nat.zero_le _) (Below.refl _ _))
      obtain ⟨a', c', e', hrow, hinb⟩ := O.out.row
      cases e'
      exact bodyPost_ret (v := .agg #[.bool true, .bool false, .slice none 0 0, .slice none 0 0, .slice ta al tc]) (box_result rfl _ _ (by rfl) X9 Tryd.underlying27 rfl (by kernel_rfl)) rfl (vn_yes (v := ⟨true, false, none, 0, 0, none, 0, 0, ta, al, tc⟩) HE.out (U.out.trans b9 (fun k hk => .inr (by omega)))
        (rd_list (hrow.keep (hinb.heap fun k hk => st9.other k (by omega))) (hinb.mono fun k hk => by omega) HAL.out (fun i hi => ((HKD.out i hi).but b9 (fun k hk e => by have := hk.1.resolve_left id; omega)).mono (fun k hk => by have := hk.1.resolve_left id; omega))) (b9.box X.out (by omega)))
    · obtain ⟨e1, e2, e3⟩ := bNe (a := x) 41 41 rfl (fun e => h41 (by rw [← UInt8.toNat_inj]; exact e))
      have H41 := Lib.hid h41
      clear h41 e3 x1 f1
      have hlv' : (lv : Int) ≤ 16 := by omega
      have hwl : IntKind.i64.wrap ((lv : Int) + 1) = (lv : Int) + 1 := by rw [IntKind.wrap_i64]; omega
      go_upto_region 6 with fail
      have hKS : Keeps (fun w' => Box w' vb 27 #[.bool true, .bool false, .slice none 0 0, .slice none 0 0, .slice ta al tc]) := fun w w' h b => h.after b
      refine wp_region_W (w := w4) [9] (fun w' => Box w' vb 27 #[.bool true, .bool false, .slice none 0 0, .slice none 0 0, .slice ta al tc]) rfl V.out.drew ?_
      refine wpW_val 0 hKS rfl (by kernel_rfl) (by kernel_rfl) (by kernel_rfl) (by kernel_rfl) rfl (fun _ _ _ _ h => h) (.pointer (some ⟨vb, 4, none⟩)) (fun w' h => by simp [go_sem]) ?_
      simp only [Act.put, List.setIfInBounds_toArray, List.set_cons_zero, List.set_cons_succ]
      refine wpW_val 1 hKS rfl (by kernel_rfl) (by kernel_rfl) (by kernel_rfl) (by kernel_rfl) rfl (fun _ _ _ _ h => h) (.slice ta al tc) (fun w' h => by simp [go_sem, h.cell 4 rfl]) ?_
      simp only [Act.put, List.setIfInBounds_toArray, List.set_cons_zero, List.set_cons_succ]
      refine wpW_val 2 hKS rfl (by kernel_rfl) (by kernel_rfl) (by kernel_rfl) (by kernel_rfl) rfl (fun _ _ _ _ h => h) (.pointer (some ⟨g, 0, none⟩)) (fun w' h => by simp [go_sem]) ?_
      simp only [Act.put, List.setIfInBounds_toArray, List.set_cons_zero, List.set_cons_succ]
      refine wpW_val 3 hKS rfl (by kernel_rfl) (by kernel_rfl) (by kernel_rfl) (by kernel_rfl) rfl (fun _ _ _ _ h => h) (.int .i64 lv) (fun w' h => by simp [go_sem]) ?_
      simp only [Act.put, List.setIfInBounds_toArray, List.set_cons_zero, List.set_cons_succ]
      refine wpW_val 4 hKS rfl (by kernel_rfl) (by kernel_rfl) (by kernel_rfl) (by kernel_rfl) rfl (fun _ _ _ _ h => h) (.int .i64 ((lv : Int) + 1)) (fun w' h => by simp [go_sem, hwl]) ?_
      simp only [Act.put, List.setIfInBounds_toArray, List.set_cons_zero, List.set_cons_succ]
      refine wpW_one 5 rfl (by kernel_rfl) (by kernel_rfl) rfl ?_
      intro w5 b5 s5
      have b5' : Below w4.heap.size w4 w5 := (Below.refl _ w4).drew.trans b5
      have hz5 := b5'.size
      refine wp_callE 37 #[.pointer (some ⟨g, 0, none⟩), .int .i64 ((lv : Int) + 1)] (by simp [go_sem]) _ (HD.out q1 cnt (lv + 1) w5 (X.out.after b5') (by omega) (by omega) hcnt (by omega)) ?_
      rintro e w6 ⟨b6, r, hr, ⟨h6, rfl⟩ | ⟨h6, v, rfl, rd, X6⟩⟩
      · refine .inr ⟨_, rfl, ?_⟩
        have HE : Hid (Nt s.data.toList (some []) p lv m r) := Lib.hid (HTO.out _ (Nt.fail (fun _ => by rw [HXC.out]; exact H41.out) (by rw [← HQ1.out]; exact hr) h6))
        have HU := Lib.hid ((U.out.trans (But.ofBelow (S := fun _ => False) b5') (fun _ h => h.elim)).trans b6 (fun k hk => .inl hk))
        have H6 := Lib.hid h6
        clear hKS b5 b5' s5 b6 hr h6
        go_wp2_with fail
        exact ⟨rfl, HU.out, r, HE.out, .inl ⟨H6.out, rfl⟩⟩
      · refine .inl ⟨_, rfl, b6.box s5 (by omega), ?_⟩
        simp only [Act.put, List.setIfInBounds_toArray, List.set_cons_zero, List.set_cons_succ]
        have hpl := Nt_place hr h6 (by rw [HL.out]; omega)
        rw [HL.out] at hpl
        have HMO : Hid (∀ r2, Nt s.data.toList (some (acc ++ [r.v])) r.p lv r.n r2 → Nt s.data.toList (some []) p lv m r2) := Lib.hid (fun r2 h => HTO.out r2 (Nt.more HQL.out (by rw [HXC.out]; exact H41.out) (by rw [← HQ1.out]; exact hr) h6 h))
        obtain ⟨rv, rp, rn, re⟩ := r
        dsimp only at rd X6 hpl HMO h6
        obtain ⟨vl, vh, a1, n1, c1, a2, n2, c2, a3, n3, c3⟩ := v
        refine wpW_one 6 rfl (by kernel_rfl) (by kernel_rfl) rfl ?_
        intro w7 b7 s7
        refine wp_of_run (.slice (some ⟨w7.heap.size, 0, none⟩) 1 1) (w7.alloc (.cells (SV.mk vl vh a1 n1 c1 a2 n2 c2 a3 n3 c3).cells 27)) (by simp [go_sem, SV.val, SV.cells]) ?_
        have b8 : Below w7.heap.size w7 (w7.alloc (.cells (SV.mk vl vh a1 n1 c1 a2 n2 c2 a3 n3 c3).cells 27)) := (Below.refl _ _).alloc (Nat.le_refl _) _
        have S8 : Src Tryd.prog 5 25 (.slice (some ⟨w7.heap.size, 0, none⟩) 1 1) 1 (newsK (fun _ => SV.mk vl vh a1 n1 c1 a2 n2 c2 a3 n3 c3) 1) (w7.alloc (.cells (SV.mk vl vh a1 n1 c1 a2 n2 c2 a3 n3 c3).cells 27)) := src_one w7 _
        have hz6 := b6.size
        have hz7 := b7.size
        have N8 := Box.new w7 27 (SV.mk vl vh a1 n1 c1 a2 n2 c2 a3 n3 c3).cells
        refine ⟨hKS _ _ s7 b8, ?_⟩
        simp only [Act.put, List.setIfInBounds_toArray, List.set_cons_zero, List.set_cons_succ]
        refine wpW_one 7 rfl (by kernel_rfl) (by kernel_rfl) rfl ?_
        intro w9 b9 s9
        have hz8 : w7.heap.size < (w7.alloc (.cells (SV.mk vl vh a1 n1 c1 a2 n2 c2 a3 n3 c3).cells 27)).heap.size := N8.lt
        have hz9 := b9.size
        have O5 := O.out.after b5'
        have hO5 : ∀ k, Value.ownBlock (.slice ta al tc) = some k → vb < k ∧ k < w5.heap.size := fun k h => ⟨(O5.lt k h).1, (O5.lt k h).2⟩
        have O6 := O5.but b6 (fun k h e => by have := hO5 k h; omega)
        have B69 : Below w6.heap.size w6 w9 := (b7.trans (b8.mono b7.size)).trans (b9.mono (Nat.le_trans b7.size b8.size))
        have O9 := O6.after B69
        have U9 := Lib.hid (((U.out.trans (But.ofBelow (S := fun _ => False) b5') (fun _ h => h.elim)).trans b6 (fun k hk => .inl hk)).trans (But.ofBelow (S := fun _ => False) B69) (fun _ h => h.elim))
        have X9 := Lib.hid (X6.after B69)
        have R9 := Lib.hid ((b6.box (R.out.after b5') (by omega)).after B69)
        have K9 : ∀ i (hi : i < acc.length), RdI (okK (fun _ => False) vb (.slice ta al tc)) w9 (K i) acc[i] := fun i hi => (((HKD.out i hi).after b5').but b6 (fun k hk e => by have := hk.1.resolve_left id; omega)).after B69
        have D9 : RdI (fun k => (False ∨ w5.heap.size ≤ k) ∧ k < w9.heap.size) w9 ⟨vl, vh, a1, n1, c1, a2, n2, c2, a3, n3, c3⟩ rv := ((rd.after B69).mono (fun k hk => (.inr hk : False ∨ w5.heap.size ≤ k))).there
        refine wp_append_K (B := vb + 1) _ _ rfl rfl O9 rfl (src_slice S8 N8 b9) (by omega) (by omega) ?_
        intro v10 w10 ho10 hg10 hw10
        rw [newsK_snoc] at ho10
        obtain ⟨ta', tc', rfl, _⟩ := ho10.row
        refine ⟨s9.grown hg10 (fun k hk => by have := (O9.lt k hk).1; omega), ?_⟩
        simp only [Act.put, List.setIfInBounds_toArray, List.set_cons_zero, List.set_cons_succ]
        refine wpW_val 8 hKS rfl (by kernel_rfl) (by kernel_rfl) (by kernel_rfl) (by kernel_rfl) rfl (fun _ _ _ _ h => h) (.pointer (some ⟨vb, 4, none⟩)) (fun w' h => by simp [go_sem]) ?_
        simp only [Act.put, List.setIfInBounds_toArray, List.set_cons_zero, List.set_cons_succ]
        refine wpW_write 9 rfl (by kernel_rfl) (by kernel_rfl) rfl ?_
        intro w11 b11 s11
        have hb10 : ∀ k, (Value.ownBlock (.slice ta al tc)) = some k → vb < k := fun k h => (hO5 k h).1
        have U10 := U9.out.trans (But.ofGrown hg10 (S := fun k => vb < k) hb10) (fun k hk => .inr (by omega))
        have X10 := X9.out.grown hg10 (fun k hk => by have := hb10 k hk; omega)
        have R10 := R9.out.grown hg10 (fun k hk => by have := hb10 k hk; omega)
        have KM := kids_more (ok := fun _ => False) (g := vb) (B := w5.heap.size) (G := w9.heap.size) (al := al) (own := .slice ta al tc) (v' := .slice ta' (al + 1) tc') (u := w9) (w2 := w10) (K := K) (acc := acc) (v := ⟨vl, vh, a1, n1, c1, a2, n2, c2, a3, n3, c3⟩) (rv := rv) HAL.out K9 D9 (fun k h => h.elim) (by omega) hO5 hg10 hw10 (.slice ta' (al + 1) tc')
        refine wp_store_slice 25 _ _ rfl rfl rfl (s11.cell 4 rfl) (s11.frozen 4) (fun w => by simp [go_sem]) ?_
        simp only [Act.put, List.setIfInBounds_toArray, List.set_cons_zero, List.set_cons_succ]
        refine wpU_done (by kernel_rfl) ?_
        intro w12 b12 _
        have hz11 := b11.size
        have b1112 : Below w10.heap.size w10 w11 := b11
        have KM' : Hid (∀ i (hi : i < (acc ++ [rv]).length), RdI (okK (fun _ => False) vb (.slice ta' (al + 1) tc')) w12 (if i = al then ⟨vl, vh, a1, n1, c1, a2, n2, c2, a3, n3, c3⟩ else K i) (acc ++ [rv])[i]) := Lib.hid (by
          have := kids_more (ok := fun _ => False) (g := vb) (B := w5.heap.size) (G := w9.heap.size) (al := al) (own := .slice ta al tc) (v' := .slice ta' (al + 1) tc') (u := w9) (w2 := w11) (K := K) (acc := acc) (v := ⟨vl, vh, a1, n1, c1, a2, n2, c2, a3, n3, c3⟩) (rv := rv) HAL.out K9 D9 (fun k h => h.elim) (by omega) hO5 (grown_after hg10 b11) hw10 (.slice ta' (al + 1) tc')
          exact fun i hi => (this i hi).after b12)
        have e12 : But (fun k => k = vb) w11 (w11.setCell ⟨vb, 4, none⟩ (.slice ta' (al + 1) tc')) := (But.refl (fun k => k = vb) w11).setCell (p := ⟨vb, 4, none⟩) (.inl rfl) _
        have V12 := Lib.hid ((s11.set 4 (.slice ta' (al + 1) tc')).after b12)
        have X12 := Lib.hid ((e12.box (X10.after b11) (by omega)).after b12)
        have R12 := Lib.hid ((e12.box (R10.after b11) (by omega)).after b12)
        have O12 := Lib.hid (((ho10.after b11).but e12 (fun k h e => by have := (ho10.lt k h).1; omega)).after b12)
        have U12 := Lib.hid (((U10.trans (But.ofBelow (S := fun _ => False) b11) (fun _ h => h.elim)).trans e12 (fun k hk => .inr (by omega))).trans (But.ofBelow (S := fun _ => False) b12) (fun _ h => h.elim))
        clear hKS b5 b5' s5 b6 rd X6 hr b7 s7 b8 S8 N8 b9 s9 O5 hO5 O6 B69 O9 U9 X9 R9 K9 D9 ho10 hg10 hw10 b11 s11 hb10 U10 X10 R10 KM b12 b1112 e12 O R V X U HKD HTO h6
        have e4' := atN_eq X12.out
        go_wp2_with fail
        go_roundw
        case rel => exact ⟨rp, rn, al + 1, acc ++ [rv], ta', tc', fun i => if i = al then ⟨vl, vh, a1, n1, c1, a2, n2, c2, a3, n3, c3⟩ else K i, by omega, by omega, hpl.2.2.1 hcnt, by omega, Lib.hid (by rw [HAL.out]; simp), HMO, X12.out, R12.out, V12.out, O12.out, KM', U12.out⟩
        case measure => rw [HAT.out, e4']; omega

theorem valueN_all (g : Nat) (s : ByteArray) (hs : s.size ≤ 100000) : ∀ f, ValueDoes g s f ∧ ListDoes g s f
  | 0 => have hv : ValueDoes g s 0 := fun p m lv w hX hp hf hm hlv => absurd hp (by omega)
    ⟨hv, listN_of g s 0 hs hv⟩
  | f + 1 => have hv : ValueDoes g s (f + 1) := fun p m lv w hX hp hf hm hlv => valueN_of g s f hs (valueN_all g s hs f).2 p m lv w hX hp hf hm hlv
    ⟨hv, listN_of g s (f + 1) hs hv⟩
theorem valueN_any (g : Nat) (s : ByteArray) (p m lv : Nat) (w : World) (hX : Box w g 79 (RdN s p m)) (hs : s.size ≤ 100000) (hp : p ≤ s.size) (hm : m ≤ 512) (hlv : lv ≤ 17) :
    Calls Tryd.prog 37 #[.pointer (some ⟨g, 0, none⟩), .int .i64 lv] w (ValN (Nt s.data.toList none p lv m) g s w) := (valueN_all g s hs (s.size + 1)).1 p m lv w hX hp (by omega) hm hlv

end Go.Proofs.YtigopfeamjhdpaaDoor

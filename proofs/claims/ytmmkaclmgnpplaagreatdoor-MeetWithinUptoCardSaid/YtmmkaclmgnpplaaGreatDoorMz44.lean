import Derived.Test.YtmmkaclmgnpplaaGreatDoorMz20
set_option maxRecDepth 100000
set_option maxHeartbeats 64000000
set_option linter.unusedSimpArgs false
set_option linter.unusedVariables false
namespace Go.Proofs.YtmmkaclmgnpplaaGreatDoor
open Go.RowKit
def okc (c : UInt8) : Bool := letterB c || c == 32 || c == 40 || c == 41 || c == 42
theorem xX : ∀ n : Fin 256, (!okc (n.val.toUInt8) || (!numB (n.val.toUInt8) && !(n.val.toUInt8 == 34) && !(n.val.toUInt8 == 35) && !(n.val.toUInt8 == 124) && !(n.val.toUInt8 == 91))) = true := by decide +kernel
theorem Af (c : UInt8) (h : okc c = true) : numB c = false ∧ c ≠ 34 ∧ c ≠ 35 ∧ c ≠ 124 ∧ c ≠ 91 := by
 have := xX ⟨c.toNat, c.toNat_lt⟩
 rw [gs, h] at this
 simpa [Bool.and_eq_true, and_assoc] using this
theorem rl (g : Nat) (s : ByteArray) (p m : Nat) (w : World) (hX : Box w g 100 (RdN s p m)) (hs : s.size ≤ 100000) (hp : p ≤ s.size) (gS : ∀ q, q < s.size → okc (s.data.toList.getD q 0) = true) :
  Calls Tryz.prog 98 #[.pointer (some ⟨g, 0, none⟩)] w (BytesN g s m (nPlain s.data.toList p) w) := by
 have HL : Hid (s.data.toList.length = s.size) := I5 (by simp)
 obtain ⟨R, hR⟩ : ∃ R, R = nPlain s.data.toList p := ⟨_, rfl⟩
 rw [← hR]
 have HR := I5 hR
 have AL := hX.lt
 have HX := I5 hX
 clear hR hX
 go_enter Tryz.func98, Tryz.ntmps98
 go_wp2_with fail
 refine (lY g s p m w HX.out (by omega)).mono ?_
 rintro e w1 ⟨af, ⟨h1, rfl⟩ | ⟨h1, rfl⟩⟩
 ·unfold FaultN
  go_wp2_with fail
  exact ⟨rfl, zT (by rw [HR.out]; unfold nPlain; rw [if_pos (by rw [HL.out]; exact h1), HL.out]) (by decide) (But.ofBelow af)⟩
 obtain ⟨x, hx⟩ : ∃ x, x = s.data.toList.getD p 0 := ⟨_, rfl⟩
 rw [← hx]
 have nW : Hid (R = if numB x then nLen s.data.toList p else if x = 34 then nQuote s.data.toList (p + 1) else if x = 35 then nHex s.data.toList (p + 1) else if x = 124 then nB64 s.data.toList (p + 1) 124 else
   if signB x then ⟨(s.data.toList.drop p).takeWhile signB, p + ((s.data.toList.drop p).takeWhile signB).length, 0⟩ else BR.err p 3) := I5 (by rw [HR.out]; unfold nPlain; rw [if_neg (by rw [HL.out]; omega), ← hx])
 have HK := I5 (Af x (by rw [hx]; exact gS p (by omega)))
 have sq := I5 hx
 have X1 := I5 (HX.out.after af)
 have U1 : Hid (But (fun k => k = g) w w1) := I5 (But.ofBelow af)
 have hx255 := x.toNat_lt
 clear gS hx af HX HR
 have Ix : (p : Int) ≤ 1000000 := by omega
 go_wp2_with fail
 refine (ib _ x _).mono ?_
 rintro e w9 ⟨rfl, rfl⟩
 rw [C4]
 cases hn : numB x with
 | true => exact absurd hn (by rw [HK.out.1]; simp)
 | false =>
  replace nW := I5 (nW.out.trans (if_neg (by rw [hn]; simp)))
  clear hn
  by_cases h34 : x = 34
  ·exact absurd h34 HK.out.2.1
  ·obtain ⟨e1, e2, e3⟩ := bNe (a := x) 34 34 rfl (fun e => h34 (by rw [← UInt8.toNat_inj]; exact e))
   replace nW := I5 (nW.out.trans (if_neg h34))
   clear h34 e3
   have x1 := X1.out.cell 1 rfl
   have f1 := X1.out.frozen 1
   by_cases h35 : x = 35
   ·exact absurd h35 HK.out.2.2.1
   ·obtain ⟨e4, e5, e6⟩ := bNe (a := x) 35 35 rfl (fun e => h35 (by rw [← UInt8.toNat_inj]; exact e))
    replace nW := I5 (nW.out.trans (if_neg h35))
    clear h35 e6
    by_cases h124 : x = 124
    ·exact absurd h124 HK.out.2.2.2.1
    ·obtain ⟨e7, e8, e9⟩ := bNe (a := x) 124 124 rfl (fun e => h124 (by rw [← UInt8.toNat_inj]; exact e))
     replace nW := I5 (nW.out.trans (if_neg h124))
     clear h124 e9
     go_wp2_with fail
     refine (ib ⟨signL.toArray⟩ x _).mono ?_
     rintro e w8 ⟨rfl, rfl⟩
     rw [tr]
     cases xE : signB x with
     | false =>
      have DH : Hid (R = BR.err p 3) := I5 (nW.out.trans (if_neg (by rw [xE]; simp)))
      clear xE
      go_wp2_with fail
      refine (eb p 3 _).mono ?_
      rintro e w7 ⟨rfl, rfl⟩
      unfold FaultN
      go_wp2_with fail
      exact ⟨rfl, zT DH.out (by decide) U1.out⟩
     | true =>
      have DH : Hid (R = ⟨(s.data.toList.drop p).takeWhile signB, runN s.data.toList p, 0⟩) := I5 (nW.out.trans (if_pos (by rw [xE])))
      clear xE nW
      go_wp2_with fail
      go_loopw [] (fun wr => ∃ k : Nat, p ≤ k ∧ k ≤ s.size ∧ Hid (runN s.data.toList k = runN s.data.toList p) ∧ Box wr g 100 (RdN s k m) ∧ But (fun k => k = g) w wr) (fun wr => s.size - atN wr g)
      case atStart => exact ⟨p, Nat.le_refl _, by omega, I5 rfl, X1.out, U1.out⟩
      case round =>
       obtain ⟨k, Hd, hk, oX, hX2, jp⟩ := hrel
       clear X1 U1 x1 f1
       have FI := I5 (oV hX2)
       have HX := I5 hX2
       have FF := I5 jp
       clear hX2 jp
       have Ed : (0 : Int) ≤ p := by omega
       have hpk' : (p : Int) ≤ k := by omega
       have uv : (k : Int) ≤ s.size := by omega
       by_cases aJ : k < s.size
       ·have cL : (0 : Int) ≤ k := by omega
        have oZ : (k : Int) < s.size := by omega
        obtain ⟨c, hc⟩ : ∃ c, c = s.data.toList.getD k 0 := ⟨_, rfl⟩
        have Bm := I5 hc
        clear hc
        have Dl := I5 (show s.data.toList[k]'(by rw [HL.out]; exact aJ) = c by rw [Bm.out, List.getD_eq_getElem?_getD, List.getElem?_eq_getElem (by rw [HL.out]; exact aJ)]; rfl)
        cases wJ : signB c with
        | true =>
         have zw := I5 wJ
         clear wJ
         go_upto_region 19 with fail
         refine aP wr.heap.size wr rfl (by kernel_rfl) (Below.refl _ _) ?_
         refine aa rfl (.pointer (some ⟨g, 0, none⟩)) (fun w' hw => by simp [go_sem]) ?_
         simp only [Act.put, I2, I3, I4]
         refine aa rfl (.pointer (some ⟨g, 0, none⟩)) (fun w' hw => by simp [go_sem]) ?_
         simp only [Act.put, I2, I3, I4]
         refine aa rfl (.pointer (some ⟨g, 1, none⟩)) (fun w' hw => by simp [go_sem]) ?_
         simp only [Act.put, I2, I3, I4]
         refine aa rfl (.int .i64 k) (fun w' hw => by have := (HX.out.after hw).cell 1 rfl; simp [go_sem, this]) ?_
         simp only [Act.put, I2, I3, I4]
         refine aa rfl (.pointer (some ⟨g, 0, none⟩)) (fun w' hw => by simp [go_sem]) ?_
         simp only [Act.put, I2, I3, I4]
         refine aa rfl (.pointer (some ⟨g, 0, none⟩)) (fun w' hw => by simp [go_sem]) ?_
         simp only [Act.put, I2, I3, I4]
         refine aa rfl (.pointer (some ⟨g, 0, none⟩)) (fun w' hw => by simp [go_sem]) ?_
         simp only [Act.put, I2, I3, I4]
         refine aa rfl (.string s) (fun w' hw => by have := (HX.out.after hw).cell 0 rfl; simp [go_sem, this]) ?_
         simp only [Act.put, I2, I3, I4]
         refine aa rfl (.int .i64 s.size) (fun w' hw => by simp [go_sem]) ?_
         simp only [Act.put, I2, I3, I4]
         refine aa rfl (.bool true) (fun w' hw => by simp [go_sem]; omega) ?_
         simp only [Act.put, I2, I3, I4]
         refine aa rfl (.bool true) (fun w' hw => by simp [go_sem]) ?_
         simp only [Act.put, I2, I3, I4]
         refine aa rfl (.pointer (some ⟨g, 0, none⟩)) (fun w' hw => by simp [go_sem]) ?_
         simp only [Act.put, I2, I3, I4]
         refine aa rfl (.pointer (some ⟨g, 0, none⟩)) (fun w' hw => by simp [go_sem]) ?_
         simp only [Act.put, I2, I3, I4]
         refine aa rfl (.pointer (some ⟨g, 0, none⟩)) (fun w' hw => by simp [go_sem]) ?_
         simp only [Act.put, I2, I3, I4]
         refine aa rfl (.string s) (fun w' hw => by have := (HX.out.after hw).cell 0 rfl; simp [go_sem, this]) ?_
         simp only [Act.put, I2, I3, I4]
         refine aa rfl (.pointer (some ⟨g, 0, none⟩)) (fun w' hw => by simp [go_sem]) ?_
         simp only [Act.put, I2, I3, I4]
         refine aa rfl (.pointer (some ⟨g, 0, none⟩)) (fun w' hw => by simp [go_sem]) ?_
         simp only [Act.put, I2, I3, I4]
         refine aa rfl (.pointer (some ⟨g, 1, none⟩)) (fun w' hw => by simp [go_sem]) ?_
         simp only [Act.put, I2, I3, I4]
         refine aa rfl (.int .i64 k) (fun w' hw => by have := (HX.out.after hw).cell 1 rfl; simp [go_sem, this]) ?_
         simp only [Act.put, I2, I3, I4]
         refine aa rfl (.int .u8 (c.toNat : Int)) (fun w' hw => by rw [Bm.out, ← gp s k aJ]; simp [go_sem, aJ, cL, oZ]) ?_
         simp only [Act.put, I2, I3, I4]
         refine jB rfl 96 #[.string ⟨signL.toArray⟩, .int .u8 (c.toNat : Int)] (fun w' => by simp [go_sem, signL]) (.bool true) (Nat.le_refl _) (fun w' => (ib _ c w').mono (fun e w2 h => by obtain ⟨rfl, rfl⟩ := h; exact ⟨by rw [tr, zw.out], Below.refl _ _⟩)) ?_
         simp only [Act.put, I2, I3, I4]
         refine aa rfl (.bool true) (fun w' hw => by simp [go_sem]) ?_
         simp only [Act.put, I2, I3, I4]
         intro w1 af
         have oW := I5 (HX.out.after af)
         have er := I5 (FF.out.trans (But.ofBelow (S := fun _ => False) af) (fun _ h => h.elim))
         clear af
         have x1 := oW.out.cell 1 rfl
         have f1 := oW.out.frozen 1
         have Hl : (k : Int) ≤ 1000000 := by omega
         go_wp2_with fail
         have X4 : Box (w1.setCell ⟨g, 1, none⟩ (.int .i64 ((k : Int) + 1))) g 100 (RdN s (k + 1) m) := oW.out.set 1 _
         have e4' := oV X4
         go_roundw
         case rel => exact ⟨k + 1, by omega, by omega, I5 (by rw [← oX.out]; exact (tM (by rw [HL.out]; exact aJ) (by rw [Dl.out]; exact zw.out)).symm), X4, er.out.setCell (p := ⟨g, 1, none⟩) (.inl rfl) _⟩
         case measure => rw [FI.out, e4']; omega
        | false =>
         have zw := I5 wJ
         clear wJ
         go_upto_region 19 with fail
         refine aP wr.heap.size wr rfl (by kernel_rfl) (Below.refl _ _) ?_
         refine aa rfl (.pointer (some ⟨g, 0, none⟩)) (fun w' hw => by simp [go_sem]) ?_
         simp only [Act.put, I2, I3, I4]
         refine aa rfl (.pointer (some ⟨g, 0, none⟩)) (fun w' hw => by simp [go_sem]) ?_
         simp only [Act.put, I2, I3, I4]
         refine aa rfl (.pointer (some ⟨g, 1, none⟩)) (fun w' hw => by simp [go_sem]) ?_
         simp only [Act.put, I2, I3, I4]
         refine aa rfl (.int .i64 k) (fun w' hw => by have := (HX.out.after hw).cell 1 rfl; simp [go_sem, this]) ?_
         simp only [Act.put, I2, I3, I4]
         refine aa rfl (.pointer (some ⟨g, 0, none⟩)) (fun w' hw => by simp [go_sem]) ?_
         simp only [Act.put, I2, I3, I4]
         refine aa rfl (.pointer (some ⟨g, 0, none⟩)) (fun w' hw => by simp [go_sem]) ?_
         simp only [Act.put, I2, I3, I4]
         refine aa rfl (.pointer (some ⟨g, 0, none⟩)) (fun w' hw => by simp [go_sem]) ?_
         simp only [Act.put, I2, I3, I4]
         refine aa rfl (.string s) (fun w' hw => by have := (HX.out.after hw).cell 0 rfl; simp [go_sem, this]) ?_
         simp only [Act.put, I2, I3, I4]
         refine aa rfl (.int .i64 s.size) (fun w' hw => by simp [go_sem]) ?_
         simp only [Act.put, I2, I3, I4]
         refine aa rfl (.bool true) (fun w' hw => by simp [go_sem]; omega) ?_
         simp only [Act.put, I2, I3, I4]
         refine aa rfl (.bool true) (fun w' hw => by simp [go_sem]) ?_
         simp only [Act.put, I2, I3, I4]
         refine aa rfl (.pointer (some ⟨g, 0, none⟩)) (fun w' hw => by simp [go_sem]) ?_
         simp only [Act.put, I2, I3, I4]
         refine aa rfl (.pointer (some ⟨g, 0, none⟩)) (fun w' hw => by simp [go_sem]) ?_
         simp only [Act.put, I2, I3, I4]
         refine aa rfl (.pointer (some ⟨g, 0, none⟩)) (fun w' hw => by simp [go_sem]) ?_
         simp only [Act.put, I2, I3, I4]
         refine aa rfl (.string s) (fun w' hw => by have := (HX.out.after hw).cell 0 rfl; simp [go_sem, this]) ?_
         simp only [Act.put, I2, I3, I4]
         refine aa rfl (.pointer (some ⟨g, 0, none⟩)) (fun w' hw => by simp [go_sem]) ?_
         simp only [Act.put, I2, I3, I4]
         refine aa rfl (.pointer (some ⟨g, 0, none⟩)) (fun w' hw => by simp [go_sem]) ?_
         simp only [Act.put, I2, I3, I4]
         refine aa rfl (.pointer (some ⟨g, 1, none⟩)) (fun w' hw => by simp [go_sem]) ?_
         simp only [Act.put, I2, I3, I4]
         refine aa rfl (.int .i64 k) (fun w' hw => by have := (HX.out.after hw).cell 1 rfl; simp [go_sem, this]) ?_
         simp only [Act.put, I2, I3, I4]
         refine aa rfl (.int .u8 (c.toNat : Int)) (fun w' hw => by rw [Bm.out, ← gp s k aJ]; simp [go_sem, aJ, cL, oZ]) ?_
         simp only [Act.put, I2, I3, I4]
         refine jB rfl 96 #[.string ⟨signL.toArray⟩, .int .u8 (c.toNat : Int)] (fun w' => by simp [go_sem, signL]) (.bool false) (Nat.le_refl _) (fun w' => (ib _ c w').mono (fun e w2 h => by obtain ⟨rfl, rfl⟩ := h; exact ⟨by rw [tr, zw.out], Below.refl _ _⟩)) ?_
         simp only [Act.put, I2, I3, I4]
         refine aa rfl (.bool false) (fun w' hw => by simp [go_sem]) ?_
         simp only [Act.put, I2, I3, I4]
         intro w1 af
         have oW := I5 (HX.out.after af)
         have er := I5 (FF.out.trans (But.ofBelow (S := fun _ => False) af) (fun _ h => h.elim))
         clear af
         have Fa := oW
         have Aa := er
         have Di : Hid (runN s.data.toList p = k) := I5 (by rw [← oX.out]; exact qV (by rw [HL.out]; exact aJ) (by rw [Dl.out]; exact zw.out))
         go_upto_region 21 with fail
         have aF : Keeps (fun w' => Box w' g 100 (RdN s k m)) := fun w w' h b => h.after b
         refine fN (w := w1) (fun w' => Box w' g 100 (RdN s k m)) rfl Fa.out.drew ?_
         refine aG 0 aF rfl (by kernel_rfl) (by kernel_rfl) (by kernel_rfl) rfl (fun _ _ _ _ h => h) (.pointer (some ⟨g, 0, none⟩)) (fun w' h => by simp [go_sem]) ?_
         simp only [Act.put, I2, I3, I4]
         refine aG 1 aF rfl (by kernel_rfl) (by kernel_rfl) (by kernel_rfl) rfl (fun _ _ _ _ h => h) (.pointer (some ⟨g, 0, none⟩)) (fun w' h => by simp [go_sem]) ?_
         simp only [Act.put, I2, I3, I4]
         refine aG 2 aF rfl (by kernel_rfl) (by kernel_rfl) (by kernel_rfl) rfl (fun _ _ _ _ h => h) (.pointer (some ⟨g, 0, none⟩)) (fun w' h => by simp [go_sem]) ?_
         simp only [Act.put, I2, I3, I4]
         refine aG 3 aF rfl (by kernel_rfl) (by kernel_rfl) (by kernel_rfl) rfl (fun _ _ _ _ h => h) (.string s) (fun w' h => by simp [go_sem, h.cell 0 rfl]) ?_
         simp only [Act.put, I2, I3, I4]
         refine aG 4 aF rfl (by kernel_rfl) (by kernel_rfl) (by kernel_rfl) rfl (fun _ _ _ _ h => h) (.int .i64 p) (fun w' h => by simp [go_sem]) ?_
         simp only [Act.put, I2, I3, I4]
         refine aG 5 aF rfl (by kernel_rfl) (by kernel_rfl) (by kernel_rfl) rfl (fun _ _ _ _ h => h) (.pointer (some ⟨g, 0, none⟩)) (fun w' h => by simp [go_sem]) ?_
         simp only [Act.put, I2, I3, I4]
         refine aG 6 aF rfl (by kernel_rfl) (by kernel_rfl) (by kernel_rfl) rfl (fun _ _ _ _ h => h) (.pointer (some ⟨g, 0, none⟩)) (fun w' h => by simp [go_sem]) ?_
         simp only [Act.put, I2, I3, I4]
         refine aG 7 aF rfl (by kernel_rfl) (by kernel_rfl) (by kernel_rfl) rfl (fun _ _ _ _ h => h) (.pointer (some ⟨g, 1, none⟩)) (fun w' h => by simp [go_sem]) ?_
         simp only [Act.put, I2, I3, I4]
         refine aG 8 aF rfl (by kernel_rfl) (by kernel_rfl) (by kernel_rfl) rfl (fun _ _ _ _ h => h) (.int .i64 k) (fun w' h => by simp [go_sem, h.cell 1 rfl]) ?_
         simp only [Act.put, I2, I3, I4]
         refine aG 9 aF rfl (by kernel_rfl) (by kernel_rfl) (by kernel_rfl) rfl (fun _ _ _ _ h => h) (.string (s.extract p k)) (fun w' h => by simp [go_sem, Ed, hpk', uv]; try omega) ?_
         simp only [Act.put, I2, I3, I4]
         refine es 10 rfl (by kernel_rfl) rfl ?_
         intro w14 b14 s14
         obtain ⟨v15, w15, hr15, ho15, b15⟩ := ip w14 (s.extract p k) (by simp; omega)
         refine cp v15 w15 (by simp [go_sem, hr15]) ?_
         refine ⟨aF _ _ s14 b15, ?_⟩
         simp only [Act.put, I2, I3, I4]
         obtain ⟨a15, n15, c15, rfl, sl15, in15⟩ := OwnB.parts ho15
         refine aG 11 aF rfl (by kernel_rfl) (by kernel_rfl) (by kernel_rfl) rfl (fun _ _ _ _ h => h) (.slice a15 n15 c15) (fun w' h => by simp [go_sem]) ?_
         simp only [Act.put, I2, I3, I4]
         refine cB (by kernel_rfl) ?_
         intro w16 b16 s16
         have Bl : Below w1.heap.size w1 w16 := (((Below.refl _ w1).drew.trans b14).trans (b15.mono b14.size)).trans (b16.mono (Nat.le_trans b14.size b15.size))
         rw [jY, ← Di.out, pG] at sl15
         have HF := I5 (xt (m := m) DH.out (Aa.out.trans (But.ofBelow (S := fun _ => False) Bl) (fun _ h => h.elim)) (sl15.after b16) (in15.mono (fun k hk => Nat.le_trans Aa.out.size (Nat.le_trans b14.size hk))) (by rw [Di.out]; exact s16))
         clear aF b14 s14 b15 sl15 in15 hr15 ho15 b16 s16 Bl
         go_wp2_with fail
         go_ret
         exact HF.out
       ·have oZ : ¬ (k : Int) < s.size := by omega
        have x0 := HX.out.cell 0 rfl
        have x1 := HX.out.cell 1 rfl
        have Di : Hid (runN s.data.toList p = k) := I5 (by rw [← oX.out]; exact vQ (by rw [HL.out]; omega))
        go_upto_region 19 with fail
        go_quiet (fail)
        have Fa := I5 (HX.out.drewN nq)
        have Aa := I5 (FF.out.drewN nq)
        generalize wr.drewN nq = w1 at *
        go_upto_region 21 with fail
        have aF : Keeps (fun w' => Box w' g 100 (RdN s k m)) := fun w w' h b => h.after b
        refine fN (w := w1) (fun w' => Box w' g 100 (RdN s k m)) rfl Fa.out.drew ?_
        refine aG 0 aF rfl (by kernel_rfl) (by kernel_rfl) (by kernel_rfl) rfl (fun _ _ _ _ h => h) (.pointer (some ⟨g, 0, none⟩)) (fun w' h => by simp [go_sem]) ?_
        simp only [Act.put, I2, I3, I4]
        refine aG 1 aF rfl (by kernel_rfl) (by kernel_rfl) (by kernel_rfl) rfl (fun _ _ _ _ h => h) (.pointer (some ⟨g, 0, none⟩)) (fun w' h => by simp [go_sem]) ?_
        simp only [Act.put, I2, I3, I4]
        refine aG 2 aF rfl (by kernel_rfl) (by kernel_rfl) (by kernel_rfl) rfl (fun _ _ _ _ h => h) (.pointer (some ⟨g, 0, none⟩)) (fun w' h => by simp [go_sem]) ?_
        simp only [Act.put, I2, I3, I4]
        refine aG 3 aF rfl (by kernel_rfl) (by kernel_rfl) (by kernel_rfl) rfl (fun _ _ _ _ h => h) (.string s) (fun w' h => by simp [go_sem, h.cell 0 rfl]) ?_
        simp only [Act.put, I2, I3, I4]
        refine aG 4 aF rfl (by kernel_rfl) (by kernel_rfl) (by kernel_rfl) rfl (fun _ _ _ _ h => h) (.int .i64 p) (fun w' h => by simp [go_sem]) ?_
        simp only [Act.put, I2, I3, I4]
        refine aG 5 aF rfl (by kernel_rfl) (by kernel_rfl) (by kernel_rfl) rfl (fun _ _ _ _ h => h) (.pointer (some ⟨g, 0, none⟩)) (fun w' h => by simp [go_sem]) ?_
        simp only [Act.put, I2, I3, I4]
        refine aG 6 aF rfl (by kernel_rfl) (by kernel_rfl) (by kernel_rfl) rfl (fun _ _ _ _ h => h) (.pointer (some ⟨g, 0, none⟩)) (fun w' h => by simp [go_sem]) ?_
        simp only [Act.put, I2, I3, I4]
        refine aG 7 aF rfl (by kernel_rfl) (by kernel_rfl) (by kernel_rfl) rfl (fun _ _ _ _ h => h) (.pointer (some ⟨g, 1, none⟩)) (fun w' h => by simp [go_sem]) ?_
        simp only [Act.put, I2, I3, I4]
        refine aG 8 aF rfl (by kernel_rfl) (by kernel_rfl) (by kernel_rfl) rfl (fun _ _ _ _ h => h) (.int .i64 k) (fun w' h => by simp [go_sem, h.cell 1 rfl]) ?_
        simp only [Act.put, I2, I3, I4]
        refine aG 9 aF rfl (by kernel_rfl) (by kernel_rfl) (by kernel_rfl) rfl (fun _ _ _ _ h => h) (.string (s.extract p k)) (fun w' h => by simp [go_sem, Ed, hpk', uv]; try omega) ?_
        simp only [Act.put, I2, I3, I4]
        refine es 10 rfl (by kernel_rfl) rfl ?_
        intro w14 b14 s14
        obtain ⟨v15, w15, hr15, ho15, b15⟩ := ip w14 (s.extract p k) (by simp; omega)
        refine cp v15 w15 (by simp [go_sem, hr15]) ?_
        refine ⟨aF _ _ s14 b15, ?_⟩
        simp only [Act.put, I2, I3, I4]
        obtain ⟨a15, n15, c15, rfl, sl15, in15⟩ := OwnB.parts ho15
        refine aG 11 aF rfl (by kernel_rfl) (by kernel_rfl) (by kernel_rfl) rfl (fun _ _ _ _ h => h) (.slice a15 n15 c15) (fun w' h => by simp [go_sem]) ?_
        simp only [Act.put, I2, I3, I4]
        refine cB (by kernel_rfl) ?_
        intro w16 b16 s16
        have Bl : Below w1.heap.size w1 w16 := (((Below.refl _ w1).drew.trans b14).trans (b15.mono b14.size)).trans (b16.mono (Nat.le_trans b14.size b15.size))
        rw [jY, ← Di.out, pG] at sl15
        have HF := I5 (xt (m := m) DH.out (Aa.out.trans (But.ofBelow (S := fun _ => False) Bl) (fun _ h => h.elim)) (sl15.after b16) (in15.mono (fun k hk => Nat.le_trans Aa.out.size (Nat.le_trans b14.size hk))) (by rw [Di.out]; exact s16))
        clear aF b14 s14 b15 sl15 in15 hr15 ho15 b16 s16 Bl
        go_wp2_with fail
        go_ret
        exact HF.out
theorem wa : ∀ n : Fin 256, (!okc (n.val.toUInt8) || !isIn begL (n.val.toUInt8) || n.val.toUInt8 == 40) = true := by decide +kernel
theorem xY (c : UInt8) (h : okc c = true) (h2 : isIn begL c = true) : c = 40 := by
 have := wa ⟨c.toNat, c.toNat_lt⟩
 rw [gs, h, h2] at this
 simpa using this
theorem xN : ∀ n : Fin 256, (!signB (n.val.toUInt8) || (!(n.val.toUInt8 == 40) && !(n.val.toUInt8 == 91))) = true := by decide +kernel
theorem vM (c : UInt8) (h : signB c = true) : c ≠ 40 ∧ c ≠ 91 := by
 have := xN ⟨c.toNat, c.toNat_lt⟩
 rw [gs, h] at this
 simpa using this
theorem tE (g : Nat) (s : ByteArray) (f : Nat) (hs : s.size ≤ 100000) (gS : ∀ q, q < s.size → okc (s.data.toList.getD q 0) = true) (hd : ListDoes g s f) (p m lv : Nat) (w : World) (hX : Box w g 100 (RdN s p m)) (hp : p ≤ s.size) (hf : s.size < p + (f + 1)) (hm : m ≤ 512) (mm : lv ≤ 17) :
  Calls Tryz.prog 63 #[.pointer (some ⟨g, 0, none⟩), .int .i64 lv] w (ValN (Nt s.data.toList none p lv m) g s w) := by
 have HL : Hid (s.data.toList.length = s.size) := I5 (by simp)
 have HD := I5 hd
 have zZ := I5 gS
 have AL := hX.lt
 let u0 := (w.alloc (.cells #[.bool false, .bool false, .slice none 0 0, .slice none 0 0, .slice none 0 0] 32))
 have B0 : Below w.heap.size w u0 := (Below.refl _ _).alloc (Nat.le_refl _) _
 have R : Hid (Box u0 w.heap.size 32 #[.bool false, .bool false, .slice none 0 0, .slice none 0 0, .slice none 0 0]) := I5 (Box.new _ _ _)
 have X := I5 (hX.after B0)
 have U : Hid (But (fun k => k = g) w u0) := I5 (But.ofBelow B0)
 have hz : w.heap.size < (u0).heap.size := R.out.lt
 obtain ⟨q, hq⟩ : ∃ q, q = skipN s.data.toList p := ⟨_, rfl⟩
 have HQ := I5 hq
 have oX := dI (l := s.data.toList) (p := p) (by rw [HL.out]; exact hp)
 rw [HL.out, ← hq] at oX
 clear gS hX hd hq B0
 go_enter Tryz.func63, Tryz.ntmps63
 go_upto_region 1 with fail
 change Code.wp _ _ _ _ u0
 clear_value u0
 go_wp2_with fail
 refine (kL g s p m u0 X.out (by omega) hp).mono ?_
 rintro e w1 ⟨rfl, X1, b1⟩
 rw [← HQ.out] at X1
 replace R := I5 (b1.box R.out (by omega))
 replace U := I5 (U.out.trans b1 (fun k hk => .inl hk))
 replace X := I5 X1
 have uj := b1.size
 clear X1 b1
 go_wp2_with fail
 refine (lY g s q m w1 X.out (by omega)).mono ?_
 rintro e w2 ⟨b2, ⟨h2, rfl⟩ | ⟨h2, rfl⟩⟩
 ·unfold FaultN
  go_wp2_with fail
  exact ⟨rfl, lG (by rw [show s.size = s.data.toList.length from HL.out.symm]; exact Nt.short (by rw [HL.out, ← HQ.out]; exact h2)) (by decide) (U.out.trans (But.ofBelow (S := fun _ => False) b2) (fun _ h => h.elim))⟩
 obtain ⟨x, hx⟩ : ∃ x, x = s.data.toList.getD q 0 := ⟨_, rfl⟩
 rw [← hx]
 have sq : Hid (s.data.toList.getD (skipN s.data.toList p) 0 = x) := I5 (by rw [← HQ.out, hx])
 have xB : Hid (skipN s.data.toList p < s.data.toList.length) := I5 (by rw [← HQ.out, HL.out]; exact h2)
 replace R := I5 (R.out.after b2)
 replace X := I5 (X.out.after b2)
 replace U := I5 (U.out.trans (But.ofBelow (S := fun _ => False) b2) (fun _ h => h.elim))
 have m3 := b2.size
 clear b2 hx
 have x1 := X.out.cell 1 rfl
 have f1 := X.out.frozen 1
 have x2 := X.out.cell 2 rfl
 have f2 := X.out.frozen 2
 have Hc : (q : Int) ≤ 1000000 := by omega
 have IE : (m : Int) ≤ 512 := by omega
 have er := I5 (A5 x)
 have HK : Hid (okc x = true) := I5 (by rw [← sq.out, ← HQ.out]; exact zZ.out q (by omega))
 have hx255 := x.toNat_lt
 go_wp2_with fail
 refine (ib ⟨begL.toArray⟩ x _).mono ?_
 rintro e w9 ⟨rfl, rfl⟩
 have lq : (ByteArray.mk begL.toArray).data.toList = begL := by simp
 rw [lq]
 clear lq
 cases lq : isIn begL x with
 | true =>
  have Bn : Hid (begB x = true) := I5 (by rw [← er.out, lq]; rfl)
  have HL40 : Hid (x = 40) := I5 (xY x HK.out lq)
  clear lq er
  have X3 : Box (w9.setCell ⟨g, 2, none⟩ (.int .i64 ((m : Int) + 1))) g 100 (RdN s q (m + 1)) := X.out.set 2 _
  have b3 : But (fun k => k = g) w9 (w9.setCell ⟨g, 2, none⟩ (.int .i64 ((m : Int) + 1))) := (But.refl (fun k => k = g) w9).setCell (p := ⟨g, 2, none⟩) (.inl rfl) _
  go_upto_region 6 with fail
  change Code.wp _ _ _ _ (w9.setCell ⟨g, 2, none⟩ (.int .i64 ((m : Int) + 1)))
  generalize (w9.setCell ⟨g, 2, none⟩ (.int .i64 ((m : Int) + 1))) = w3 at *
  replace R := I5 (b3.box R.out (by omega))
  replace U := I5 (U.out.trans b3 (fun k hk => .inl hk))
  replace X := I5 X3
  have FR := b3.size
  clear X3 b3 x1 f1 x2 f2
  have x1 := X.out.cell 1 rfl
  have f1 := X.out.frozen 1
  have x2 := X.out.cell 2 rfl
  by_cases hm : 512 < m + 1
  ·have hm' : (512 : Int) < (m : Int) + 1 := by omega
   have HE : Hid (Nt s.data.toList none p lv m (RV.err q 4)) := I5 (by rw [HQ.out]; exact Nt.long xB.out (by rw [sq.out]; exact Bn.out) (.inl hm))
   clear hm
   go_wp2_with fail
   refine (eb q 4 _).mono ?_
   rintro e w8 ⟨rfl, rfl⟩
   unfold FaultN
   go_wp2_with fail
   exact ⟨rfl, lG HE.out (by decide) U.out⟩
  have hm' : ¬ (512 : Int) < (m : Int) + 1 := by omega
  by_cases h40 : x = 40
  ·obtain ⟨e1, e2, e3⟩ := bEq (a := x) 40 40 rfl (by rw [h40]; rfl)
   by_cases mm : 16 < lv
   ·have hlv' : (16 : Int) < lv := by omega
    have HE : Hid (Nt s.data.toList none p lv m (RV.err q 4)) := I5 (by rw [HQ.out]; exact Nt.long xB.out (by rw [sq.out]; exact Bn.out) (.inr ⟨by rw [sq.out]; exact h40, mm⟩))
    clear mm h40 e3
    go_wp2_with fail
    refine (eb q 4 _).mono ?_
    rintro e w8 ⟨rfl, rfl⟩
    unfold FaultN
    go_wp2_with fail
    exact ⟨rfl, lG HE.out (by decide) U.out⟩
   ·have hlv' : ¬ (16 : Int) < lv := by omega
    have GH : Hid (∀ r, Nt s.data.toList (some []) (q + 1) lv (m + 1) r → Nt s.data.toList none p lv m r) := I5 (fun r hr => Nt.list xB.out (by rw [sq.out]; exact h40) (by omega) (by omega) (by rw [← HQ.out]; exact hr))
    clear h40 e3
    go_upto_region 11 with fail
    have X4 : Box (w3.setCell ⟨g, 1, none⟩ (.int .i64 ((q : Int) + 1))) g 100 (RdN s (q + 1) (m + 1)) := X.out.set 1 _
    have b4 : But (fun k => k = g) w3 (w3.setCell ⟨g, 1, none⟩ (.int .i64 ((q : Int) + 1))) := (But.refl (fun k => k = g) w3).setCell (p := ⟨g, 1, none⟩) (.inl rfl) _
    change Code.wp _ _ _ _ (w3.setCell ⟨g, 1, none⟩ (.int .i64 ((q : Int) + 1)))
    generalize (w3.setCell ⟨g, 1, none⟩ (.int .i64 ((q : Int) + 1))) = w4 at *
    replace R := I5 (b4.box R.out (by omega))
    replace U := I5 (U.out.trans b4 (fun k hk => .inl hk))
    replace X := I5 X4
    have GX := b4.size
    clear X4 b4 x1 f1 x2
    go_wp2_with fail
    refine (HD.out (q + 1) (m + 1) lv w4 X.out (by omega) (by omega) (by omega) (by omega)).mono ?_
    rintro e w5 ⟨b5, r, hr, ⟨h5, rfl⟩ | ⟨h5, v, rfl, rd, X5⟩⟩
    ·have HR := I5 (GH.out r hr)
     replace U := I5 (U.out.trans b5 (fun k hk => .inl hk))
     have H5 := I5 h5
     clear hr h5 b5
     unfold FaultN
     go_wp2_with fail
     exact ⟨rfl, U.out, r, HR.out, .inl ⟨H5.out, rfl⟩⟩
    ·have HR := I5 (GH.out r hr)
     replace U := I5 (U.out.trans b5 (fun k hk => .inl hk))
     replace R := I5 (b5.box R.out (by omega))
     replace X := I5 X5
     have RD := I5 rd
     have H5 := I5 h5
     have DR := b5.size
     clear hr h5 b5 X5 rd
     obtain ⟨vl, vh, a1, n1, c1, a2, n2, c2, a3, n3, c3⟩ := v
     unfold SV.val
     go_wp2_with (refine ac (cells := #[.bool vl, .bool vh, .slice a1 n1 c1, .slice a2 n2 c2, .slice a3 n3 c3]) rfl 32 _ _ rfl R.out (by rfl) (by rfl) rfl (by kernel_rfl) (by simp [Value.oneCell']) ?_; intro u9 X9 st9)
     have b9 : But (fun k => k = w.heap.size) w5 u9 := But.ofStored st9 (st9.below 0 w5 (Nat.zero_le _) (Below.refl _ _))
     exact bodyPost_ret (v := .agg #[.bool vl, .bool vh, .slice a1 n1 c1, .slice a2 n2 c2, .slice a3 n3 c3]) (ae rfl _ _ (by rfl) X9 Tryz.underlying32 rfl (by kernel_rfl)) rfl ⟨U.out.trans b9 (fun k hk => .inr (by omega)), r, HR.out, .inr ⟨H5.out, ⟨vl, vh, a1, n1, c1, a2, n2, c2, a3, n3, c3⟩, rfl, (RD.out.but b9 (fun k hk e => by omega)).mono (fun k hk => by omega), b9.box X.out (by omega)⟩⟩
  exact absurd HL40.out h40
 | false =>
  rw [lq] at er
  clear lq
  go_wp2_with fail
  refine (ib ⟨signL.toArray⟩ x _).mono ?_
  rintro e w8 ⟨rfl, rfl⟩
  rw [tr]
  cases xE : signB x with
  | false =>
   have Bn : Hid (begB x = false) := I5 (by rw [← er.out, xE]; rfl)
   clear xE er
   go_wp2_with fail
   refine (eb q 3 _).mono ?_
   rintro e w8 ⟨rfl, rfl⟩
   unfold FaultN
   go_wp2_with fail
   exact ⟨rfl, lG (by rw [HQ.out]; exact Nt.bad xB.out (by rw [sq.out]; exact Bn.out)) (by decide) U.out⟩
  | true =>
   have GB := I5 xE
   have Bn : Hid (begB x = true) := I5 (by rw [← er.out, xE]; rfl)
   clear xE er
   have X3 : Box (w8.setCell ⟨g, 2, none⟩ (.int .i64 ((m : Int) + 1))) g 100 (RdN s q (m + 1)) := X.out.set 2 _
   have b3 : But (fun k => k = g) w8 (w8.setCell ⟨g, 2, none⟩ (.int .i64 ((m : Int) + 1))) := (But.refl (fun k => k = g) w8).setCell (p := ⟨g, 2, none⟩) (.inl rfl) _
   go_upto_region 6 with fail
   change Code.wp _ _ _ _ (w8.setCell ⟨g, 2, none⟩ (.int .i64 ((m : Int) + 1)))
   generalize (w8.setCell ⟨g, 2, none⟩ (.int .i64 ((m : Int) + 1))) = w3 at *
   replace R := I5 (b3.box R.out (by omega))
   replace U := I5 (U.out.trans b3 (fun k hk => .inl hk))
   replace X := I5 X3
   have FR := b3.size
   clear X3 b3 x1 f1 x2 f2
   have x1 := X.out.cell 1 rfl
   have f1 := X.out.frozen 1
   have x2 := X.out.cell 2 rfl
   by_cases hm : 512 < m + 1
   ·have hm' : (512 : Int) < (m : Int) + 1 := by omega
    have HE : Hid (Nt s.data.toList none p lv m (RV.err q 4)) := I5 (by rw [HQ.out]; exact Nt.long xB.out (by rw [sq.out]; exact Bn.out) (.inl hm))
    clear hm
    go_wp2_with fail
    refine (eb q 4 _).mono ?_
    rintro e w8 ⟨rfl, rfl⟩
    unfold FaultN
    go_wp2_with fail
    exact ⟨rfl, lG HE.out (by decide) U.out⟩
   have hm' : ¬ (512 : Int) < (m : Int) + 1 := by omega
   by_cases h40 : x = 40
   ·exact absurd h40 (vM x GB.out).1
   obtain ⟨e1, e2, e3⟩ := bNe (a := x) 40 40 rfl (fun e => h40 (by rw [← UInt8.toNat_inj]; exact e))
   have H40 := I5 h40
   clear h40 e3
   by_cases h91 : x = 91
   ·exact absurd h91 (vM x GB.out).2
   ·obtain ⟨e4, e5, e6⟩ := bNe (a := x) 91 91 rfl (fun e => h91 (by rw [← UInt8.toNat_inj]; exact e))
    obtain ⟨N, hN⟩ : ∃ N, N = nAtom s.data.toList q (m + 1) := ⟨_, rfl⟩
    have HN : Hid (Nt s.data.toList none p lv m N) := I5 (by rw [hN, HQ.out]; exact Nt.atom xB.out (by rw [sq.out]; exact Bn.out) (by rw [sq.out]; exact H40.out) (by rw [sq.out]; exact h91) (by omega))
    have Fr := I5 hN
    clear h91 e6 hN
    go_wp2_with fail
    refine (rl g s q (m + 1) w3 X.out hs (by omega) zZ.out).mono ?_
    rintro e w6 ⟨b6, ⟨h6, rfl⟩ | ⟨h6, a1, n1, c1, rfl, s6, i6, X6⟩⟩
    ·replace U := I5 (U.out.trans b6 (fun k hk => .inl hk))
     have HE : Hid (N = RV.err (nPlain s.data.toList q).p (nPlain s.data.toList q).e) := I5 (by rw [Fr.out]; unfold nAtom; dsimp only; rw [if_pos h6])
     have H6 := I5 h6
     clear b6 h6
     unfold FaultN
     go_wp2_with fail
     exact ⟨rfl, lG (by rw [← HE.out]; exact HN.out) H6.out U.out⟩
    have HE : Hid (N = ⟨.mk false false [] (nPlain s.data.toList q).b [], (nPlain s.data.toList q).p, m + 1, 0⟩) := I5 (by rw [Fr.out]; unfold nAtom; dsimp only; rw [if_neg (by rw [h6]; simp)])
    replace R := I5 (b6.box R.out (by omega))
    replace U := I5 (U.out.trans b6 (fun k hk => .inl hk))
    replace X := I5 X6
    have S1 := I5 s6
    have I1 := I5 (i6.mono (fun k hk => show w.heap.size < k by omega))
    clear b6 h6 s6 i6 X6 Fr
    go_wp2_with (refine ac (cells := #[.bool false, .bool false, .slice none 0 0, .slice a1 n1 c1, .slice none 0 0]) rfl 32 _ _ rfl R.out (by rfl) (by rfl) rfl (by kernel_rfl) (by simp [Value.oneCell']) ?_; intro u14 X14 st14)
    have b14 : But (fun k => k = w.heap.size) w6 u14 := But.ofStored st14 (st14.below 0 w6 (Nat.zero_le _) (Below.refl _ _))
    exact bodyPost_ret (v := .agg #[.bool false, .bool false, .slice none 0 0, .slice a1 n1 c1, .slice none 0 0]) (ae rfl _ _ (by rfl) X14 Tryz.underlying32 rfl (by kernel_rfl)) rfl (vJ (v := ⟨false, false, none, 0, 0, a1, n1, c1, none, 0, 0⟩) (by rw [← HE.out]; exact HN.out) (U.out.trans b14 (fun k hk => .inr (by omega)))
     (de (S1.out.but b14 I1.out (fun k hk e => by omega)) (I1.out.mono (fun k hk => by omega))) (b14.box X.out (by omega)))
theorem lI (g : Nat) (s : ByteArray) (hs : s.size ≤ 100000) (gS : ∀ q, q < s.size → okc (s.data.toList.getD q 0) = true) : ∀ f, ValueDoes g s f ∧ ListDoes g s f
 | 0 => have hv : ValueDoes g s 0 := fun p m lv w hX hp hf hm mm => absurd hp (by omega)
  ⟨hv, pY g s 0 hs hv⟩
 | f + 1 => have hv : ValueDoes g s (f + 1) := fun p m lv w hX hp hf hm mm => tE g s f hs gS (lI g s hs gS f).2 p m lv w hX hp hf hm mm
  ⟨hv, pY g s (f + 1) hs hv⟩
theorem qM (g : Nat) (s : ByteArray) (p m lv : Nat) (w : World) (hX : Box w g 100 (RdN s p m)) (hs : s.size ≤ 100000) (gS : ∀ q, q < s.size → okc (s.data.toList.getD q 0) = true) (hp : p ≤ s.size) (hm : m ≤ 512) (mm : lv ≤ 17) :
  Calls Tryz.prog 63 #[.pointer (some ⟨g, 0, none⟩), .int .i64 lv] w (ValN (Nt s.data.toList none p lv m) g s w) := (lI g s hs gS (s.size + 1)).1 p m lv w hX hp (by omega) hm mm
end Go.Proofs.YtmmkaclmgnpplaaGreatDoor

/- The program's reader of advanced forms: what is escaped, what is quoted, bytes with their length. -/
import Derived.Test.YtkbblhioncecmaaDoorNtC
namespace Go.Proofs.YtkbblhioncecmaaDoor
open Go.RowKit
set_option linter.unusedSimpArgs false
set_option linter.unusedVariables false

def escI (c : UInt8) : Int := match escL.idxOf? c with | some i => (i : Int) | none => -1
theorem escI_all : ∀ n : Fin 256, Lib.indexByte escL (n.val.toUInt8) = escI (n.val.toUInt8) := by decide +kernel
theorem escI_lt : ∀ n : Fin 256, ∀ i, escL.idxOf? (n.val.toUInt8) = some i → i < 9 := by decide +kernel
theorem escIdx (c : UInt8) (w : World) : Calls Tryd.prog 63 #[.string ⟨#[98, 116, 118, 110, 102, 114, 34, 39, 92]⟩, .int .u8 (c.toNat : Int)] w fun e w' => e = .returned (.int .i64 (escI c)) ∧ w' = w := by
  have hb := escI_all ⟨c.toNat, c.toNat_lt⟩
  rw [byte_fin] at hb
  refine (Tryd.strings_IndexByte _ _ _).mono ?_
  rintro e w1 ⟨rfl, hw⟩
  refine ⟨?_, hw⟩
  rw [← hb]
  have e : ((c.toNat : Int).toNat.toUInt8) = c := by simp
  show Ending.returned (.int .i64 (Lib.indexByte escL ((c.toNat : Int).toNat.toUInt8))) = _
  rw [e]
theorem escTo_get (i : Nat) (h : i < 9) : ((ByteArray.mk #[8, 9, 11, 10, 12, 13, 34, 39, 92])[i]'h) = escTo.getD i 0 := by
  match i, h with
  | 0, _ => rfl
  | 1, _ => rfl
  | 2, _ => rfl
  | 3, _ => rfl
  | 4, _ => rfl
  | 5, _ => rfl
  | 6, _ => rfl
  | 7, _ => rfl
  | 8, _ => rfl
theorem ByteN.trans {g : Nat} {s : ByteArray} {m : Nat} {R : BR} {w w1 w2 : World} {e : Ending} (hb : But (fun k => k = g) w w1) (h : ByteN g s m R w1 e w2) : ByteN g s m R w e w2 := ⟨hb.trans h.1 (fun k hk => .inl hk), h.2⟩

set_option maxHeartbeats 16000000 in
set_option maxRecDepth 100000 in
theorem escapedN_any (g : Nat) (s : ByteArray) (p m : Nat) (w : World) (hX : Box w g 72 (RdN s p m)) (hs : s.size ≤ 100000) (hp : p ≤ s.size) :
    Calls Tryd.prog 88 #[.pointer (some ⟨g, 0, none⟩)] w (ByteN g s m (nEsc s.data.toList p) w) := by
  have HL : Hid (s.data.toList.length = s.size) := Lib.hid (by simp)
  obtain ⟨R, hR⟩ : ∃ R, R = nEsc s.data.toList p := ⟨_, rfl⟩
  rw [← hR]
  have HR := Lib.hid hR
  have HX := Lib.hid hX
  clear hR hX
  go_enter Tryd.func88, Tryd.ntmps88
  go_wp2_with fail
  refine (peek_any g s p m w HX.out (by omega)).mono ?_
  rintro e w1 ⟨hb1, ⟨h1, rfl⟩ | ⟨h1, rfl⟩⟩
  · unfold FaultN
    go_wp2_with fail
    exact ⟨rfl, by_no (by rw [HR.out]; unfold nEsc; rw [if_pos (by rw [HL.out]; exact h1), HL.out]) (by decide) (But.ofBelow hb1)⟩
  · obtain ⟨x, hx⟩ : ∃ x, x = s.data.toList.getD p 0 := ⟨_, rfl⟩
    rw [← hx]
    have HR1 : Hid (R = if 48 ≤ x.toNat ∧ x.toNat ≤ 55 then nDigs 8 s.data.toList 3 3 p 0 else if x = 120 then nDigs 16 s.data.toList 2 15 (p + 1) 0 else match escL.idxOf? x with
      | some i => ⟨[escTo.getD i 0], p + 1, 0⟩
      | none => BR.err p 3) := Lib.hid (by rw [HR.out]; unfold nEsc; rw [if_neg (by rw [HL.out]; omega), ← hx]; rfl)
    have X1 := HX.out.after hb1
    have HX1 := Lib.hid X1
    have HBU : Hid (But (fun k => k = g) w w1) := Lib.hid (But.ofBelow hb1)
    have x1 := X1.cell 1 rfl
    have f1 := X1.frozen 1
    have hx255 := x.toNat_lt
    clear hx hb1 HX HR X1
    have hp6 : (p : Int) ≤ 1000000 := by omega
    by_cases c1 : (48 : Int) ≤ (x.toNat : Int)
    · by_cases c2 : (x.toNat : Int) ≤ 55
      · have HRE : Hid (R = nDigs 8 s.data.toList 3 3 p 0) := Lib.hid (by rw [HR1.out, if_pos (by omega)])
        go_wp2_with fail
        refine (digitsN_any 3 8 3 (by omega) (by omega) (by omega) g s p m w1 HX1.out hs (by omega)).mono ?_
        rintro e w2 ⟨b2, ⟨h2, rfl⟩ | ⟨h2, c2, hc2, rfl, X2⟩⟩
        · unfold FaultN
          go_wp2_with fail
          exact ⟨rfl, HBU.out.trans b2 (fun k hk => .inl hk), .inl ⟨by rw [HRE.out]; exact h2, by rw [HRE.out]; rfl⟩⟩
        · have HX2 := Lib.hid X2
          have HB2 := Lib.hid b2
          have H2 := Lib.hid h2
          have HC2 := Lib.hid hc2
          clear X2 b2 h2 hc2
          go_wp2_with fail
          go_ret
          exact ⟨HBU.out.trans HB2.out (fun k hk => .inl hk), .inr ⟨by rw [HRE.out]; exact H2.out, c2, by rw [HRE.out]; exact HC2.out, rfl, by rw [HRE.out]; exact HX2.out⟩⟩
      · replace c2 : (55 : Int) < (x.toNat : Int) := by omega
        have HR2 := Lib.hid (show R = if x = 120 then nDigs 16 s.data.toList 2 15 (p + 1) 0 else match escL.idxOf? x with
            | some i => ⟨[escTo.getD i 0], p + 1, 0⟩
            | none => BR.err p 3 by rw [HR1.out, if_neg (by omega)])
        by_cases h120 : x = 120
        · obtain ⟨e1, e2, e3⟩ := bEq (a := x) 120 120 rfl (by rw [h120]; rfl)
          have HRE : Hid (R = nDigs 16 s.data.toList 2 15 (p + 1) 0) := Lib.hid (by rw [HR2.out, if_pos h120])
          clear h120 e3
          go_wp2_with fail
          have X2 : Box (w1.setCell ⟨g, 1, none⟩ (.int .i64 ((p : Int) + 1))) g 72 (RdN s (p + 1) m) := HX1.out.set 1 _
          have HX2 := Lib.hid X2
          replace HBU := Lib.hid (HBU.out.setCell (p := ⟨g, 1, none⟩) (.inl rfl) (.int .i64 ((p : Int) + 1)))
          clear X2
          refine (digitsN_any 2 16 15 (by omega) (by omega) (by omega) g s (p + 1) m _ HX2.out hs (by omega)).mono ?_
          rintro e w2 ⟨b2, ⟨h2, rfl⟩ | ⟨h2, c2, hc2, rfl, X2⟩⟩
          · unfold FaultN
            go_wp2_with fail
            exact ⟨rfl, HBU.out.trans b2 (fun k hk => .inl hk), .inl ⟨by rw [HRE.out]; exact h2, by rw [HRE.out]; rfl⟩⟩
          · have HX2 := Lib.hid X2
            have HB2 := Lib.hid b2
            have H2 := Lib.hid h2
            have HC2 := Lib.hid hc2
            clear X2 b2 h2 hc2
            go_wp2_with fail
            go_ret
            exact ⟨HBU.out.trans HB2.out (fun k hk => .inl hk), .inr ⟨by rw [HRE.out]; exact H2.out, c2, by rw [HRE.out]; exact HC2.out, rfl, by rw [HRE.out]; exact HX2.out⟩⟩
        · obtain ⟨e1, e2, e3⟩ := bNe (a := x) 120 120 rfl (fun e => h120 (by rw [← UInt8.toNat_inj]; exact e))
          replace HR2 := Lib.hid (HR2.out.trans (if_neg h120))
          clear h120 e3
          go_wp2_with fail
          refine (escIdx x _).mono ?_
          rintro e w2 ⟨rfl, rfl⟩
          cases hv : escL.idxOf? x with
          | none =>
            have hi : escI x = -1 := by unfold escI; rw [hv]
            rw [hi]
            have HRE : Hid (R = BR.err p 3) := Lib.hid (by rw [HR2.out, hv])
            clear hv hi
            go_wp2_with fail
            refine (wrong_any p 3 _).mono ?_
            rintro e w3 ⟨rfl, rfl⟩
            unfold FaultN
            go_wp2_with fail
            exact ⟨rfl, by_no HRE.out (by decide) HBU.out⟩
          | some i =>
            have hi : escI x = (i : Int) := by unfold escI; rw [hv]
            rw [hi]
            have hi9 := escI_lt ⟨x.toNat, x.toNat_lt⟩ i (by rw [byte_fin]; exact hv)
            have HRE : Hid (R = ⟨[escTo.getD i 0], p + 1, 0⟩) := Lib.hid (by rw [HR2.out, hv])
            have HGT := Lib.hid (escTo_get i hi9)
            clear hv hi
            have hi9' : (i : Int) < 9 := by omega
            have hi0 : (0 : Int) ≤ i := by omega
            go_wp2_with fail
            go_ret
            exact by_yes HRE.out (HBU.out.setCell (p := ⟨g, 1, none⟩) (.inl rfl) _) (by rw [← HGT.out]) (HX1.out.set 1 _)
    · replace c1 : (x.toNat : Int) < 48 := by omega
      have HR2 := Lib.hid (show R = if x = 120 then nDigs 16 s.data.toList 2 15 (p + 1) 0 else match escL.idxOf? x with
          | some i => ⟨[escTo.getD i 0], p + 1, 0⟩
          | none => BR.err p 3 by rw [HR1.out, if_neg (by omega)])
      by_cases h120 : x = 120
      · obtain ⟨e1, e2, e3⟩ := bEq (a := x) 120 120 rfl (by rw [h120]; rfl)
        have HRE : Hid (R = nDigs 16 s.data.toList 2 15 (p + 1) 0) := Lib.hid (by rw [HR2.out, if_pos h120])
        clear h120 e3
        go_wp2_with fail
        have X2 : Box (w1.setCell ⟨g, 1, none⟩ (.int .i64 ((p : Int) + 1))) g 72 (RdN s (p + 1) m) := HX1.out.set 1 _
        have HX2 := Lib.hid X2
        replace HBU := Lib.hid (HBU.out.setCell (p := ⟨g, 1, none⟩) (.inl rfl) (.int .i64 ((p : Int) + 1)))
        clear X2
        refine (digitsN_any 2 16 15 (by omega) (by omega) (by omega) g s (p + 1) m _ HX2.out hs (by omega)).mono ?_
        rintro e w2 ⟨b2, ⟨h2, rfl⟩ | ⟨h2, c2, hc2, rfl, X2⟩⟩
        · unfold FaultN
          go_wp2_with fail
          exact ⟨rfl, HBU.out.trans b2 (fun k hk => .inl hk), .inl ⟨by rw [HRE.out]; exact h2, by rw [HRE.out]; rfl⟩⟩
        · have HX2 := Lib.hid X2
          have HB2 := Lib.hid b2
          have H2 := Lib.hid h2
          have HC2 := Lib.hid hc2
          clear X2 b2 h2 hc2
          go_wp2_with fail
          go_ret
          exact ⟨HBU.out.trans HB2.out (fun k hk => .inl hk), .inr ⟨by rw [HRE.out]; exact H2.out, c2, by rw [HRE.out]; exact HC2.out, rfl, by rw [HRE.out]; exact HX2.out⟩⟩
      · obtain ⟨e1, e2, e3⟩ := bNe (a := x) 120 120 rfl (fun e => h120 (by rw [← UInt8.toNat_inj]; exact e))
        replace HR2 := Lib.hid (HR2.out.trans (if_neg h120))
        clear h120 e3
        go_wp2_with fail
        refine (escIdx x _).mono ?_
        rintro e w2 ⟨rfl, rfl⟩
        cases hv : escL.idxOf? x with
        | none =>
          have hi : escI x = -1 := by unfold escI; rw [hv]
          rw [hi]
          have HRE : Hid (R = BR.err p 3) := Lib.hid (by rw [HR2.out, hv])
          clear hv hi
          go_wp2_with fail
          refine (wrong_any p 3 _).mono ?_
          rintro e w3 ⟨rfl, rfl⟩
          unfold FaultN
          go_wp2_with fail
          exact ⟨rfl, by_no HRE.out (by decide) HBU.out⟩
        | some i =>
          have hi : escI x = (i : Int) := by unfold escI; rw [hv]
          rw [hi]
          have hi9 := escI_lt ⟨x.toNat, x.toNat_lt⟩ i (by rw [byte_fin]; exact hv)
          have HRE : Hid (R = ⟨[escTo.getD i 0], p + 1, 0⟩) := Lib.hid (by rw [HR2.out, hv])
          have HGT := Lib.hid (escTo_get i hi9)
          clear hv hi
          have hi9' : (i : Int) < 9 := by omega
          have hi0 : (0 : Int) ≤ i := by omega
          go_wp2_with fail
          go_ret
          exact by_yes HRE.out (HBU.out.setCell (p := ⟨g, 1, none⟩) (.inl rfl) _) (by rw [← HGT.out]) (HX1.out.set 1 _)

set_option maxHeartbeats 16000000 in
set_option maxRecDepth 100000 in
theorem quotedN_any (g : Nat) (s : ByteArray) (p m : Nat) (w : World) (hX : Box w g 72 (RdN s p m)) (hs : s.size ≤ 100000) (hp : p < s.size) :
    Calls Tryd.prog 65 #[.pointer (some ⟨g, 0, none⟩)] w (BytesN g s m (nQuote s.data.toList (p + 1)) w) := by
  have HL : Hid (s.data.toList.length = s.size) := Lib.hid (by simp)
  obtain ⟨R, hR⟩ : ∃ R, R = nQuote s.data.toList (p + 1) := ⟨_, rfl⟩
  rw [← hR]
  have HR := Lib.hid hR
  have hgw := hX.lt
  have HX := Lib.hid hX
  have x1 := hX.cell 1 rfl
  have f1 := hX.frozen 1
  clear hR hX
  have hp6 : (p : Int) ≤ 1000000 := by omega
  go_enter Tryd.func65, Tryd.ntmps65
  go_wp2_with fail
  have X0 : Box (w.setCell ⟨g, 1, none⟩ (.int .i64 ((p : Int) + 1))) g 72 (RdN s (p + 1) m) := HX.out.set 1 _
  have U0 : But (fun k => k = g) w (w.setCell ⟨g, 1, none⟩ (.int .i64 ((p : Int) + 1))) := (But.refl (fun k => k = g) w).setCell (p := ⟨g, 1, none⟩) (.inl rfl) _
  go_loopw [3] (fun o wr => ∃ (k : Nat) (d : List UInt8), k ≤ s.size ∧ d.length ≤ k ∧ Hid (R = (nQuote s.data.toList k).pre d) ∧ OwnB wr w.heap.size o d ∧ Box wr g 72 (RdN s k m) ∧ But (fun k => k = g) w wr) (fun _ wr => s.size + 1 - atN wr g)
  case atStart => exact ⟨p + 1, [], by omega, Nat.zero_le _, Lib.hid (by rw [HR.out, pre_nil]), OwnB.nil _ _, X0, U0⟩
  case round =>
    obtain ⟨k, d, hk, hd, HRK, hown, hX2, hbut⟩ := hrel
    clear HX HR X0 U0 x1 f1
    have HAT := Lib.hid (atN_eq hX2)
    have HX := Lib.hid hX2
    have HO := Lib.hid hown
    have HBU := Lib.hid hbut
    clear hX2 hown hbut
    go_wp2_with fail
    refine (peek_any g s k m wr HX.out (by omega)).mono ?_
    rintro e w1 ⟨hb1, ⟨h1, rfl⟩ | ⟨h1, rfl⟩⟩
    · unfold FaultN
      go_wp2_with fail
      exact ⟨rfl, bn_no (by rw [HRK.out, nQuote_end (by rw [HL.out]; exact h1), HL.out]; rfl) (by decide) (HBU.out.trans (But.ofBelow (S := fun _ => False) hb1) (fun _ h => h.elim))⟩
    · obtain ⟨x, hx⟩ : ∃ x, x = s.data.toList.getD k 0 := ⟨_, rfl⟩
      rw [← hx]
      have HST := Lib.hid (nQuote_step (l := s.data.toList) (p := k) (by rw [HL.out]; exact h1))
      rw [← hx] at HST
      have X1 := HX.out.after hb1
      have O1 := Lib.hid (OwnB.after HO.out hb1)
      have U1 := Lib.hid (HBU.out.trans (But.ofBelow (S := fun _ => False) hb1) (fun _ h => h.elim))
      have x1 := X1.cell 1 rfl
      have f1 := X1.frozen 1
      have HX1 := Lib.hid X1
      have hk6 : (k : Int) ≤ 1000000 := by omega
      clear hx hb1 HX HBU HO X1
      by_cases he : x = 34
      · obtain ⟨e1, e2, e3⟩ := bEq (a := x) 34 34 rfl (by rw [he]; rfl)
        have HE := Lib.hid he
        clear he e3
        go_wp2_with fail
        have e4 : But (fun k => k = g) w1 (w1.setCell ⟨g, 1, none⟩ (.int .i64 ((k : Int) + 1))) := (But.refl (fun k => k = g) w1).setCell (p := ⟨g, 1, none⟩) (.inl rfl) _
        obtain ⟨a, n, c, hv, hsl, hin⟩ := OwnB.parts (OwnG.but O1.out e4 (fun k' h e => by have := (OwnB.own O1.out k' h).1; omega))
        go_ret
        rw [hv]
        exact bn_yes (by rw [HRK.out, HST.out, if_pos HE.out]; simp [BR.pre]) (U1.out.setCell (p := ⟨g, 1, none⟩) (.inl rfl) _) hsl hin (HX1.out.set 1 _)
      · obtain ⟨e1, e2, e3⟩ := bNe (a := x) 34 34 rfl (fun e => he (by rw [← UInt8.toNat_inj]; exact e))
        replace HST := Lib.hid (HST.out.trans (if_neg he))
        clear he e3
        have X2 : Box (w1.setCell ⟨g, 1, none⟩ (.int .i64 ((k : Int) + 1))) g 72 (RdN s (k + 1) m) := HX1.out.set 1 _
        have HX2 := Lib.hid X2
        have e4 : But (fun k => k = g) w1 (w1.setCell ⟨g, 1, none⟩ (.int .i64 ((k : Int) + 1))) := (But.refl (fun k => k = g) w1).setCell (p := ⟨g, 1, none⟩) (.inl rfl) _
        have U2 := Lib.hid (U1.out.setCell (p := ⟨g, 1, none⟩) (.inl rfl) (.int .i64 ((k : Int) + 1)))
        have O2 := Lib.hid (OwnG.but O1.out e4 (fun k' h e => by have := (OwnB.own O1.out k' h).1; omega))
        have hz2 := U1.out.size
        clear X2 e4
        go_upto_region 5 with fail
        change Code.wp _ _ _ _ (w1.setCell ⟨g, 1, none⟩ (.int .i64 ((k : Int) + 1)))
        have hz3 : w.heap.size ≤ (w1.setCell ⟨g, 1, none⟩ (.int .i64 ((k : Int) + 1))).heap.size := by simpa using hz2
        generalize (w1.setCell ⟨g, 1, none⟩ (.int .i64 ((k : Int) + 1))) = w2 at *
        clear O1 U1 HX1 x1 f1 hz2
        by_cases h92 : x = 92
        · obtain ⟨e5, e6, e7⟩ := bEq (a := x) 92 92 rfl (by rw [h92]; rfl)
          replace HST := Lib.hid (HST.out.trans (if_neg (by rw [h92]; simp)))
          clear h92 e7
          go_wp2_with fail
          refine (escapedN_any g s (k + 1) m _ HX2.out hs (by omega)).mono ?_
          rintro e w3 ⟨b3, ⟨h3, rfl⟩ | ⟨h3, c3, hc3, rfl, X3⟩⟩
          · unfold FaultN
            go_wp2_with fail
            exact ⟨rfl, U2.out.trans b3 (fun k hk => .inl hk), .inl ⟨by rw [HRK.out, HST.out, if_pos h3]; unfold BR.pre; rw [if_neg h3]; exact h3, by rw [HRK.out, HST.out, if_pos h3]; unfold BR.pre; rw [if_neg h3]; rfl⟩⟩
          · have hpl := nEsc_place s.data.toList (k + 1) (by rw [HL.out]; omega)
            rw [HL.out] at hpl
            obtain ⟨q, hq⟩ : ∃ q, q = (nEsc s.data.toList (k + 1)).p := ⟨_, rfl⟩
            rw [← hq] at hpl X3
            replace HST := Lib.hid (HST.out.trans (if_neg (by rw [h3]; simp)))
            have HRN : Hid (R = (nQuote s.data.toList q).pre (d ++ [c3])) := Lib.hid (by rw [HRK.out, HST.out, pre_pre, hc3, hq])
            have HX3 := Lib.hid X3
            have O3 := Lib.hid (OwnG.but O2.out b3 (fun k' h e => by have := (OwnG.lt O2.out k' h).1; omega))
            have U3 := Lib.hid (U2.out.trans b3 (fun k hk => .inl hk))
            have hz3 := U3.out.size
            clear hq hc3 X3 b3 h3 HST HRK
            go_wp2_with (refine wpList_append_B rfl _ _ rfl (l := d) rfl (OwnG.alloc O3.out _) (l2 := [c3]) rfl (sl_cell1 _ c3 _ rfl) (by simp; omega) (by simp; omega) ?_; intro v5 w5 ho5 hg5)
            have b5 : But (fun k => k = g) w w5 := ((U3.out.alloc _).trans (But.ofGrown hg5 (S := fun k => w.heap.size ≤ k) (fun k hk => ((OwnG.lt O3.out) k hk).1)) (fun k hk => .inr hk))
            have X5 : Box w5 g 72 (RdN s (q) m) := Box.grown (HX3.out.alloc _) hg5 (fun k hk => by have := ((OwnG.lt O3.out) k hk).1; omega)
            have e5' := atN_eq X5
            go_roundw
            case rel => exact ⟨q, d ++ [c3], by omega, by simp; omega, HRN, ho5, X5, b5⟩
            case measure => rw [HAT.out, e5']; omega
        · obtain ⟨e5, e6, e7⟩ := bNe (a := x) 92 92 rfl (fun e => h92 (by rw [← UInt8.toNat_inj]; exact e))
          have HRN : Hid (R = (nQuote s.data.toList (k + 1)).pre (d ++ [x])) := Lib.hid (by rw [HRK.out, HST.out, if_pos h92, pre_pre])
          clear h92 e7 HST HRK
          go_wp2_with (refine wpList_append_B rfl _ _ rfl (l := d) rfl (OwnG.alloc O2.out _) (l2 := [x]) rfl (sl_cell1 _ x _ rfl) (by simp; omega) (by simp; omega) ?_; intro v5 w5 ho5 hg5)
          have b5 : But (fun k => k = g) w w5 := ((U2.out.alloc _).trans (But.ofGrown hg5 (S := fun k => w.heap.size ≤ k) (fun k hk => ((OwnG.lt O2.out) k hk).1)) (fun k hk => .inr hk))
          have X5 : Box w5 g 72 (RdN s (k + 1) m) := Box.grown (HX2.out.alloc _) hg5 (fun k hk => by have := ((OwnG.lt O2.out) k hk).1; omega)
          have e5' := atN_eq X5
          go_roundw
          case rel => exact ⟨k + 1, d ++ [x], by omega, by simp; omega, HRN, ho5, X5, b5⟩
          case measure => rw [HAT.out, e5']; omega

end Go.Proofs.YtkbblhioncecmaaDoor

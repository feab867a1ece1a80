/- The program's reader of advanced forms: base64, length, digits, what is escaped and quoted. -/
import Derived.Test.YtkbblhioncecmaaDoorNtB
import Derived.Test.YtkbblhioncecmaaDoorNtO1
namespace Go.Proofs.YtkbblhioncecmaaDoor
open Go.RowKit
set_option linter.unusedSimpArgs false
set_option linter.unusedVariables false

theorem isIn_of {L : List UInt8} {f : UInt8 → Bool} (h : ∀ n : Fin 256, isIn L (n.val.toUInt8) = f (n.val.toUInt8)) (c : UInt8) : isIn L c = f c := by have := h ⟨c.toNat, c.toNat_lt⟩; rwa [byte_fin] at this
theorem good64 (c : UInt8) : isIn (ByteArray.mk b64sL.toArray).data.toList c = b64C c := isIn_of isIn_b64 c
theorem good16 (c : UInt8) : isIn (ByteArray.mk hexsL.toArray).data.toList c = hexC c := isIn_of isIn_hex c
theorem nSome_len (good : UInt8 → Bool) (en : UInt8) : ∀ (l : List UInt8) (p : Nat), (nSome good en l p).b.length ≤ l.length ∧ (nSome good en l p).p ≤ p + l.length ∧ ((nSome good en l p).e = 0 → (nSome good en l p).p < p + l.length) ∧ p ≤ (nSome good en l p).p ∧ (nSome good en l p).e ≤ 3
  | [], p => by simp [nSome, BR.err]
  | c :: r, p => by
    have ih := nSome_len good en r (p + 1)
    unfold nSome
    split
    · simp
    · split
      · simp [BR.err]
      · dsimp only
        split
        · rename_i h0
          have := ih.2.2.1 h0
          refine ⟨?_, by simp only [List.length_cons]; omega, fun _ => by simp only [List.length_cons]; omega, by dsimp only; omega, by simp⟩
          simp only [List.length_cons]
          split
          · simp only [List.length_cons]; omega
          · omega
        · rename_i h0
          refine ⟨by simp only [List.length_cons]; omega, by simp only [List.length_cons]; omega, fun h => absurd h h0, by omega, ih.2.2.2.2⟩
/-- bytes that were read: a fault, or they, the call's own -/
def BytesN (g : Nat) (s : ByteArray) (m : Nat) (R : BR) (w : World) (e : Ending) (w' : World) : Prop :=
  But (fun k => k = g) w w' ∧ ((R.e ≠ 0 ∧ e = FaultN R.p R.e) ∨ (R.e = 0 ∧ ∃ a n c, e = .returned (.slice a n c) ∧ Sl w' a n c R.b ∧ InB (fun k => w.heap.size ≤ k) a n ∧ Box w' g 72 (RdN s R.p m)))
theorem bn_no {g : Nat} {s : ByteArray} {m p e : Nat} {R : BR} (h : R = BR.err p e) (he : e ≠ 0) {w w' : World} (hb : But (fun k => k = g) w w') : BytesN g s m R w (FaultN p e) w' := by
  subst h
  exact ⟨hb, .inl ⟨he, rfl⟩⟩
theorem bn_yes {g : Nat} {s : ByteArray} {m p : Nat} {b : List UInt8} {R : BR} (h : R = ⟨b, p, 0⟩) {w w' : World} (hb : But (fun k => k = g) w w') {a : Option Addr} {n c : Nat} (hs : Sl w' a n c b) (hi : InB (fun k => w.heap.size ≤ k) a n) (hX : Box w' g 72 (RdN s p m)) : BytesN g s m R w (.returned (.slice a n c)) w' := by
  subst h
  exact ⟨hb, .inr ⟨rfl, a, n, c, rfl, hs, hi, hX⟩⟩
theorem BR.eta {R : BR} {p e : Nat} (h1 : R.p = p) (h2 : R.e = e) (h3 : R.b = []) : R = BR.err p e := by
  obtain ⟨b, p', e'⟩ := R
  simp only at h1 h2 h3
  rw [h1, h2, h3]
  rfl
theorem errForm_some (b : List UInt8) : errForm (some b) = 0 := rfl
theorem errForm_none : errForm (none : Option (List UInt8)) = 3 := rfl

set_option maxHeartbeats 8000000 in
set_option maxRecDepth 100000 in
theorem base64N_any (en : UInt8) (g : Nat) (s : ByteArray) (p m : Nat) (w : World) (hX : Box w g 72 (RdN s p m)) (hs : s.size ≤ 100000) (hp : p ≤ s.size) :
    Calls Tryd.prog 54 #[.pointer (some ⟨g, 0, none⟩), .int .u8 (en.toNat : Int)] w (BytesN g s m (nB64 s.data.toList p en) w) := by
  have HL : Hid (s.data.toList.length = s.size) := Lib.hid (by simp)
  obtain ⟨R, hR⟩ : ∃ R, R = nB64 s.data.toList p en := ⟨_, rfl⟩
  rw [← hR]
  have HR := Lib.hid hR
  have hgw := hX.lt
  have HX := Lib.hid hX
  clear hR hX
  have hln : (nSome b64C en (s.data.toList.drop p) p).b.length ≤ 100000 ∧ (nSome b64C en (s.data.toList.drop p) p).p ≤ 100000 := by
    have := nSome_len b64C en (s.data.toList.drop p) p
    rw [List.length_drop, HL.out] at this
    exact ⟨by omega, by omega⟩
  go_enter Tryd.func54, Tryd.ntmps54
  go_wp2_with fail
  refine (untilN_any b64C en ⟨b64sL.toArray⟩ good64 g s p m w HX.out (by omega) hp).mono ?_
  rintro e w1 ⟨b1, ⟨h1, rfl⟩ | ⟨h1, rfl, X1⟩⟩
  · unfold FaultN
    go_wp2_with fail
    exact ⟨rfl, bn_no (by rw [HR.out]; unfold nB64; dsimp only; rw [if_pos h1]) h1 b1⟩
  · have HX1 := Lib.hid X1
    have HB1 := Lib.hid b1
    have H1 := Lib.hid h1
    have HLN := Lib.hid hln
    clear X1 b1 h1 hln
    obtain ⟨x, hx⟩ : ∃ x, x = nSome b64C en (s.data.toList.drop p) p := ⟨_, rfl⟩
    rw [← hx] at HX1 H1 HLN ⊢
    have HXX := Lib.hid hx
    clear hx
    go_wp2_with fail
    refine (unbO_any ⟨x.b.toArray⟩ w1 (by have := HLN.out; show x.b.toArray.size ≤ _; simp; omega)).mono ?_
    rintro e w2 ⟨a, n, c, rfl, s2, i2, b2⟩
    have hdl : (ByteArray.mk x.b.toArray).data.toList = x.b := by simp
    rw [hdl] at s2 ⊢
    have X2 := HX1.out.after b2
    have x1 := X2.cell 1 rfl
    have f1 := X2.frozen 1
    have HX2 := Lib.hid X2
    have HS2 := Lib.hid s2
    have HI2 := Lib.hid i2
    have HB2 := Lib.hid (HB1.out.trans (But.ofBelow (S := fun _ => False) b2) (fun _ h => h.elim))
    have hz12 := HB1.out.size
    have hxp : (x.p : Int) ≤ 1000000 := by have := HLN.out.2; omega
    clear X2 s2 i2 b2 hdl
    cases hu : unb64 x.b with
    | none =>
      rw [errForm_none]
      have HU := Lib.hid hu
      clear hu
      go_wp2_with fail
      refine (wrong_any x.p 3 _).mono ?_
      rintro e w3 ⟨rfl, rfl⟩
      unfold FaultN
      go_wp2_with fail
      exact ⟨rfl, bn_no (by rw [HR.out]; unfold nB64; dsimp only; rw [← HXX.out, if_neg (by rw [H1.out]; simp), HU.out]) (by decide) HB2.out⟩
    | some b =>
      rw [errForm_some]
      have HU := Lib.hid hu
      rw [hu] at HS2
      clear hu
      go_wp2_with fail
      have e4 : But (fun k => k = g) w2 (w2.setCell ⟨g, 1, none⟩ (.int .i64 ((x.p : Int) + 1))) := (But.refl (fun k => k = g) w2).setCell (p := ⟨g, 1, none⟩) (.inl rfl) _
      go_ret
      exact bn_yes (by rw [HR.out]; unfold nB64; dsimp only; rw [← HXX.out, if_neg (by rw [H1.out]; simp), HU.out]; rfl) (HB2.out.setCell (p := ⟨g, 1, none⟩) (.inl rfl) _) (HS2.out.but e4 HI2.out (fun k hk => by omega)) (HI2.out.mono fun k hk => by omega) (HX2.out.set 1 _)

theorem hexIdx_big (c : UInt8) (h : 65 ≤ c.toNat ∧ c.toNat ≤ 70) (w : World) : Calls Tryd.prog 63 #[.string ⟨#[48, 49, 50, 51, 52, 53, 54, 55, 56, 57, 97, 98, 99, 100, 101, 102]⟩, .int .u8 ((c.toNat : Int) + 32)] w fun e w' => e = .returned (.int .i64 (hvalI c)) ∧ w' = w := by
  have hb := hvalI_big ⟨c.toNat, c.toNat_lt⟩
  simp only [UInt8.ofNat_toNat] at hb
  refine (Tryd.strings_IndexByte _ _ _).mono ?_
  rintro e w1 ⟨rfl, hw⟩
  refine ⟨?_, hw⟩
  rw [← hb h.1 h.2]
  rfl
theorem hexIdx_small (c : UInt8) (h : ¬ (65 ≤ c.toNat ∧ c.toNat ≤ 70)) (w : World) : Calls Tryd.prog 63 #[.string ⟨#[48, 49, 50, 51, 52, 53, 54, 55, 56, 57, 97, 98, 99, 100, 101, 102]⟩, .int .u8 (c.toNat : Int)] w fun e w' => e = .returned (.int .i64 (hvalI c)) ∧ w' = w := by
  have hb := hvalI_small ⟨c.toNat, c.toNat_lt⟩
  simp only [UInt8.ofNat_toNat] at hb
  refine (Tryd.strings_IndexByte _ _ _).mono ?_
  rintro e w1 ⟨rfl, hw⟩
  refine ⟨?_, hw⟩
  rw [← hb h]
  have e : ((c.toNat : Int).toNat.toUInt8) = c := by simp
  show Ending.returned (.int .i64 (Lib.indexByte hexB.data.toList ((c.toNat : Int).toNat.toUInt8))) = _
  rw [e]
/-- one byte that was read -/
def ByteN (g : Nat) (s : ByteArray) (m : Nat) (R : BR) (w : World) (e : Ending) (w' : World) : Prop :=
  But (fun k => k = g) w w' ∧ ((R.e ≠ 0 ∧ e = FaultN R.p R.e) ∨ (R.e = 0 ∧ ∃ c : UInt8, R.b = [c] ∧ e = .returned (.int .u8 (c.toNat : Int)) ∧ Box w' g 72 (RdN s R.p m)))
theorem by_no {g : Nat} {s : ByteArray} {m p e : Nat} {R : BR} (h : R = BR.err p e) (he : e ≠ 0) {w w' : World} (hb : But (fun k => k = g) w w') : ByteN g s m R w (FaultN p e) w' := by
  subst h
  exact ⟨hb, .inl ⟨he, rfl⟩⟩
theorem by_yes {g : Nat} {s : ByteArray} {m p : Nat} {c : UInt8} {R : BR} (h : R = ⟨[c], p, 0⟩) {w w' : World} (hb : But (fun k => k = g) w w') {z : Int} (hz : z = (c.toNat : Int)) (hX : Box w' g 72 (RdN s p m)) : ByteN g s m R w (.returned (.int .u8 z)) w' := by
  subst h hz
  exact ⟨hb, .inr ⟨rfl, c, rfl, rfl, hX⟩⟩
theorem nDigs_short {base : Nat} {l : List UInt8} {k F p X : Nat} (h : l.length ≤ p) : nDigs base l (k + 1) F p X = BR.err l.length 2 := by unfold nDigs; rw [if_pos h]
theorem nDigs_none {base : Nat} {l : List UInt8} {k F p X : Nat} (h : p < l.length) (hv : hval (l.getD p 0).toNat = none) : nDigs base l (k + 1) F p X = BR.err p 3 := by unfold nDigs; rw [if_neg (by omega), hv]
theorem nDigs_big {base : Nat} {l : List UInt8} {k F p X d : Nat} (h : p < l.length) (hv : hval (l.getD p 0).toNat = some d) (hd : ¬ (d < base ∧ d ≤ F)) : nDigs base l (k + 1) F p X = BR.err p 3 := by unfold nDigs; rw [if_neg (by omega), hv]; exact if_neg hd
theorem nDigs_more {base : Nat} {l : List UInt8} {k F p X d : Nat} (h : p < l.length) (hv : hval (l.getD p 0).toNat = some d) (hd : d < base ∧ d ≤ F) : nDigs base l (k + 1) F p X = nDigs base l k base (p + 1) (X * base + d) := by rw [nDigs, if_neg (by omega), hv]; exact if_pos hd
theorem digs_step {X d base j : Nat} (hX : X < 16 ^ j) (hd : d < 16) (hb : base ≤ 16) : X * base + d < 16 ^ (j + 1) := by
  have h1 : X * base ≤ X * 16 := Nat.mul_le_mul_left _ hb
  have h2 : (X + 1) * 16 ≤ 16 ^ j * 16 := Nat.mul_le_mul_right _ hX
  rw [Nat.pow_succ]
  omega
theorem digs_small {X j : Nat} (hX : X < 16 ^ j) (hj : j ≤ 3) : X < 4096 := Nat.lt_of_lt_of_le hX (Nat.pow_le_pow_right (n := 16) (by omega) hj)

set_option maxHeartbeats 16000000 in
set_option maxRecDepth 100000 in
theorem digitsN_any (n base first : Nat) (hn : n ≤ 3) (hb : base ≤ 16) (hf : first ≤ 16) (g : Nat) (s : ByteArray) (p m : Nat) (w : World) (hX : Box w g 72 (RdN s p m)) (hs : s.size ≤ 100000) (hp : p ≤ s.size) :
    Calls Tryd.prog 102 #[.pointer (some ⟨g, 0, none⟩), .int .i64 n, .int .i64 base, .int .i64 first] w (ByteN g s m (nDigs base s.data.toList n first p 0) w) := by
  have HL : Hid (s.data.toList.length = s.size) := Lib.hid (by simp)
  obtain ⟨R, hR⟩ : ∃ R, R = nDigs base s.data.toList n first p 0 := ⟨_, rfl⟩
  rw [← hR]
  have HR := Lib.hid hR
  have HX := Lib.hid hX
  clear hR hX
  go_enter Tryd.func102, Tryd.ntmps102
  go_wp2_with fail
  go_loopw [3, 9, 13] (fun f x i wr => ∃ (j k F X : Nat), j ≤ n ∧ k ≤ s.size ∧ f = .int .i64 F ∧ x = .int .i64 X ∧ i = .int .i64 j ∧ X < 16 ^ j ∧ F ≤ 16 ∧ Hid (nDigs base s.data.toList (n - j) F k X = R) ∧ Box wr g 72 (RdN s k m) ∧ But (fun k => k = g) w wr) (fun _ _ i _ => n - (intOf i).toNat)
  case atStart => exact ⟨0, p, first, 0, Nat.zero_le _, hp, rfl, rfl, rfl, by simp, hf, Lib.hid HR.out.symm, HX.out, But.refl _ _⟩
  case round =>
    obtain ⟨j, k, F, X, hj, hk, rfl, rfl, rfl, hXs, hF, HR2, hX2, hbut⟩ := hrel
    clear HX HR
    have HX := Lib.hid hX2
    have HBU := Lib.hid hbut
    clear hX2 hbut
    have hXm := digs_small hXs (by omega)
    by_cases hlt : j < n
    · have hlt' : (j : Int) < n := by omega
      rw [show n - j = n - (j + 1) + 1 by omega] at HR2
      go_wp2_with fail
      refine (peek_any g s k m wr HX.out (by omega)).mono ?_
      rintro e w1 ⟨hb1, ⟨h1, rfl⟩ | ⟨h1, rfl⟩⟩
      · unfold FaultN
        go_wp2_with fail
        exact ⟨rfl, by_no (by rw [← HR2.out, nDigs_short (by rw [HL.out]; exact h1), HL.out]) (by decide) (HBU.out.trans (But.ofBelow (S := fun _ => False) hb1) (fun _ h => h.elim))⟩
      · obtain ⟨x, hx⟩ : ∃ x, x = s.data.toList.getD k 0 := ⟨_, rfl⟩
        rw [← hx]
        have HXC := Lib.hid hx
        have X1 := Lib.hid (HX.out.after hb1)
        have U1 := Lib.hid (HBU.out.trans (But.ofBelow (S := fun _ => False) hb1) (fun _ h => h.elim))
        have x1 := X1.out.cell 1 rfl
        have f1 := X1.out.frozen 1
        have hx255 := x.toNat_lt
        clear hx hb1 HX HBU
        by_cases c1 : (65 : Int) ≤ (x.toNat : Int)
        · by_cases c2 : (x.toNat : Int) ≤ 70
          · have cc : 65 ≤ x.toNat ∧ x.toNat ≤ 70 := by omega
            go_wp2_with fail
            refine (hexIdx_big x cc _).mono ?_
            rintro e w2 ⟨rfl, rfl⟩
            cases hv : hval x.toNat with
            | none =>
              rw [hvalI_none x hv]
              have HV := Lib.hid hv
              clear hv
              go_wp2_with fail
              refine (wrong_any k 3 _).mono ?_
              rintro e w3 ⟨rfl, rfl⟩
              unfold FaultN
              go_wp2_with fail
              exact ⟨rfl, by_no (by rw [← HR2.out]; exact nDigs_none (by rw [HL.out]; exact h1) (by rw [← HXC.out]; exact HV.out)) (by decide) U1.out⟩
            | some d =>
              rw [hvalI_some x d hv]
              have hd16 := hval_lt _ _ hv
              have HV := Lib.hid hv
              clear hv
              by_cases hdb : d < base
              · have q1 : (d : Int) < base := by omega
                by_cases hdf : d ≤ F
                · have q2 : (d : Int) ≤ F := by omega
                  have hst := digs_step hXs hd16 hb
                  have hsm := digs_small hst (by omega)
                  obtain ⟨Y, hY⟩ : ∃ Y, Y = X * base + d := ⟨_, rfl⟩
                  have qY : (X : Int) * (base : Int) + (d : Int) = (Y : Int) := by rw [hY]; simp
                  have qm : (X : Int) * (base : Int) ≤ 1000000 := by
                    have : ((X * base : Nat) : Int) ≤ 1000000 := by omega
                    simpa using this
                  have qm0 : (0 : Int) ≤ (X : Int) * (base : Int) := by
                    have : (0 : Int) ≤ ((X * base : Nat) : Int) := Int.natCast_nonneg _
                    simpa using this
                  rw [← hY] at hst hsm
                  have HY := Lib.hid hY
                  clear hY
                  have HN2 := Lib.hid (show nDigs base s.data.toList (n - (j + 1)) base (k + 1) Y = R by
                    rw [← HR2.out, nDigs_more (by rw [HL.out]; exact h1) (by rw [← HXC.out]; exact HV.out) ⟨hdb, hdf⟩, HY.out])
                  have hk6 : (k : Int) ≤ 1000000 := by omega
                  clear HV HR2
                  go_wp2_with fail
                  have X4 : Box (w2.setCell ⟨g, 1, none⟩ (.int .i64 ((k : Int) + 1))) g 72 (RdN s (k + 1) m) := X1.out.set 1 _
                  go_roundw
                  case rel => exact ⟨j + 1, k + 1, base, Y, by omega, by omega, by rfl, by first | rfl | (rw [← qY]; rfl), by go_num, hst, hb, HN2, X4, U1.out.setCell (p := ⟨g, 1, none⟩) (.inl rfl) _⟩
                  case measure => simp [intOf]; omega
                · have q2 : (F : Int) < (d : Int) := by omega
                  go_wp2_with fail
                  refine (wrong_any k 3 _).mono ?_
                  rintro e w3 ⟨rfl, rfl⟩
                  unfold FaultN
                  go_wp2_with fail
                  exact ⟨rfl, by_no (by rw [← HR2.out]; exact nDigs_big (by rw [HL.out]; exact h1) (by rw [← HXC.out]; exact HV.out) (fun h => hdf h.2)) (by decide) U1.out⟩
              · have q1 : (base : Int) ≤ (d : Int) := by omega
                go_wp2_with fail
                refine (wrong_any k 3 _).mono ?_
                rintro e w3 ⟨rfl, rfl⟩
                unfold FaultN
                go_wp2_with fail
                exact ⟨rfl, by_no (by rw [← HR2.out]; exact nDigs_big (by rw [HL.out]; exact h1) (by rw [← HXC.out]; exact HV.out) (fun h => hdb h.1)) (by decide) U1.out⟩
          · replace c2 : (70 : Int) < (x.toNat : Int) := by omega
            have cc : ¬ (65 ≤ x.toNat ∧ x.toNat ≤ 70) := by omega
            go_wp2_with fail
            refine (hexIdx_small x cc _).mono ?_
            rintro e w2 ⟨rfl, rfl⟩
            cases hv : hval x.toNat with
            | none =>
              rw [hvalI_none x hv]
              have HV := Lib.hid hv
              clear hv
              go_wp2_with fail
              refine (wrong_any k 3 _).mono ?_
              rintro e w3 ⟨rfl, rfl⟩
              unfold FaultN
              go_wp2_with fail
              exact ⟨rfl, by_no (by rw [← HR2.out]; exact nDigs_none (by rw [HL.out]; exact h1) (by rw [← HXC.out]; exact HV.out)) (by decide) U1.out⟩
            | some d =>
              rw [hvalI_some x d hv]
              have hd16 := hval_lt _ _ hv
              have HV := Lib.hid hv
              clear hv
              by_cases hdb : d < base
              · have q1 : (d : Int) < base := by omega
                by_cases hdf : d ≤ F
                · have q2 : (d : Int) ≤ F := by omega
                  have hst := digs_step hXs hd16 hb
                  have hsm := digs_small hst (by omega)
                  obtain ⟨Y, hY⟩ : ∃ Y, Y = X * base + d := ⟨_, rfl⟩
                  have qY : (X : Int) * (base : Int) + (d : Int) = (Y : Int) := by rw [hY]; simp
                  have qm : (X : Int) * (base : Int) ≤ 1000000 := by
                    have : ((X * base : Nat) : Int) ≤ 1000000 := by omega
                    simpa using this
                  have qm0 : (0 : Int) ≤ (X : Int) * (base : Int) := by
                    have : (0 : Int) ≤ ((X * base : Nat) : Int) := Int.natCast_nonneg _
                    simpa using this
                  rw [← hY] at hst hsm
                  have HY := Lib.hid hY
                  clear hY
                  have HN2 := Lib.hid (show nDigs base s.data.toList (n - (j + 1)) base (k + 1) Y = R by
                    rw [← HR2.out, nDigs_more (by rw [HL.out]; exact h1) (by rw [← HXC.out]; exact HV.out) ⟨hdb, hdf⟩, HY.out])
                  have hk6 : (k : Int) ≤ 1000000 := by omega
                  clear HV HR2
                  go_wp2_with fail
                  have X4 : Box (w2.setCell ⟨g, 1, none⟩ (.int .i64 ((k : Int) + 1))) g 72 (RdN s (k + 1) m) := X1.out.set 1 _
                  go_roundw
                  case rel => exact ⟨j + 1, k + 1, base, Y, by omega, by omega, by rfl, by first | rfl | (rw [← qY]; rfl), by go_num, hst, hb, HN2, X4, U1.out.setCell (p := ⟨g, 1, none⟩) (.inl rfl) _⟩
                  case measure => simp [intOf]; omega
                · have q2 : (F : Int) < (d : Int) := by omega
                  go_wp2_with fail
                  refine (wrong_any k 3 _).mono ?_
                  rintro e w3 ⟨rfl, rfl⟩
                  unfold FaultN
                  go_wp2_with fail
                  exact ⟨rfl, by_no (by rw [← HR2.out]; exact nDigs_big (by rw [HL.out]; exact h1) (by rw [← HXC.out]; exact HV.out) (fun h => hdf h.2)) (by decide) U1.out⟩
              · have q1 : (base : Int) ≤ (d : Int) := by omega
                go_wp2_with fail
                refine (wrong_any k 3 _).mono ?_
                rintro e w3 ⟨rfl, rfl⟩
                unfold FaultN
                go_wp2_with fail
                exact ⟨rfl, by_no (by rw [← HR2.out]; exact nDigs_big (by rw [HL.out]; exact h1) (by rw [← HXC.out]; exact HV.out) (fun h => hdb h.1)) (by decide) U1.out⟩
        · replace c1 : (x.toNat : Int) < 65 := by omega
          have cc : ¬ (65 ≤ x.toNat ∧ x.toNat ≤ 70) := by omega
          go_wp2_with fail
          refine (hexIdx_small x cc _).mono ?_
          rintro e w2 ⟨rfl, rfl⟩
          cases hv : hval x.toNat with
          | none =>
            rw [hvalI_none x hv]
            have HV := Lib.hid hv
            clear hv
            go_wp2_with fail
            refine (wrong_any k 3 _).mono ?_
            rintro e w3 ⟨rfl, rfl⟩
            unfold FaultN
            go_wp2_with fail
            exact ⟨rfl, by_no (by rw [← HR2.out]; exact nDigs_none (by rw [HL.out]; exact h1) (by rw [← HXC.out]; exact HV.out)) (by decide) U1.out⟩
          | some d =>
            rw [hvalI_some x d hv]
            have hd16 := hval_lt _ _ hv
            have HV := Lib.hid hv
            clear hv
            by_cases hdb : d < base
            · have q1 : (d : Int) < base := by omega
              by_cases hdf : d ≤ F
              · have q2 : (d : Int) ≤ F := by omega
                have hst := digs_step hXs hd16 hb
                have hsm := digs_small hst (by omega)
                obtain ⟨Y, hY⟩ : ∃ Y, Y = X * base + d := ⟨_, rfl⟩
                have qY : (X : Int) * (base : Int) + (d : Int) = (Y : Int) := by rw [hY]; simp
                have qm : (X : Int) * (base : Int) ≤ 1000000 := by
                  have : ((X * base : Nat) : Int) ≤ 1000000 := by omega
                  simpa using this
                have qm0 : (0 : Int) ≤ (X : Int) * (base : Int) := by
                  have : (0 : Int) ≤ ((X * base : Nat) : Int) := Int.natCast_nonneg _
                  simpa using this
                rw [← hY] at hst hsm
                have HY := Lib.hid hY
                clear hY
                have HN2 := Lib.hid (show nDigs base s.data.toList (n - (j + 1)) base (k + 1) Y = R by
                  rw [← HR2.out, nDigs_more (by rw [HL.out]; exact h1) (by rw [← HXC.out]; exact HV.out) ⟨hdb, hdf⟩, HY.out])
                have hk6 : (k : Int) ≤ 1000000 := by omega
                clear HV HR2
                go_wp2_with fail
                have X4 : Box (w2.setCell ⟨g, 1, none⟩ (.int .i64 ((k : Int) + 1))) g 72 (RdN s (k + 1) m) := X1.out.set 1 _
                go_roundw
                case rel => exact ⟨j + 1, k + 1, base, Y, by omega, by omega, by rfl, by first | rfl | (rw [← qY]; rfl), by go_num, hst, hb, HN2, X4, U1.out.setCell (p := ⟨g, 1, none⟩) (.inl rfl) _⟩
                case measure => simp [intOf]; omega
              · have q2 : (F : Int) < (d : Int) := by omega
                go_wp2_with fail
                refine (wrong_any k 3 _).mono ?_
                rintro e w3 ⟨rfl, rfl⟩
                unfold FaultN
                go_wp2_with fail
                exact ⟨rfl, by_no (by rw [← HR2.out]; exact nDigs_big (by rw [HL.out]; exact h1) (by rw [← HXC.out]; exact HV.out) (fun h => hdf h.2)) (by decide) U1.out⟩
            · have q1 : (base : Int) ≤ (d : Int) := by omega
              go_wp2_with fail
              refine (wrong_any k 3 _).mono ?_
              rintro e w3 ⟨rfl, rfl⟩
              unfold FaultN
              go_wp2_with fail
              exact ⟨rfl, by_no (by rw [← HR2.out]; exact nDigs_big (by rw [HL.out]; exact h1) (by rw [← HXC.out]; exact HV.out) (fun h => hdb h.1)) (by decide) U1.out⟩
    · obtain rfl : j = n := by omega
      have hlt' : ¬ (j : Int) < j := by omega
      go_wp2_with fail
      go_ret
      exact by_yes (c := UInt8.ofNat X) (by rw [← HR2.out, Nat.sub_self]; rfl) HBU.out (by simp) HX.out

end Go.Proofs.YtkbblhioncecmaaDoor

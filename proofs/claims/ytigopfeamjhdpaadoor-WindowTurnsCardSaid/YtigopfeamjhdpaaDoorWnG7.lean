/- The program's reader of advanced forms: base64, length, digits, what is escaped and quoted. The program's reader of advanced forms: what is escaped, what is quoted, bytes with their length. The program's reader of advanced forms: bytes with their length, plain atoms. Advanced forms in plain words: the places behind what is read. -/
import Derived.Test.YtigopfeamjhdpaaDoorWnG6
namespace Go.Proofs.YtigopfeamjhdpaaDoor
open Go.RowKit
set_option linter.unusedSimpArgs false
set_option linter.unusedVariables false

theorem isIn_of {L : List UInt8} {f : UInt8 → Bool} (h : ∀ n : Fin 256, isIn L (n.val.toUInt8) = f (n.val.toUInt8)) (c : UInt8) : isIn L c = f c := by have := h ⟨c.toNat, c.toNat_lt⟩; rwa [byte_fin] at this
theorem good64 (c : UInt8) : isIn (ByteArray.mk b64sL.toArray).data.toList c = b64C c := isIn_of isIn_b64 c
theorem good16 (c : UInt8) : isIn (ByteArray.mk hexsL.toArray).data.toList c = hexC c := isIn_of isIn_hex c
theorem nSome_len (good : UInt8 → Bool) (en : UInt8) : ∀ (l : List UInt8) (p : Nat), (nSome good en l p).b.length ≤ l.length ∧ (nSome good en l p).p ≤ p + l.length ∧ ((nSome good en l p).e = 0 → (nSome good en l p).p < p + l.length) ∧ p ≤ (nSome good en l p).p ∧ (nSome good en l p).e ≤ 3
  | [], p => by simp [nSome, BR.err]
  | c :: r, p => by
    have ih := nSome_len good en r (p + 1)
    unfold nSome
    split
    · simp
    · split
      · simp [BR.err]
      · dsimp only
        split
        · rename_i h0
          have := ih.2.2.1 h0
          refine ⟨?_, by simp only [List.length_cons]; omega, fun _ => by simp only [List.length_cons]; omega, by dsimp only; omega, by simp⟩
          simp only [List.length_cons]
          split
          · simp only [List.length_cons]; omega
          · omega
        · rename_i h0
          refine ⟨by simp only [List.length_cons]; omega, by simp only [List.length_cons]; omega, fun h => absurd h h0, by omega, ih.2.2.2.2⟩
/-- bytes that were read: a fault, or they, the call's own -/
def BytesN (g : Nat) (s : ByteArray) (m : Nat) (R : BR) (w : World) (e : Ending) (w' : World) : Prop :=
  But (fun k => k = g) w w' ∧ ((R.e ≠ 0 ∧ e = FaultN R.p R.e) ∨ (R.e = 0 ∧ ∃ a n c, e = .returned (.slice a n c) ∧ Sl w' a n c R.b ∧ InB (fun k => w.heap.size ≤ k) a n ∧ Box w' g 79 (RdN s R.p m)))
theorem bn_no {g : Nat} {s : ByteArray} {m p e : Nat} {R : BR} (h : R = BR.err p e) (he : e ≠ 0) {w w' : World} (hb : But (fun k => k = g) w w') : BytesN g s m R w (FaultN p e) w' := by
  subst h
  exact ⟨hb, .inl ⟨he, rfl⟩⟩
theorem bn_yes {g : Nat} {s : ByteArray} {m p : Nat} {b : List UInt8} {R : BR} (h : R = ⟨b, p, 0⟩) {w w' : World} (hb : But (fun k => k = g) w w') {a : Option Addr} {n c : Nat} (hs : Sl w' a n c b) (hi : InB (fun k => w.heap.size ≤ k) a n) (hX : Box w' g 79 (RdN s p m)) : BytesN g s m R w (.returned (.slice a n c)) w' := by
  subst h
  exact ⟨hb, .inr ⟨rfl, a, n, c, rfl, hs, hi, hX⟩⟩
theorem BR.eta {R : BR} {p e : Nat} (h1 : R.p = p) (h2 : R.e = e) (h3 : R.b = []) : R = BR.err p e := by
  obtain ⟨b, p', e'⟩ := R
  simp only at h1 h2 h3
  rw [h1, h2, h3]
  rfl
theorem errForm_some (b : List UInt8) : errForm (some b) = 0 := rfl
theorem errForm_none : errForm (none : Option (List UInt8)) = 3 := rfl

set_option maxHeartbeats 8000000 in
set_option maxRecDepth 100000 in
theorem base64N_any (en : UInt8) (g : Nat) (s : ByteArray) (p m : Nat) (w : World) (hX : Box w g 79 (RdN s p m)) (hs : s.size ≤ 100000) (hp : p ≤ s.size) :
    Calls Tryd.prog 74 #[.pointer (some ⟨g, 0, none⟩), .int .u8 (en.toNat : Int)] w (BytesN g s m (nB64 s.data.toList p en) w) := by
  have HL : Hid (s.data.toList.length = s.size) := Lib.hid (by simp)
  obtain ⟨R, hR⟩ : ∃ R, R = nB64 s.data.toList p en := ⟨_, rfl⟩
  rw [← hR]
  have HR := Lib.hid hR
  have hgw := hX.lt
  have HX := Lib.hid hX
  clear hR hX
  have hln : (nSome b64C en (s.data.toList.drop p) p).b.length ≤ 100000 ∧ (nSome b64C en (s.data.toList.drop p) p).p ≤ 100000 := by
    have := nSome_len b64C en (s.data.toList.drop p) p
    rw [List.length_drop, HL.out] at this
    exact ⟨by omega, by omega⟩
  go_enter Tryd.func74, Tryd.ntmps74
  go_wp2_with fail
  refine (untilN_any b64C en ⟨b64sL.toArray⟩ good64 g s p m w HX.out (by omega) hp).mono ?_
  rintro e w1 ⟨b1, ⟨h1, rfl⟩ | ⟨h1, rfl, X1⟩⟩
  · unfold FaultN
    go_wp2_with fail
    exact ⟨rfl, bn_no (by rw [HR.out]; unfold nB64; dsimp only; rw [if_pos h1]) h1 b1⟩
  · have HX1 := Lib.hid X1
    have HB1 := Lib.hid b1
    have H1 := Lib.hid h1
    have HLN := Lib.hid hln
    clear X1 b1 h1 hln
    obtain ⟨x, hx⟩ : ∃ x, x = nSome b64C en (s.data.toList.drop p) p := ⟨_, rfl⟩
    rw [← hx] at HX1 H1 HLN ⊢
    have HXX := Lib.hid hx
    clear hx
    go_wp2_with fail
    refine (unbO_any ⟨x.b.toArray⟩ w1 (by have := HLN.out; show x.b.toArray.size ≤ _; simp; omega)).mono ?_
    rintro e w2 ⟨a, n, c, rfl, s2, i2, b2⟩
    have hdl : (ByteArray.mk x.b.toArray).data.toList = x.b := by simp
    rw [hdl] at s2 ⊢
    have X2 := HX1.out.after b2
    have x1 := X2.cell 1 rfl
    have f1 := X2.frozen 1
    have HX2 := Lib.hid X2
    have HS2 := Lib.hid s2
    have HI2 := Lib.hid i2
    have HB2 := Lib.hid (HB1.out.trans (But.ofBelow (S := fun _ => False) b2) (fun _ h => h.elim))
    have hz12 := HB1.out.size
    have hxp : (x.p : Int) ≤ 1000000 := by have := HLN.out.2; omega
    clear X2 s2 i2 b2 hdl
    cases hu : unb64 x.b with
    | none =>
      rw [errForm_none]
      have HU := Lib.hid hu
      clear hu
      go_wp2_with fail
      refine (wrong_any x.p 3 _).mono ?_
      rintro e w3 ⟨rfl, rfl⟩
      unfold FaultN
      go_wp2_with fail
      exact ⟨rfl, bn_no (by rw [HR.out]; unfold nB64; dsimp only; rw [← HXX.out, if_neg (by rw [H1.out]; simp), HU.out]) (by decide) HB2.out⟩
    | some b =>
      rw [errForm_some]
      have HU := Lib.hid hu
      rw [hu] at HS2
      clear hu
      go_wp2_with fail
      have e4 : But (fun k => k = g) w2 (w2.setCell ⟨g, 1, none⟩ (.int .i64 ((x.p : Int) + 1))) := (But.refl (fun k => k = g) w2).setCell (p := ⟨g, 1, none⟩) (.inl rfl) _
      go_ret
      exact bn_yes (by rw [HR.out]; unfold nB64; dsimp only; rw [← HXX.out, if_neg (by rw [H1.out]; simp), HU.out]; rfl) (HB2.out.setCell (p := ⟨g, 1, none⟩) (.inl rfl) _) (HS2.out.but e4 HI2.out (fun k hk => by omega)) (HI2.out.mono fun k hk => by omega) (HX2.out.set 1 _)

theorem hexIdx_big (c : UInt8) (h : 65 ≤ c.toNat ∧ c.toNat ≤ 70) (w : World) : Calls Tryd.prog 69 #[.string ⟨#[48, 49, 50, 51, 52, 53, 54, 55, 56, 57, 97, 98, 99, 100, 101, 102]⟩, .int .u8 ((c.toNat : Int) + 32)] w fun e w' => e = .returned (.int .i64 (hvalI c)) ∧ w' = w := by
  have hb := hvalI_big ⟨c.toNat, c.toNat_lt⟩
  simp only [UInt8.ofNat_toNat] at hb
  refine (Tryd.strings_IndexByte _ _ _).mono ?_
  rintro e w1 ⟨rfl, hw⟩
  refine ⟨?_, hw⟩
  rw [← hb h.1 h.2]
  rfl
theorem hexIdx_small (c : UInt8) (h : ¬ (65 ≤ c.toNat ∧ c.toNat ≤ 70)) (w : World) : Calls Tryd.prog 69 #[.string ⟨#[48, 49, 50, 51, 52, 53, 54, 55, 56, 57, 97, 98, 99, 100, 101, 102]⟩, .int .u8 (c.toNat : Int)] w fun e w' => e = .returned (.int .i64 (hvalI c)) ∧ w' = w := by
  have hb := hvalI_small ⟨c.toNat, c.toNat_lt⟩
  simp only [UInt8.ofNat_toNat] at hb
  refine (Tryd.strings_IndexByte _ _ _).mono ?_
  rintro e w1 ⟨rfl, hw⟩
  refine ⟨?_, hw⟩
  rw [← hb h]
  have e : ((c.toNat : Int).toNat.toUInt8) = c := by simp
  show Ending.returned (.int .i64 (Lib.indexByte hexB.data.toList ((c.toNat : Int).toNat.toUInt8))) = _
  rw [e]
/-- one byte that was read -/
def ByteN (g : Nat) (s : ByteArray) (m : Nat) (R : BR) (w : World) (e : Ending) (w' : World) : Prop :=
  But (fun k => k = g) w w' ∧ ((R.e ≠ 0 ∧ e = FaultN R.p R.e) ∨ (R.e = 0 ∧ ∃ c : UInt8, R.b = [c] ∧ e = .returned (.int .u8 (c.toNat : Int)) ∧ Box w' g 79 (RdN s R.p m)))
theorem by_no {g : Nat} {s : ByteArray} {m p e : Nat} {R : BR} (h : R = BR.err p e) (he : e ≠ 0) {w w' : World} (hb : But (fun k => k = g) w w') : ByteN g s m R w (FaultN p e) w' := by
  subst h
  exact ⟨hb, .inl ⟨he, rfl⟩⟩
theorem by_yes {g : Nat} {s : ByteArray} {m p : Nat} {c : UInt8} {R : BR} (h : R = ⟨[c], p, 0⟩) {w w' : World} (hb : But (fun k => k = g) w w') {z : Int} (hz : z = (c.toNat : Int)) (hX : Box w' g 79 (RdN s p m)) : ByteN g s m R w (.returned (.int .u8 z)) w' := by
  subst h hz
  exact ⟨hb, .inr ⟨rfl, c, rfl, rfl, hX⟩⟩
theorem nDigs_short {base : Nat} {l : List UInt8} {k F p X : Nat} (h : l.length ≤ p) : nDigs base l (k + 1) F p X = BR.err l.length 2 := by unfold nDigs; rw [if_pos h]
theorem nDigs_none {base : Nat} {l : List UInt8} {k F p X : Nat} (h : p < l.length) (hv : hval (l.getD p 0).toNat = none) : nDigs base l (k + 1) F p X = BR.err p 3 := by unfold nDigs; rw [if_neg (by omega), hv]
theorem nDigs_big {base : Nat} {l : List UInt8} {k F p X d : Nat} (h : p < l.length) (hv : hval (l.getD p 0).toNat = some d) (hd : ¬ (d < base ∧ d ≤ F)) : nDigs base l (k + 1) F p X = BR.err p 3 := by unfold nDigs; rw [if_neg (by omega), hv]; exact if_neg hd
theorem nDigs_more {base : Nat} {l : List UInt8} {k F p X d : Nat} (h : p < l.length) (hv : hval (l.getD p 0).toNat = some d) (hd : d < base ∧ d ≤ F) : nDigs base l (k + 1) F p X = nDigs base l k base (p + 1) (X * base + d) := by rw [nDigs, if_neg (by omega), hv]; exact if_pos hd
theorem digs_step {X d base j : Nat} (hX : X < 16 ^ j) (hd : d < 16) (hb : base ≤ 16) : X * base + d < 16 ^ (j + 1) := by
  have h1 : X * base ≤ X * 16 := Nat.mul_le_mul_left _ hb
  have h2 : (X + 1) * 16 ≤ 16 ^ j * 16 := Nat.mul_le_mul_right _ hX
  rw [Nat.pow_succ]
  omega
theorem digs_small {X j : Nat} (hX : X < 16 ^ j) (hj : j ≤ 3) : X < 4096 := Nat.lt_of_lt_of_le hX (Nat.pow_le_pow_right (n := 16) (by omega) hj)

set_option maxHeartbeats 16000000 in
set_option maxRecDepth 100000 in
theorem digitsN_any (n base first : Nat) (hn : n ≤ 3) (hb : base ≤ 16) (hf : first ≤ 16) (g : Nat) (s : ByteArray) (p m : Nat) (w : World) (hX : Box w g 79 (RdN s p m)) (hs : s.size ≤ 100000) (hp : p ≤ s.size) :
    Calls Tryd.prog 85 #[.pointer (some ⟨g, 0, none⟩), .int .i64 n, .int .i64 base, .int .i64 first] w (ByteN g s m (nDigs base s.data.toList n first p 0) w) := by
  have HL : Hid (s.data.toList.length = s.size) := Lib.hid (by simp)
  obtain ⟨R, hR⟩ : ∃ R, R = nDigs base s.data.toList n first p 0 := ⟨_, rfl⟩
  rw [← hR]
  have HR := Lib.hid hR
  have HX := Lib.hid hX
  clear hR hX
  go_enter Tryd.func85, Tryd.ntmps85
  go_wp2_with fail
  go_loopw [3, 9, 13] (fun f x i wr => ∃ (j k F X : Nat), j ≤ n ∧ k ≤ s.size ∧ f = .int .i64 F ∧ x = .int .i64 X ∧ i = .int .i64 j ∧ X < 16 ^ j ∧ F ≤ 16 ∧ Hid (nDigs base s.data.toList (n - j) F k X = R) ∧ Box wr g 79 (RdN s k m) ∧ But (fun k => k = g) w wr) (fun _ _ i _ => n - (intOf i).toNat)
  case atStart => exact ⟨0, p, first, 0, Nat.zero_le _, hp, rfl, rfl, rfl, by simp, hf, Lib.hid HR.out.symm, HX.out, But.refl _ _⟩
  case round =>
    obtain ⟨j, k, F, X, hj, hk, rfl, rfl, rfl, hXs, hF, HR2, hX2, hbut⟩ := hrel
    clear HX HR
    have HX := Lib.hid hX2
    have HBU := Lib.hid hbut
    clear hX2 hbut
    have hXm := digs_small hXs (by omega)
    by_cases hlt : j < n
    · have hlt' : (j : Int) < n := by omega
      rw [show n - j = n - (j + 1) + 1 by omega] at HR2
      go_wp2_with fail
      refine (peek_any g s k m wr HX.out (by omega)).mono ?_
      rintro e w1 ⟨hb1, ⟨h1, rfl⟩ | ⟨h1, rfl⟩⟩
      · unfold FaultN
        go_wp2_with fail
        exact ⟨rfl, by_no (by rw [← HR2.out, nDigs_short (by rw [HL.out]; exact h1), HL.out]) (by decide) (HBU.out.trans (But.ofBelow (S := fun _ => False) hb1) (fun _ h => h.elim))⟩
      · obtain ⟨x, hx⟩ : ∃ x, x = s.data.toList.getD k 0 := ⟨_, rfl⟩
        rw [← hx]
        have HXC := Lib.hid hx
        have X1 := Lib.hid (HX.out.after hb1)
        have U1 := Lib.hid (HBU.out.trans (But.ofBelow (S := fun _ => False) hb1) (fun _ h => h.elim))
        have x1 := X1.out.cell 1 rfl
        have f1 := X1.out.frozen 1
        have hx255 := x.toNat_lt
        clear hx hb1 HX HBU
        by_cases c1 : (65 : Int) ≤ (x.toNat : Int)
        · by_cases c2 : (x.toNat : Int) ≤ 70
          · have cc : 65 ≤ x.toNat ∧ x.toNat ≤ 70 := by omega
            go_wp2_with fail
            refine (hexIdx_big x cc _).mono ?_
            rintro e w2 ⟨rfl, rfl⟩
            cases hv : hval x.toNat with
            | none =>
              rw [hvalI_none x hv]
              have HV := Lib.hid hv
              clear hv
              go_wp2_with fail
              refine (wrong_any k 3 _).mono ?_
              rintro e w3 ⟨rfl, rfl⟩
              unfold FaultN
              go_wp2_with fail
              exact ⟨rfl, by_no (by rw [← HR2.out]; exact nDigs_none (by rw [HL.out]; exact h1) (by rw [← HXC.out]; exact HV.out)) (by decide) U1.out⟩
            | some d =>
              rw [hvalI_some x d hv]
              have hd16 := hval_lt _ _ hv
              have HV := Lib.hid hv
              clear hv
              by_cases hdb : d < base
              · have q1 : (d : Int) < base := by omega
                by_cases hdf : d ≤ F
                · have q2 : (d : Int) ≤ F := by omega
                  have hst := digs_step hXs hd16 hb
                  have hsm := digs_small hst (by omega)
                  obtain ⟨Y, hY⟩ : ∃ Y, Y = X * base + d := ⟨_, rfl⟩
                  have qY : (X : Int) * (base : Int) + (d : Int) = (Y : Int) := by rw [hY]; simp
                  have qm : (X : Int) * (base : Int) ≤ 1000000 := by
                    have : ((X * base : Nat) : Int) ≤ 1000000 := by omega
                    simpa using this
                  have qm0 : (0 : Int) ≤ (X : Int) * (base : Int) := by
                    have : (0 : Int) ≤ ((X * base : Nat) : Int) := Int.natCast_nonneg _
                    simpa using this
                  rw [← hY] at hst hsm
                  have HY := Lib.hid hY
                  clear hY
                  have HN2 := Lib.hid (show nDigs base s.data.toList (n - (j + 1)) base (k + 1) Y = R by
                    rw [← HR2.out, nDigs_more (by rw [HL.out]; exact h1) (by rw [← HXC.out]; exact HV.out) ⟨hdb, hdf⟩, HY.out])
                  have hk6 : (k : Int) ≤ 1000000 := by omega
                  clear HV HR2
                  go_wp2_with fail
                  have X4 : Box (w2.setCell ⟨g, 1, none⟩ (.int .i64 ((k : Int) + 1))) g 79 (RdN s (k + 1) m) := X1.out.set 1 _
                  go_roundw
                  case rel => exact ⟨j + 1, k + 1, base, Y, by omega, by omega, by rfl, by first | rfl | (rw [← qY]; rfl), by go_num, hst, hb, HN2, X4, U1.out.setCell (p := ⟨g, 1, none⟩) (.inl rfl) _⟩
                  case measure => simp [intOf]; omega
                · have q2 : (F : Int) < (d : Int) := by omega
                  go_wp2_with fail
                  refine (wrong_any k 3 _).mono ?_
                  rintro e w3 ⟨rfl, rfl⟩
                  unfold FaultN
                  go_wp2_with fail
                  exact ⟨rfl, by_no (by rw [← HR2.out]; exact nDigs_big (by rw [HL.out]; exact h1) (by rw [← HXC.out]; exact HV.out) (fun h => hdf h.2)) (by decide) U1.out⟩
              · have q1 : (base : Int) ≤ (d : Int) := by omega
                go_wp2_with fail
                refine (wrong_any k 3 _).mono ?_
                rintro e w3 ⟨rfl, rfl⟩
                unfold FaultN
                go_wp2_with fail
                exact ⟨rfl, by_no (by rw [← HR2.out]; exact nDigs_big (by rw [HL.out]; exact h1) (by rw [← HXC.out]; exact HV.out) (fun h => hdb h.1)) (by decide) U1.out⟩
          · replace c2 : (70 : Int) < (x.toNat : Int) := by omega
            have cc : ¬ (65 ≤ x.toNat ∧ x.toNat ≤ 70) := by omega
            go_wp2_with fail
            refine (hexIdx_small x cc _).mono ?_
            rintro e w2 ⟨rfl, rfl⟩
            cases hv : hval x.toNat with
            | none =>
              rw [hvalI_none x hv]
              have HV := Lib.hid hv
              clear hv
              go_wp2_with fail
              refine (wrong_any k 3 _).mono ?_
              rintro e w3 ⟨rfl, rfl⟩
              unfold FaultN
              go_wp2_with fail
              exact ⟨rfl, by_no (by rw [← HR2.out]; exact nDigs_none (by rw [HL.out]; exact h1) (by rw [← HXC.out]; exact HV.out)) (by decide) U1.out⟩
            | some d =>
              rw [hvalI_some x d hv]
              have hd16 := hval_lt _ _ hv
              have HV := Lib.hid hv
              clear hv
              by_cases hdb : d < base
              · have q1 : (d : Int) < base := by omega
                by_cases hdf : d ≤ F
                · have q2 : (d : Int) ≤ F := by omega
                  have hst := digs_step hXs hd16 hb
                  have hsm := digs_small hst (by omega)
                  obtain ⟨Y, hY⟩ : ∃ Y, Y = X * base + d := ⟨_, rfl⟩
                  have qY : (X : Int) * (base : Int) + (d : Int) = (Y : Int) := by rw [hY]; simp
                  have qm : (X : Int) * (base : Int) ≤ 1000000 := by
                    have : ((X * base : Nat) : Int) ≤ 1000000 := by omega
                    simpa using this
                  have qm0 : (0 : Int) ≤ (X : Int) * (base : Int) := by
                    have : (0 : Int) ≤ ((X * base : Nat) : Int) := Int.natCast_nonneg _
                    simpa using this
                  rw [← hY] at hst hsm
                  have HY := Lib.hid hY
                  clear hY
                  have HN2 := Lib.hid (show nDigs base s.data.toList (n - (j + 1)) base (k + 1) Y = R by
                    rw [← HR2.out, nDigs_more (by rw [HL.out]; exact h1) (by rw [← HXC.out]; exact HV.out) ⟨hdb, hdf⟩, HY.out])
                  have hk6 : (k : Int) ≤ 1000000 := by omega
                  clear HV HR2
                  go_wp2_with fail
                  have X4 : Box (w2.setCell ⟨g, 1, none⟩ (.int .i64 ((k : Int) + 1))) g 79 (RdN s (k + 1) m) := X1.out.set 1 _
                  go_roundw
                  case rel => exact ⟨j + 1, k + 1, base, Y, by omega, by omega, by rfl, by first | rfl | (rw [← qY]; rfl), by go_num, hst, hb, HN2, X4, U1.out.setCell (p := ⟨g, 1, none⟩) (.inl rfl) _⟩
                  case measure => simp [intOf]; omega
                · have q2 : (F : Int) < (d : Int) := by omega
                  go_wp2_with fail
                  refine (wrong_any k 3 _).mono ?_
                  rintro e w3 ⟨rfl, rfl⟩
                  unfold FaultN
                  go_wp2_with fail
                  exact ⟨rfl, by_no (by rw [← HR2.out]; exact nDigs_big (by rw [HL.out]; exact h1) (by rw [← HXC.out]; exact HV.out) (fun h => hdf h.2)) (by decide) U1.out⟩
              · have q1 : (base : Int) ≤ (d : Int) := by omega
                go_wp2_with fail
                refine (wrong_any k 3 _).mono ?_
                rintro e w3 ⟨rfl, rfl⟩
                unfold FaultN
                go_wp2_with fail
                exact ⟨rfl, by_no (by rw [← HR2.out]; exact nDigs_big (by rw [HL.out]; exact h1) (by rw [← HXC.out]; exact HV.out) (fun h => hdb h.1)) (by decide) U1.out⟩
        · replace c1 : (x.toNat : Int) < 65 := by omega
          have cc : ¬ (65 ≤ x.toNat ∧ x.toNat ≤ 70) := by omega
          go_wp2_with fail
          refine (hexIdx_small x cc _).mono ?_
          rintro e w2 ⟨rfl, rfl⟩
          cases hv : hval x.toNat with
          | none =>
            rw [hvalI_none x hv]
            have HV := Lib.hid hv
            clear hv
            go_wp2_with fail
            refine (wrong_any k 3 _).mono ?_
            rintro e w3 ⟨rfl, rfl⟩
            unfold FaultN
            go_wp2_with fail
            exact ⟨rfl, by_no (by rw [← HR2.out]; exact nDigs_none (by rw [HL.out]; exact h1) (by rw [← HXC.out]; exact HV.out)) (by decide) U1.out⟩
          | some d =>
            rw [hvalI_some x d hv]
            have hd16 := hval_lt _ _ hv
            have HV := Lib.hid hv
            clear hv
            by_cases hdb : d < base
            · have q1 : (d : Int) < base := by omega
              by_cases hdf : d ≤ F
              · have q2 : (d : Int) ≤ F := by omega
                have hst := digs_step hXs hd16 hb
                have hsm := digs_small hst (by omega)
                obtain ⟨Y, hY⟩ : ∃ Y, Y = X * base + d := ⟨_, rfl⟩
                have qY : (X : Int) * (base : Int) + (d : Int) = (Y : Int) := by rw [hY]; simp
                have qm : (X : Int) * (base : Int) ≤ 1000000 := by
                  have : ((X * base : Nat) : Int) ≤ 1000000 := by omega
                  simpa using this
                have qm0 : (0 : Int) ≤ (X : Int) * (base : Int) := by
                  have : (0 : Int) ≤ ((X * base : Nat) : Int) := Int.natCast_nonneg _
                  simpa using this
                rw [← hY] at hst hsm
                have HY := Lib.hid hY
                clear hY
                have HN2 := Lib.hid (show nDigs base s.data.toList (n - (j + 1)) base (k + 1) Y = R by
                  rw [← HR2.out, nDigs_more (by rw [HL.out]; exact h1) (by rw [← HXC.out]; exact HV.out) ⟨hdb, hdf⟩, HY.out])
                have hk6 : (k : Int) ≤ 1000000 := by omega
                clear HV HR2
                go_wp2_with fail
                have X4 : Box (w2.setCell ⟨g, 1, none⟩ (.int .i64 ((k : Int) + 1))) g 79 (RdN s (k + 1) m) := X1.out.set 1 _
                go_roundw
                case rel => exact ⟨j + 1, k + 1, base, Y, by omega, by omega, by rfl, by first | rfl | (rw [← qY]; rfl), by go_num, hst, hb, HN2, X4, U1.out.setCell (p := ⟨g, 1, none⟩) (.inl rfl) _⟩
                case measure => simp [intOf]; omega
              · have q2 : (F : Int) < (d : Int) := by omega
                go_wp2_with fail
                refine (wrong_any k 3 _).mono ?_
                rintro e w3 ⟨rfl, rfl⟩
                unfold FaultN
                go_wp2_with fail
                exact ⟨rfl, by_no (by rw [← HR2.out]; exact nDigs_big (by rw [HL.out]; exact h1) (by rw [← HXC.out]; exact HV.out) (fun h => hdf h.2)) (by decide) U1.out⟩
            · have q1 : (base : Int) ≤ (d : Int) := by omega
              go_wp2_with fail
              refine (wrong_any k 3 _).mono ?_
              rintro e w3 ⟨rfl, rfl⟩
              unfold FaultN
              go_wp2_with fail
              exact ⟨rfl, by_no (by rw [← HR2.out]; exact nDigs_big (by rw [HL.out]; exact h1) (by rw [← HXC.out]; exact HV.out) (fun h => hdb h.1)) (by decide) U1.out⟩
    · obtain rfl : j = n := by omega
      have hlt' : ¬ (j : Int) < j := by omega
      go_wp2_with fail
      go_ret
      exact by_yes (c := UInt8.ofNat X) (by rw [← HR2.out, Nat.sub_self]; rfl) HBU.out (by simp) HX.out

end Go.Proofs.YtigopfeamjhdpaaDoor
namespace Go.Proofs.YtigopfeamjhdpaaDoor
open Go.RowKit
set_option linter.unusedSimpArgs false
set_option linter.unusedVariables false

def escI (c : UInt8) : Int := match escL.idxOf? c with | some i => (i : Int) | none => -1
theorem escI_all : ∀ n : Fin 256, Lib.indexByte escL (n.val.toUInt8) = escI (n.val.toUInt8) := by decide +kernel
theorem escI_lt : ∀ n : Fin 256, ∀ i, escL.idxOf? (n.val.toUInt8) = some i → i < 9 := by decide +kernel
theorem escIdx (c : UInt8) (w : World) : Calls Tryd.prog 69 #[.string ⟨#[98, 116, 118, 110, 102, 114, 34, 39, 92]⟩, .int .u8 (c.toNat : Int)] w fun e w' => e = .returned (.int .i64 (escI c)) ∧ w' = w := by
  have hb := escI_all ⟨c.toNat, c.toNat_lt⟩
  rw [byte_fin] at hb
  refine (Tryd.strings_IndexByte _ _ _).mono ?_
  rintro e w1 ⟨rfl, hw⟩
  refine ⟨?_, hw⟩
  rw [← hb]
  have e : ((c.toNat : Int).toNat.toUInt8) = c := by simp
  show Ending.returned (.int .i64 (Lib.indexByte escL ((c.toNat : Int).toNat.toUInt8))) = _
  rw [e]
theorem escTo_get (i : Nat) (h : i < 9) : ((ByteArray.mk #[8, 9, 11, 10, 12, 13, 34, 39, 92])[i]'h) = escTo.getD i 0 := by
  match i, h with
  | 0, _ => rfl
  | 1, _ => rfl
  | 2, _ => rfl
  | 3, _ => rfl
  | 4, _ => rfl
  | 5, _ => rfl
  | 6, _ => rfl
  | 7, _ => rfl
  | 8, _ => rfl
theorem ByteN.trans {g : Nat} {s : ByteArray} {m : Nat} {R : BR} {w w1 w2 : World} {e : Ending} (hb : But (fun k => k = g) w w1) (h : ByteN g s m R w1 e w2) : ByteN g s m R w e w2 := ⟨hb.trans h.1 (fun k hk => .inl hk), h.2⟩

set_option maxHeartbeats 16000000 in
set_option maxRecDepth 100000 in
theorem escapedN_any (g : Nat) (s : ByteArray) (p m : Nat) (w : World) (hX : Box w g 79 (RdN s p m)) (hs : s.size ≤ 100000) (hp : p ≤ s.size) :
    Calls Tryd.prog 79 #[.pointer (some ⟨g, 0, none⟩)] w (ByteN g s m (nEsc s.data.toList p) w) := by
  have HL : Hid (s.data.toList.length = s.size) := Lib.hid (by simp)
  obtain ⟨R, hR⟩ : ∃ R, R = nEsc s.data.toList p := ⟨_, rfl⟩
  rw [← hR]
  have HR := Lib.hid hR
  have HX := Lib.hid hX
  clear hR hX
  go_enter Tryd.func79, Tryd.ntmps79
  go_wp2_with fail
  refine (peek_any g s p m w HX.out (by omega)).mono ?_
  rintro e w1 ⟨hb1, ⟨h1, rfl⟩ | ⟨h1, rfl⟩⟩
  · unfold FaultN
    go_wp2_with fail
    exact ⟨rfl, by_no (by rw [HR.out]; unfold nEsc; rw [if_pos (by rw [HL.out]; exact h1), HL.out]) (by decide) (But.ofBelow hb1)⟩
  · obtain ⟨x, hx⟩ : ∃ x, x = s.data.toList.getD p 0 := ⟨_, rfl⟩
    rw [← hx]
    have HR1 : Hid (R = if 48 ≤ x.toNat ∧ x.toNat ≤ 55 then nDigs 8 s.data.toList 3 3 p 0 else if x = 120 then nDigs 16 s.data.toList 2 15 (p + 1) 0 else match escL.idxOf? x with
      | some i => ⟨[escTo.getD i 0], p + 1, 0⟩
      | none => BR.err p 3) := Lib.hid (by rw [HR.out]; unfold nEsc; rw [if_neg (by rw [HL.out]; omega), ← hx]; rfl)
    have X1 := HX.out.after hb1
    have HX1 := Lib.hid X1
    have HBU : Hid (But (fun k => k = g) w w1) := Lib.hid (But.ofBelow hb1)
    have x1 := X1.cell 1 rfl
    have f1 := X1.frozen 1
    have hx255 := x.toNat_lt
    clear hx hb1 HX HR X1
    have hp6 : (p : Int) ≤ 1000000 := by omega
    by_cases c1 : (48 : Int) ≤ (x.toNat : Int)
    · by_cases c2 : (x.toNat : Int) ≤ 55
      · have HRE : Hid (R = nDigs 8 s.data.toList 3 3 p 0) := Lib.hid (by rw [HR1.out, if_pos (by omega)])
        go_wp2_with fail
        refine (digitsN_any 3 8 3 (by omega) (by omega) (by omega) g s p m w1 HX1.out hs (by omega)).mono ?_
        rintro e w2 ⟨b2, ⟨h2, rfl⟩ | ⟨h2, c2, hc2, rfl, X2⟩⟩
        · unfold FaultN
          go_wp2_with fail
          exact ⟨rfl, HBU.out.trans b2 (fun k hk => .inl hk), .inl ⟨by rw [HRE.out]; exact h2, by rw [HRE.out]; rfl⟩⟩
        · have HX2 := Lib.hid X2
          have HB2 := Lib.hid b2
          have H2 := Lib.hid h2
          have HC2 := Lib.hid hc2
          clear X2 b2 h2 hc2
          go_wp2_with fail
          go_ret
          exact ⟨HBU.out.trans HB2.out (fun k hk => .inl hk), .inr ⟨by rw [HRE.out]; exact H2.out, c2, by rw [HRE.out]; exact HC2.out, rfl, by rw [HRE.out]; exact HX2.out⟩⟩
      · replace c2 : (55 : Int) < (x.toNat : Int) := by omega
        have HR2 := Lib.hid (show R = if x = 120 then nDigs 16 s.data.toList 2 15 (p + 1) 0 else match escL.idxOf? x with
            | some i => ⟨[escTo.getD i 0], p + 1, 0⟩
            | none => BR.err p 3 by rw [HR1.out, if_neg (by omega)])
        by_cases h120 : x = 120
        · obtain ⟨e1, e2, e3⟩ := bEq (a := x) 120 120 rfl (by rw [h120]; rfl)
          have HRE : Hid (R = nDigs 16 s.data.toList 2 15 (p + 1) 0) := Lib.hid (by rw [HR2.out, if_pos h120])
          clear h120 e3
          go_wp2_with fail
          have X2 : Box (w1.setCell ⟨g, 1, none⟩ (.int .i64 ((p : Int) + 1))) g 79 (RdN s (p + 1) m) := HX1.out.set 1 _
          have HX2 := Lib.hid X2
          replace HBU := Lib.hid (HBU.out.setCell (p := ⟨g, 1, none⟩) (.inl rfl) (.int .i64 ((p : Int) + 1)))
          clear X2
          refine (digitsN_any 2 16 15 (by omega) (by omega) (by omega) g s (p + 1) m _ HX2.out hs (by omega)).mono ?_
          rintro e w2 ⟨b2, ⟨h2, rfl⟩ | ⟨h2, c2, hc2, rfl, X2⟩⟩
          · unfold FaultN
            go_wp2_with fail
            exact ⟨rfl, HBU.out.trans b2 (fun k hk => .inl hk), .inl ⟨by rw [HRE.out]; exact h2, by rw [HRE.out]; rfl⟩⟩
          · have HX2 := Lib.hid X2
            have HB2 := Lib.hid b2
            have H2 := Lib.hid h2
            have HC2 := Lib.hid hc2
            clear X2 b2 h2 hc2
            go_wp2_with fail
            go_ret
            exact ⟨HBU.out.trans HB2.out (fun k hk => .inl hk), .inr ⟨by rw [HRE.out]; exact H2.out, c2, by rw [HRE.out]; exact HC2.out, rfl, by rw [HRE.out]; exact HX2.out⟩⟩
        · obtain ⟨e1, e2, e3⟩ := bNe (a := x) 120 120 rfl (fun e => h120 (by rw [← UInt8.toNat_inj]; exact e))
          replace HR2 := Lib.hid (HR2.out.trans (if_neg h120))
          clear h120 e3
          go_wp2_with fail
          refine (escIdx x _).mono ?_
          rintro e w2 ⟨rfl, rfl⟩
          cases hv : escL.idxOf? x with
          | none =>
            have hi : escI x = -1 := by unfold escI; rw [hv]
            rw [hi]
            have HRE : Hid (R = BR.err p 3) := Lib.hid (by rw [HR2.out, hv])
            clear hv hi
            go_wp2_with fail
            refine (wrong_any p 3 _).mono ?_
            rintro e w3 ⟨rfl, rfl⟩
            unfold FaultN
            go_wp2_with fail
            exact ⟨rfl, by_no HRE.out (by decide) HBU.out⟩
          | some i =>
            have hi : escI x = (i : Int) := by unfold escI; rw [hv]
            rw [hi]
            have hi9 := escI_lt ⟨x.toNat, x.toNat_lt⟩ i (by rw [byte_fin]; exact hv)
            have HRE : Hid (R = ⟨[escTo.getD i 0], p + 1, 0⟩) := Lib.hid (by rw [HR2.out, hv])
            have HGT := Lib.hid (escTo_get i hi9)
            clear hv hi
            have hi9' : (i : Int) < 9 := by omega
            have hi0 : (0 : Int) ≤ i := by omega
            go_wp2_with fail
            go_ret
            exact by_yes HRE.out (HBU.out.setCell (p := ⟨g, 1, none⟩) (.inl rfl) _) (by rw [← HGT.out]) (HX1.out.set 1 _)
    · replace c1 : (x.toNat : Int) < 48 := by omega
      have HR2 := Lib.hid (show R = if x = 120 then nDigs 16 s.data.toList 2 15 (p + 1) 0 else match escL.idxOf? x with
          | some i => ⟨[escTo.getD i 0], p + 1, 0⟩
          | none => BR.err p 3 by rw [HR1.out, if_neg (by omega)])
      by_cases h120 : x = 120
      · obtain ⟨e1, e2, e3⟩ := bEq (a := x) 120 120 rfl (by rw [h120]; rfl)
        have HRE : Hid (R = nDigs 16 s.data.toList 2 15 (p + 1) 0) := Lib.hid (by rw [HR2.out, if_pos h120])
        clear h120 e3
        go_wp2_with fail
        have X2 : Box (w1.setCell ⟨g, 1, none⟩ (.int .i64 ((p : Int) + 1))) g 79 (RdN s (p + 1) m) := HX1.out.set 1 _
        have HX2 := Lib.hid X2
        replace HBU := Lib.hid (HBU.out.setCell (p := ⟨g, 1, none⟩) (.inl rfl) (.int .i64 ((p : Int) + 1)))
        clear X2
        refine (digitsN_any 2 16 15 (by omega) (by omega) (by omega) g s (p + 1) m _ HX2.out hs (by omega)).mono ?_
        rintro e w2 ⟨b2, ⟨h2, rfl⟩ | ⟨h2, c2, hc2, rfl, X2⟩⟩
        · unfold FaultN
          go_wp2_with fail
          exact ⟨rfl, HBU.out.trans b2 (fun k hk => .inl hk), .inl ⟨by rw [HRE.out]; exact h2, by rw [HRE.out]; rfl⟩⟩
        · have HX2 := Lib.hid X2
          have HB2 := Lib.hid b2
          have H2 := Lib.hid h2
          have HC2 := Lib.hid hc2
          clear X2 b2 h2 hc2
          go_wp2_with fail
          go_ret
          exact ⟨HBU.out.trans HB2.out (fun k hk => .inl hk), .inr ⟨by rw [HRE.out]; exact H2.out, c2, by rw [HRE.out]; exact HC2.out, rfl, by rw [HRE.out]; exact HX2.out⟩⟩
      · obtain ⟨e1, e2, e3⟩ := bNe (a := x) 120 120 rfl (fun e => h120 (by rw [← UInt8.toNat_inj]; exact e))
        replace HR2 := Lib.hid (HR2.out.trans (if_neg h120))
        clear h120 e3
        go_wp2_with fail
        refine (escIdx x _).mono ?_
        rintro e w2 ⟨rfl, rfl⟩
        cases hv : escL.idxOf? x with
        | none =>
          have hi : escI x = -1 := by unfold escI; rw [hv]
          rw [hi]
          have HRE : Hid (R = BR.err p 3) := Lib.hid (by rw [HR2.out, hv])
          clear hv hi
          go_wp2_with fail
          refine (wrong_any p 3 _).mono ?_
          rintro e w3 ⟨rfl, rfl⟩
          unfold FaultN
          go_wp2_with fail
          exact ⟨rfl, by_no HRE.out (by decide) HBU.out⟩
        | some i =>
          have hi : escI x = (i : Int) := by unfold escI; rw [hv]
          rw [hi]
          have hi9 := escI_lt ⟨x.toNat, x.toNat_lt⟩ i (by rw [byte_fin]; exact hv)
          have HRE : Hid (R = ⟨[escTo.getD i 0], p + 1, 0⟩) := Lib.hid (by rw [HR2.out, hv])
          have HGT := Lib.hid (escTo_get i hi9)
          clear hv hi
          have hi9' : (i : Int) < 9 := by omega
          have hi0 : (0 : Int) ≤ i := by omega
          go_wp2_with fail
          go_ret
          exact by_yes HRE.out (HBU.out.setCell (p := ⟨g, 1, none⟩) (.inl rfl) _) (by rw [← HGT.out]) (HX1.out.set 1 _)

set_option maxHeartbeats 16000000 in
set_option maxRecDepth 100000 in
theorem quotedN_any (g : Nat) (s : ByteArray) (p m : Nat) (w : World) (hX : Box w g 79 (RdN s p m)) (hs : s.size ≤ 100000) (hp : p < s.size) :
    Calls Tryd.prog 71 #[.pointer (some ⟨g, 0, none⟩)] w (BytesN g s m (nQuote s.data.toList (p + 1)) w) := by
  have HL : Hid (s.data.toList.length = s.size) := Lib.hid (by simp)
  obtain ⟨R, hR⟩ : ∃ R, R = nQuote s.data.toList (p + 1) := ⟨_, rfl⟩
  rw [← hR]
  have HR := Lib.hid hR
  have hgw := hX.lt
  have HX := Lib.hid hX
  have x1 := hX.cell 1 rfl
  have f1 := hX.frozen 1
  clear hR hX
  have hp6 : (p : Int) ≤ 1000000 := by omega
  go_enter Tryd.func71, Tryd.ntmps71
  go_wp2_with fail
  have X0 : Box (w.setCell ⟨g, 1, none⟩ (.int .i64 ((p : Int) + 1))) g 79 (RdN s (p + 1) m) := HX.out.set 1 _
  have U0 : But (fun k => k = g) w (w.setCell ⟨g, 1, none⟩ (.int .i64 ((p : Int) + 1))) := (But.refl (fun k => k = g) w).setCell (p := ⟨g, 1, none⟩) (.inl rfl) _
  go_loopw [3] (fun o wr => ∃ (k : Nat) (d : List UInt8), k ≤ s.size ∧ d.length ≤ k ∧ Hid (R = (nQuote s.data.toList k).pre d) ∧ OwnB wr w.heap.size o d ∧ Box wr g 79 (RdN s k m) ∧ But (fun k => k = g) w wr) (fun _ wr => s.size + 1 - atN wr g)
  case atStart => exact ⟨p + 1, [], by omega, Nat.zero_le _, Lib.hid (by rw [HR.out, pre_nil]), OwnB.nil _ _, X0, U0⟩
  case round =>
    obtain ⟨k, d, hk, hd, HRK, hown, hX2, hbut⟩ := hrel
    clear HX HR X0 U0 x1 f1
    have HAT := Lib.hid (atN_eq hX2)
    have HX := Lib.hid hX2
    have HO := Lib.hid hown
    have HBU := Lib.hid hbut
    clear hX2 hown hbut
    go_wp2_with fail
    refine (peek_any g s k m wr HX.out (by omega)).mono ?_
    rintro e w1 ⟨hb1, ⟨h1, rfl⟩ | ⟨h1, rfl⟩⟩
    · unfold FaultN
      go_wp2_with fail
      exact ⟨rfl, bn_no (by rw [HRK.out, nQuote_end (by rw [HL.out]; exact h1), HL.out]; rfl) (by decide) (HBU.out.trans (But.ofBelow (S := fun _ => False) hb1) (fun _ h => h.elim))⟩
    · obtain ⟨x, hx⟩ : ∃ x, x = s.data.toList.getD k 0 := ⟨_, rfl⟩
      rw [← hx]
      have HST := Lib.hid (nQuote_step (l := s.data.toList) (p := k) (by rw [HL.out]; exact h1))
      rw [← hx] at HST
      have X1 := HX.out.after hb1
      have O1 := Lib.hid (OwnB.after HO.out hb1)
      have U1 := Lib.hid (HBU.out.trans (But.ofBelow (S := fun _ => False) hb1) (fun _ h => h.elim))
      have x1 := X1.cell 1 rfl
      have f1 := X1.frozen 1
      have HX1 := Lib.hid X1
      have hk6 : (k : Int) ≤ 1000000 := by omega
      clear hx hb1 HX HBU HO X1
      by_cases he : x = 34
      · obtain ⟨e1, e2, e3⟩ := bEq (a := x) 34 34 rfl (by rw [he]; rfl)
        have HE := Lib.hid he
        clear he e3
        go_wp2_with fail
        have e4 : But (fun k => k = g) w1 (w1.setCell ⟨g, 1, none⟩ (.int .i64 ((k : Int) + 1))) := (But.refl (fun k => k = g) w1).setCell (p := ⟨g, 1, none⟩) (.inl rfl) _
        obtain ⟨a, n, c, hv, hsl, hin⟩ := OwnB.parts (OwnG.but O1.out e4 (fun k' h e => by have := (OwnB.own O1.out k' h).1; omega))
        go_ret
        rw [hv]
        exact bn_yes (by rw [HRK.out, HST.out, if_pos HE.out]; simp [BR.pre]) (U1.out.setCell (p := ⟨g, 1, none⟩) (.inl rfl) _) hsl hin (HX1.out.set 1 _)
      · obtain ⟨e1, e2, e3⟩ := bNe (a := x) 34 34 rfl (fun e => he (by rw [← UInt8.toNat_inj]; exact e))
        replace HST := Lib.hid (HST.out.trans (if_neg he))
        clear he e3
        have X2 : Box (w1.setCell ⟨g, 1, none⟩ (.int .i64 ((k : Int) + 1))) g 79 (RdN s (k + 1) m) := HX1.out.set 1 _
        have HX2 := Lib.hid X2
        have e4 : But (fun k => k = g) w1 (w1.setCell ⟨g, 1, none⟩ (.int .i64 ((k : Int) + 1))) := (But.refl (fun k => k = g) w1).setCell (p := ⟨g, 1, none⟩) (.inl rfl) _
        have U2 := Lib.hid (U1.out.setCell (p := ⟨g, 1, none⟩) (.inl rfl) (.int .i64 ((k : Int) + 1)))
        have O2 := Lib.hid (OwnG.but O1.out e4 (fun k' h e => by have := (OwnB.own O1.out k' h).1; omega))
        have hz2 := U1.out.size
        clear X2 e4
        go_upto_region 5 with fail
        change Code.wp _ _ _ _ (w1.setCell ⟨g, 1, none⟩ (.int .i64 ((k : Int) + 1)))
        have hz3 : w.heap.size ≤ (w1.setCell ⟨g, 1, none⟩ (.int .i64 ((k : Int) + 1))).heap.size := by simpa using hz2
        generalize (w1.setCell ⟨g, 1, none⟩ (.int .i64 ((k : Int) + 1))) = w2 at *
        clear O1 U1 HX1 x1 f1 hz2
        by_cases h92 : x = 92
        · obtain ⟨e5, e6, e7⟩ := bEq (a := x) 92 92 rfl (by rw [h92]; rfl)
          replace HST := Lib.hid (HST.out.trans (if_neg (by rw [h92]; simp)))
          clear h92 e7
          go_wp2_with fail
          refine (escapedN_any g s (k + 1) m _ HX2.out hs (by omega)).mono ?_
          rintro e w3 ⟨b3, ⟨h3, rfl⟩ | ⟨h3, c3, hc3, rfl, X3⟩⟩
          · unfold FaultN
            go_wp2_with fail
            exact ⟨rfl, U2.out.trans b3 (fun k hk => .inl hk), .inl ⟨by rw [HRK.out, HST.out, if_pos h3]; unfold BR.pre; rw [if_neg h3]; exact h3, by rw [HRK.out, HST.out, if_pos h3]; unfold BR.pre; rw [if_neg h3]; rfl⟩⟩
          · have hpl := nEsc_place s.data.toList (k + 1) (by rw [HL.out]; omega)
            rw [HL.out] at hpl
            obtain ⟨q, hq⟩ : ∃ q, q = (nEsc s.data.toList (k + 1)).p := ⟨_, rfl⟩
            rw [← hq] at hpl X3
            replace HST := Lib.hid (HST.out.trans (if_neg (by rw [h3]; simp)))
            have HRN : Hid (R = (nQuote s.data.toList q).pre (d ++ [c3])) := Lib.hid (by rw [HRK.out, HST.out, pre_pre, hc3, hq])
            have HX3 := Lib.hid X3
            have O3 := Lib.hid (OwnG.but O2.out b3 (fun k' h e => by have := (OwnG.lt O2.out k' h).1; omega))
            have U3 := Lib.hid (U2.out.trans b3 (fun k hk => .inl hk))
            have hz3 := U3.out.size
            clear hq hc3 X3 b3 h3 HST HRK
            go_wp2_with (refine wpList_append_B rfl _ _ rfl (l := d) rfl (OwnG.alloc O3.out _) (l2 := [c3]) rfl (sl_cell1 _ c3 _ rfl) (by simp; omega) (by simp; omega) ?_; intro v5 w5 ho5 hg5)
            have b5 : But (fun k => k = g) w w5 := ((U3.out.alloc _).trans (But.ofGrown hg5 (S := fun k => w.heap.size ≤ k) (fun k hk => ((OwnG.lt O3.out) k hk).1)) (fun k hk => .inr hk))
            have X5 : Box w5 g 79 (RdN s (q) m) := Box.grown (HX3.out.alloc _) hg5 (fun k hk => by have := ((OwnG.lt O3.out) k hk).1; omega)
            have e5' := atN_eq X5
            go_roundw
            case rel => exact ⟨q, d ++ [c3], by omega, by simp; omega, HRN, ho5, X5, b5⟩
            case measure => rw [HAT.out, e5']; omega
        · obtain ⟨e5, e6, e7⟩ := bNe (a := x) 92 92 rfl (fun e => h92 (by rw [← UInt8.toNat_inj]; exact e))
          have HRN : Hid (R = (nQuote s.data.toList (k + 1)).pre (d ++ [x])) := Lib.hid (by rw [HRK.out, HST.out, if_pos h92, pre_pre])
          clear h92 e7 HST HRK
          go_wp2_with (refine wpList_append_B rfl _ _ rfl (l := d) rfl (OwnG.alloc O2.out _) (l2 := [x]) rfl (sl_cell1 _ x _ rfl) (by simp; omega) (by simp; omega) ?_; intro v5 w5 ho5 hg5)
          have b5 : But (fun k => k = g) w w5 := ((U2.out.alloc _).trans (But.ofGrown hg5 (S := fun k => w.heap.size ≤ k) (fun k hk => ((OwnG.lt O2.out) k hk).1)) (fun k hk => .inr hk))
          have X5 : Box w5 g 79 (RdN s (k + 1) m) := Box.grown (HX2.out.alloc _) hg5 (fun k hk => by have := ((OwnG.lt O2.out) k hk).1; omega)
          have e5' := atN_eq X5
          go_roundw
          case rel => exact ⟨k + 1, d ++ [x], by omega, by simp; omega, HRN, ho5, X5, b5⟩
          case measure => rw [HAT.out, e5']; omega

end Go.Proofs.YtigopfeamjhdpaaDoor
namespace Go.Proofs.YtigopfeamjhdpaaDoor
open Go.RowKit
set_option linter.unusedSimpArgs false
set_option linter.unusedVariables false

theorem extract_data (s : ByteArray) (i j : Nat) : (s.extract i j).data.toList = (s.data.toList.drop i).take (j - i) := by
  rw [ByteArray.data_extract, Array.toList_extract, List.extract_eq_take_drop]
/-- the place behind signs -/
def runN (l : List UInt8) (p : Nat) : Nat := p + ((l.drop p).takeWhile signB).length
theorem runN_end {l : List UInt8} {p : Nat} (h : l.length ≤ p) : runN l p = p := by unfold runN; rw [List.drop_eq_nil_of_le h]; rfl
theorem runN_sign {l : List UInt8} {p : Nat} (h : p < l.length) (hb : signB l[p] = true) : runN l p = runN l (p + 1) := by
  unfold runN
  rw [List.drop_eq_getElem_cons h, List.takeWhile_cons_of_pos hb, List.length_cons]
  omega
theorem runN_other {l : List UInt8} {p : Nat} (h : p < l.length) (hb : signB l[p] = false) : runN l p = p := by
  unfold runN
  rw [List.drop_eq_getElem_cons h, List.takeWhile_cons_of_neg (by rw [hb]; simp)]
  rfl
theorem run_take (l : List UInt8) (p : Nat) : (l.drop p).take (runN l p - p) = (l.drop p).takeWhile signB := by
  unfold runN
  rw [Nat.add_sub_cancel_left]
  generalize l.drop p = r
  exact (List.prefix_iff_eq_take.1 (List.takeWhile_prefix signB)).symm
theorem goodS (c : UInt8) : isIn (ByteArray.mk signL.toArray).data.toList c = signB c := isIn_of isIn_sign c
theorem goodD (c : UInt8) : isIn (ByteArray.mk #[48, 49, 50, 51, 52, 53, 54, 55, 56, 57]).data.toList c = numB c := isIn_of isIn_num c
theorem BytesN.trans {g : Nat} {s : ByteArray} {m : Nat} {R : BR} {w w1 w2 : World} {e : Ending} (hb : But (fun k => k = g) w w1) (h : BytesN g s m R w1 e w2) : BytesN g s m R w e w2 := by
  refine ⟨hb.trans h.1 (fun k hk => .inl hk), h.2.imp id ?_⟩
  rintro ⟨h1, a, n, c, h2, h3, h4, h5⟩
  exact ⟨h1, a, n, c, h2, h3, h4.mono (fun k hk => Nat.le_trans hb.size hk), h5⟩

set_option maxHeartbeats 16000000 in
set_option maxRecDepth 100000 in
theorem lengthN_any (g : Nat) (s : ByteArray) (p m : Nat) (w : World) (hX : Box w g 79 (RdN s p m)) (hs : s.size ≤ 100000) (hp : p ≤ s.size) :
    Calls Tryd.prog 70 #[.pointer (some ⟨g, 0, none⟩)] w (BytesN g s m (nLen s.data.toList p) w) := by
  have HL : Hid (s.data.toList.length = s.size) := Lib.hid (by simp)
  obtain ⟨R, hR⟩ : ∃ R, R = nLen s.data.toList p := ⟨_, rfl⟩
  rw [← hR]
  have HR := Lib.hid hR
  have hgw := hX.lt
  have HX := Lib.hid hX
  clear hR hX
  rcases lenR_cases s.data.toList p 4096 with ⟨h1, e1⟩ | ⟨h1, h2, e1⟩ | ⟨h1, e1⟩ | ⟨k, N, hk, hpk, hmk, ht, e1⟩
  · have E1 := Lib.hid e1
    clear e1
    go_enter Tryd.func70, Tryd.ntmps70
    have HE : Hid (R = BR.err p 2) := Lib.hid (by rw [HR.out]; unfold nLen; simp only [E1.out]; simp)
    go_upto_region 1 with fail
    have hKS : Keeps (fun w' => Box w' g 79 (RdN s p m)) := fun w w' h b => h.after b
    refine wp_region_U (w := w) (fun w' => Box w' g 79 (RdN s p m)) rfl HX.out.drew ?_
    refine wpU_val 0 hKS rfl (by kernel_rfl) (by kernel_rfl) (by kernel_rfl) rfl (fun _ _ _ _ h => h) (.pointer (some ⟨g, 0, none⟩)) (fun w' h => by simp [go_sem]) ?_
    simp only [Act.put, List.setIfInBounds_toArray, List.set_cons_zero, List.set_cons_succ]
    refine wpU_val 1 hKS rfl (by kernel_rfl) (by kernel_rfl) (by kernel_rfl) rfl (fun _ _ _ _ h => h) (.pointer (some ⟨g, 0, none⟩)) (fun w' h => by simp [go_sem]) ?_
    simp only [Act.put, List.setIfInBounds_toArray, List.set_cons_zero, List.set_cons_succ]
    refine wpU_val 2 hKS rfl (by kernel_rfl) (by kernel_rfl) (by kernel_rfl) rfl (fun _ _ _ _ h => h) (.pointer (some ⟨g, 0, none⟩)) (fun w' h => by simp [go_sem]) ?_
    simp only [Act.put, List.setIfInBounds_toArray, List.set_cons_zero, List.set_cons_succ]
    refine wpU_val 3 hKS rfl (by kernel_rfl) (by kernel_rfl) (by kernel_rfl) rfl (fun _ _ _ _ h => h) (.string s) (fun w' h => by simp [go_sem, h.cell 0 rfl]) ?_
    simp only [Act.put, List.setIfInBounds_toArray, List.set_cons_zero, List.set_cons_succ]
    refine wpU_val 5 hKS rfl (by kernel_rfl) (by kernel_rfl) (by kernel_rfl) rfl (fun _ _ _ _ h => h) (.pointer (some ⟨g, 0, none⟩)) (fun w' h => by simp [go_sem]) ?_
    simp only [Act.put, List.setIfInBounds_toArray, List.set_cons_zero, List.set_cons_succ]
    refine wpU_val 6 hKS rfl (by kernel_rfl) (by kernel_rfl) (by kernel_rfl) rfl (fun _ _ _ _ h => h) (.pointer (some ⟨g, 0, none⟩)) (fun w' h => by simp [go_sem]) ?_
    simp only [Act.put, List.setIfInBounds_toArray, List.set_cons_zero, List.set_cons_succ]
    refine wpU_val 7 hKS rfl (by kernel_rfl) (by kernel_rfl) (by kernel_rfl) rfl (fun _ _ _ _ h => h) (.pointer (some ⟨g, 1, none⟩)) (fun w' h => by simp [go_sem]) ?_
    simp only [Act.put, List.setIfInBounds_toArray, List.set_cons_zero, List.set_cons_succ]
    refine wpU_val 8 hKS rfl (by kernel_rfl) (by kernel_rfl) (by kernel_rfl) rfl (fun _ _ _ _ h => h) (.int .i64 p) (fun w' h => by simp [go_sem, h.cell 1 rfl]) ?_
    simp only [Act.put, List.setIfInBounds_toArray, List.set_cons_zero, List.set_cons_succ]
    refine wpU_one 4 rfl (by kernel_rfl) rfl ?_
    intro w5 b5 s5
    obtain ⟨v6, w6, hr6, ho6, b6⟩ := conv_own w5 s (by omega)
    refine wp_of_run v6 w6 (by simp [go_sem, hr6]) ?_
    refine ⟨hKS _ _ s5 b6, ?_⟩
    simp only [Act.put, List.setIfInBounds_toArray, List.set_cons_zero, List.set_cons_succ]
    obtain ⟨a6, n6, c6, rfl, sl6, in6⟩ := OwnB.parts ho6
    refine wpU_one 9 rfl (by kernel_rfl) rfl ?_
    intro w7 b7 s7
    refine wp_callR 78 #[.slice a6 n6 c6, .int .i64 p, .int .i64 4096] (by simp [go_sem]) _ (getLen_any a6 n6 c6 s.data.toList p 4096 4096 w7 (sl6.after b7) (by rw [sl6.1, HL.out]; omega) (by omega) (by omega) rfl (by omega)) ?_
    rintro e w8 ⟨rfl, b8⟩
    refine ⟨_, rfl, hKS _ _ s7 b8, ?_⟩
    rw [E1.out]
    simp only [Act.put, List.setIfInBounds_toArray, List.set_cons_zero, List.set_cons_succ]
    refine wpU_val 10 hKS rfl (by kernel_rfl) (by kernel_rfl) (by kernel_rfl) rfl (fun _ _ _ _ h => h) (.tuple #[.int .i64 0, .int .i64 p, .int .i64 2]) (fun w' h => by simp [go_sem]) ?_
    simp only [Act.put, List.setIfInBounds_toArray, List.set_cons_zero, List.set_cons_succ]
    refine wpU_val 11 hKS rfl (by kernel_rfl) (by kernel_rfl) (by kernel_rfl) rfl (fun _ _ _ _ h => h) (.int .i64 0) (fun w' h => by simp [go_sem]) ?_
    simp only [Act.put, List.setIfInBounds_toArray, List.set_cons_zero, List.set_cons_succ]
    refine wpU_val 12 hKS rfl (by kernel_rfl) (by kernel_rfl) (by kernel_rfl) rfl (fun _ _ _ _ h => h) (.int .i64 p) (fun w' h => by simp [go_sem]) ?_
    simp only [Act.put, List.setIfInBounds_toArray, List.set_cons_zero, List.set_cons_succ]
    refine wpU_val 13 hKS rfl (by kernel_rfl) (by kernel_rfl) (by kernel_rfl) rfl (fun _ _ _ _ h => h) (.int .i64 2) (fun w' h => by simp [go_sem]) ?_
    simp only [Act.put, List.setIfInBounds_toArray, List.set_cons_zero, List.set_cons_succ]
    refine wpU_val 14 hKS rfl (by kernel_rfl) (by kernel_rfl) (by kernel_rfl) rfl (fun _ _ _ _ h => h) (.int .i64 0) (fun w' h => by simp [go_sem]) ?_
    simp only [Act.put, List.setIfInBounds_toArray, List.set_cons_zero, List.set_cons_succ]
    refine wpU_val 15 hKS rfl (by kernel_rfl) (by kernel_rfl) (by kernel_rfl) rfl (fun _ _ _ _ h => h) (.int .i64 p) (fun w' h => by simp [go_sem]) ?_
    simp only [Act.put, List.setIfInBounds_toArray, List.set_cons_zero, List.set_cons_succ]
    refine wpU_val 16 hKS rfl (by kernel_rfl) (by kernel_rfl) (by kernel_rfl) rfl (fun _ _ _ _ h => h) (.int .i64 2) (fun w' h => by simp [go_sem]) ?_
    simp only [Act.put, List.setIfInBounds_toArray, List.set_cons_zero, List.set_cons_succ]
    refine wpU_done (by kernel_rfl) ?_
    intro w9 b9 s9
    have U9 : Hid (But (fun k => k = g) w w9) := Lib.hid (But.ofBelow ((((((Below.refl _ w).drew.trans b5).trans (b6.mono b5.size)).trans (b7.mono (Nat.le_trans b5.size b6.size))).trans (b8.mono (Nat.le_trans (Nat.le_trans b5.size b6.size) b7.size))).trans (b9.mono (Nat.le_trans (Nat.le_trans (Nat.le_trans b5.size b6.size) b7.size) b8.size))))
    have HX9 := Lib.hid s9
    have x9 := s9.cell 1 rfl
    have f9 := s9.frozen 1
    clear hKS b5 s5 b6 sl6 in6 hr6 ho6 b7 s7 b8 b9 s9
    go_wp2_with fail
    refine (wrong_any p 2 _).mono ?_
    rintro e w10 ⟨rfl, rfl⟩
    unfold FaultN
    go_wp2_with fail
    exact ⟨rfl, bn_no HE.out (by decide) U9.out⟩
  · have E1 := Lib.hid e1
    clear e1
    go_enter Tryd.func70, Tryd.ntmps70
    have HE : Hid (R = BR.err p 3) := Lib.hid (by rw [HR.out]; unfold nLen; simp only [E1.out]; simp)
    go_upto_region 1 with fail
    have hKS : Keeps (fun w' => Box w' g 79 (RdN s p m)) := fun w w' h b => h.after b
    refine wp_region_U (w := w) (fun w' => Box w' g 79 (RdN s p m)) rfl HX.out.drew ?_
    refine wpU_val 0 hKS rfl (by kernel_rfl) (by kernel_rfl) (by kernel_rfl) rfl (fun _ _ _ _ h => h) (.pointer (some ⟨g, 0, none⟩)) (fun w' h => by simp [go_sem]) ?_
    simp only [Act.put, List.setIfInBounds_toArray, List.set_cons_zero, List.set_cons_succ]
    refine wpU_val 1 hKS rfl (by kernel_rfl) (by kernel_rfl) (by kernel_rfl) rfl (fun _ _ _ _ h => h) (.pointer (some ⟨g, 0, none⟩)) (fun w' h => by simp [go_sem]) ?_
    simp only [Act.put, List.setIfInBounds_toArray, List.set_cons_zero, List.set_cons_succ]
    refine wpU_val 2 hKS rfl (by kernel_rfl) (by kernel_rfl) (by kernel_rfl) rfl (fun _ _ _ _ h => h) (.pointer (some ⟨g, 0, none⟩)) (fun w' h => by simp [go_sem]) ?_
    simp only [Act.put, List.setIfInBounds_toArray, List.set_cons_zero, List.set_cons_succ]
    refine wpU_val 3 hKS rfl (by kernel_rfl) (by kernel_rfl) (by kernel_rfl) rfl (fun _ _ _ _ h => h) (.string s) (fun w' h => by simp [go_sem, h.cell 0 rfl]) ?_
    simp only [Act.put, List.setIfInBounds_toArray, List.set_cons_zero, List.set_cons_succ]
    refine wpU_val 5 hKS rfl (by kernel_rfl) (by kernel_rfl) (by kernel_rfl) rfl (fun _ _ _ _ h => h) (.pointer (some ⟨g, 0, none⟩)) (fun w' h => by simp [go_sem]) ?_
    simp only [Act.put, List.setIfInBounds_toArray, List.set_cons_zero, List.set_cons_succ]
    refine wpU_val 6 hKS rfl (by kernel_rfl) (by kernel_rfl) (by kernel_rfl) rfl (fun _ _ _ _ h => h) (.pointer (some ⟨g, 0, none⟩)) (fun w' h => by simp [go_sem]) ?_
    simp only [Act.put, List.setIfInBounds_toArray, List.set_cons_zero, List.set_cons_succ]
    refine wpU_val 7 hKS rfl (by kernel_rfl) (by kernel_rfl) (by kernel_rfl) rfl (fun _ _ _ _ h => h) (.pointer (some ⟨g, 1, none⟩)) (fun w' h => by simp [go_sem]) ?_
    simp only [Act.put, List.setIfInBounds_toArray, List.set_cons_zero, List.set_cons_succ]
    refine wpU_val 8 hKS rfl (by kernel_rfl) (by kernel_rfl) (by kernel_rfl) rfl (fun _ _ _ _ h => h) (.int .i64 p) (fun w' h => by simp [go_sem, h.cell 1 rfl]) ?_
    simp only [Act.put, List.setIfInBounds_toArray, List.set_cons_zero, List.set_cons_succ]
    refine wpU_one 4 rfl (by kernel_rfl) rfl ?_
    intro w5 b5 s5
    obtain ⟨v6, w6, hr6, ho6, b6⟩ := conv_own w5 s (by omega)
    refine wp_of_run v6 w6 (by simp [go_sem, hr6]) ?_
    refine ⟨hKS _ _ s5 b6, ?_⟩
    simp only [Act.put, List.setIfInBounds_toArray, List.set_cons_zero, List.set_cons_succ]
    obtain ⟨a6, n6, c6, rfl, sl6, in6⟩ := OwnB.parts ho6
    refine wpU_one 9 rfl (by kernel_rfl) rfl ?_
    intro w7 b7 s7
    refine wp_callR 78 #[.slice a6 n6 c6, .int .i64 p, .int .i64 4096] (by simp [go_sem]) _ (getLen_any a6 n6 c6 s.data.toList p 4096 4096 w7 (sl6.after b7) (by rw [sl6.1, HL.out]; omega) (by omega) (by omega) rfl (by omega)) ?_
    rintro e w8 ⟨rfl, b8⟩
    refine ⟨_, rfl, hKS _ _ s7 b8, ?_⟩
    rw [E1.out]
    simp only [Act.put, List.setIfInBounds_toArray, List.set_cons_zero, List.set_cons_succ]
    refine wpU_val 10 hKS rfl (by kernel_rfl) (by kernel_rfl) (by kernel_rfl) rfl (fun _ _ _ _ h => h) (.tuple #[.int .i64 0, .int .i64 p, .int .i64 3]) (fun w' h => by simp [go_sem]) ?_
    simp only [Act.put, List.setIfInBounds_toArray, List.set_cons_zero, List.set_cons_succ]
    refine wpU_val 11 hKS rfl (by kernel_rfl) (by kernel_rfl) (by kernel_rfl) rfl (fun _ _ _ _ h => h) (.int .i64 0) (fun w' h => by simp [go_sem]) ?_
    simp only [Act.put, List.setIfInBounds_toArray, List.set_cons_zero, List.set_cons_succ]
    refine wpU_val 12 hKS rfl (by kernel_rfl) (by kernel_rfl) (by kernel_rfl) rfl (fun _ _ _ _ h => h) (.int .i64 p) (fun w' h => by simp [go_sem]) ?_
    simp only [Act.put, List.setIfInBounds_toArray, List.set_cons_zero, List.set_cons_succ]
    refine wpU_val 13 hKS rfl (by kernel_rfl) (by kernel_rfl) (by kernel_rfl) rfl (fun _ _ _ _ h => h) (.int .i64 3) (fun w' h => by simp [go_sem]) ?_
    simp only [Act.put, List.setIfInBounds_toArray, List.set_cons_zero, List.set_cons_succ]
    refine wpU_val 14 hKS rfl (by kernel_rfl) (by kernel_rfl) (by kernel_rfl) rfl (fun _ _ _ _ h => h) (.int .i64 0) (fun w' h => by simp [go_sem]) ?_
    simp only [Act.put, List.setIfInBounds_toArray, List.set_cons_zero, List.set_cons_succ]
    refine wpU_val 15 hKS rfl (by kernel_rfl) (by kernel_rfl) (by kernel_rfl) rfl (fun _ _ _ _ h => h) (.int .i64 p) (fun w' h => by simp [go_sem]) ?_
    simp only [Act.put, List.setIfInBounds_toArray, List.set_cons_zero, List.set_cons_succ]
    refine wpU_val 16 hKS rfl (by kernel_rfl) (by kernel_rfl) (by kernel_rfl) rfl (fun _ _ _ _ h => h) (.int .i64 3) (fun w' h => by simp [go_sem]) ?_
    simp only [Act.put, List.setIfInBounds_toArray, List.set_cons_zero, List.set_cons_succ]
    refine wpU_done (by kernel_rfl) ?_
    intro w9 b9 s9
    have U9 : Hid (But (fun k => k = g) w w9) := Lib.hid (But.ofBelow ((((((Below.refl _ w).drew.trans b5).trans (b6.mono b5.size)).trans (b7.mono (Nat.le_trans b5.size b6.size))).trans (b8.mono (Nat.le_trans (Nat.le_trans b5.size b6.size) b7.size))).trans (b9.mono (Nat.le_trans (Nat.le_trans (Nat.le_trans b5.size b6.size) b7.size) b8.size))))
    have HX9 := Lib.hid s9
    have x9 := s9.cell 1 rfl
    have f9 := s9.frozen 1
    clear hKS b5 s5 b6 sl6 in6 hr6 ho6 b7 s7 b8 b9 s9
    go_wp2_with fail
    refine (wrong_any p 3 _).mono ?_
    rintro e w10 ⟨rfl, rfl⟩
    unfold FaultN
    go_wp2_with fail
    exact ⟨rfl, bn_no HE.out (by decide) U9.out⟩
  · have E1 := Lib.hid e1
    clear e1
    go_enter Tryd.func70, Tryd.ntmps70
    have HE : Hid (R = BR.err p 4) := Lib.hid (by rw [HR.out]; unfold nLen; simp only [E1.out]; simp)
    go_upto_region 1 with fail
    have hKS : Keeps (fun w' => Box w' g 79 (RdN s p m)) := fun w w' h b => h.after b
    refine wp_region_U (w := w) (fun w' => Box w' g 79 (RdN s p m)) rfl HX.out.drew ?_
    refine wpU_val 0 hKS rfl (by kernel_rfl) (by kernel_rfl) (by kernel_rfl) rfl (fun _ _ _ _ h => h) (.pointer (some ⟨g, 0, none⟩)) (fun w' h => by simp [go_sem]) ?_
    simp only [Act.put, List.setIfInBounds_toArray, List.set_cons_zero, List.set_cons_succ]
    refine wpU_val 1 hKS rfl (by kernel_rfl) (by kernel_rfl) (by kernel_rfl) rfl (fun _ _ _ _ h => h) (.pointer (some ⟨g, 0, none⟩)) (fun w' h => by simp [go_sem]) ?_
    simp only [Act.put, List.setIfInBounds_toArray, List.set_cons_zero, List.set_cons_succ]
    refine wpU_val 2 hKS rfl (by kernel_rfl) (by kernel_rfl) (by kernel_rfl) rfl (fun _ _ _ _ h => h) (.pointer (some ⟨g, 0, none⟩)) (fun w' h => by simp [go_sem]) ?_
    simp only [Act.put, List.setIfInBounds_toArray, List.set_cons_zero, List.set_cons_succ]
    refine wpU_val 3 hKS rfl (by kernel_rfl) (by kernel_rfl) (by kernel_rfl) rfl (fun _ _ _ _ h => h) (.string s) (fun w' h => by simp [go_sem, h.cell 0 rfl]) ?_
    simp only [Act.put, List.setIfInBounds_toArray, List.set_cons_zero, List.set_cons_succ]
    refine wpU_val 5 hKS rfl (by kernel_rfl) (by kernel_rfl) (by kernel_rfl) rfl (fun _ _ _ _ h => h) (.pointer (some ⟨g, 0, none⟩)) (fun w' h => by simp [go_sem]) ?_
    simp only [Act.put, List.setIfInBounds_toArray, List.set_cons_zero, List.set_cons_succ]
    refine wpU_val 6 hKS rfl (by kernel_rfl) (by kernel_rfl) (by kernel_rfl) rfl (fun _ _ _ _ h => h) (.pointer (some ⟨g, 0, none⟩)) (fun w' h => by simp [go_sem]) ?_
    simp only [Act.put, List.setIfInBounds_toArray, List.set_cons_zero, List.set_cons_succ]
    refine wpU_val 7 hKS rfl (by kernel_rfl) (by kernel_rfl) (by kernel_rfl) rfl (fun _ _ _ _ h => h) (.pointer (some ⟨g, 1, none⟩)) (fun w' h => by simp [go_sem]) ?_
    simp only [Act.put, List.setIfInBounds_toArray, List.set_cons_zero, List.set_cons_succ]
    refine wpU_val 8 hKS rfl (by kernel_rfl) (by kernel_rfl) (by kernel_rfl) rfl (fun _ _ _ _ h => h) (.int .i64 p) (fun w' h => by simp [go_sem, h.cell 1 rfl]) ?_
    simp only [Act.put, List.setIfInBounds_toArray, List.set_cons_zero, List.set_cons_succ]
    refine wpU_one 4 rfl (by kernel_rfl) rfl ?_
    intro w5 b5 s5
    obtain ⟨v6, w6, hr6, ho6, b6⟩ := conv_own w5 s (by omega)
    refine wp_of_run v6 w6 (by simp [go_sem, hr6]) ?_
    refine ⟨hKS _ _ s5 b6, ?_⟩
    simp only [Act.put, List.setIfInBounds_toArray, List.set_cons_zero, List.set_cons_succ]
    obtain ⟨a6, n6, c6, rfl, sl6, in6⟩ := OwnB.parts ho6
    refine wpU_one 9 rfl (by kernel_rfl) rfl ?_
    intro w7 b7 s7
    refine wp_callR 78 #[.slice a6 n6 c6, .int .i64 p, .int .i64 4096] (by simp [go_sem]) _ (getLen_any a6 n6 c6 s.data.toList p 4096 4096 w7 (sl6.after b7) (by rw [sl6.1, HL.out]; omega) (by omega) (by omega) rfl (by omega)) ?_
    rintro e w8 ⟨rfl, b8⟩
    refine ⟨_, rfl, hKS _ _ s7 b8, ?_⟩
    rw [E1.out]
    simp only [Act.put, List.setIfInBounds_toArray, List.set_cons_zero, List.set_cons_succ]
    refine wpU_val 10 hKS rfl (by kernel_rfl) (by kernel_rfl) (by kernel_rfl) rfl (fun _ _ _ _ h => h) (.tuple #[.int .i64 0, .int .i64 p, .int .i64 4]) (fun w' h => by simp [go_sem]) ?_
    simp only [Act.put, List.setIfInBounds_toArray, List.set_cons_zero, List.set_cons_succ]
    refine wpU_val 11 hKS rfl (by kernel_rfl) (by kernel_rfl) (by kernel_rfl) rfl (fun _ _ _ _ h => h) (.int .i64 0) (fun w' h => by simp [go_sem]) ?_
    simp only [Act.put, List.setIfInBounds_toArray, List.set_cons_zero, List.set_cons_succ]
    refine wpU_val 12 hKS rfl (by kernel_rfl) (by kernel_rfl) (by kernel_rfl) rfl (fun _ _ _ _ h => h) (.int .i64 p) (fun w' h => by simp [go_sem]) ?_
    simp only [Act.put, List.setIfInBounds_toArray, List.set_cons_zero, List.set_cons_succ]
    refine wpU_val 13 hKS rfl (by kernel_rfl) (by kernel_rfl) (by kernel_rfl) rfl (fun _ _ _ _ h => h) (.int .i64 4) (fun w' h => by simp [go_sem]) ?_
    simp only [Act.put, List.setIfInBounds_toArray, List.set_cons_zero, List.set_cons_succ]
    refine wpU_val 14 hKS rfl (by kernel_rfl) (by kernel_rfl) (by kernel_rfl) rfl (fun _ _ _ _ h => h) (.int .i64 0) (fun w' h => by simp [go_sem]) ?_
    simp only [Act.put, List.setIfInBounds_toArray, List.set_cons_zero, List.set_cons_succ]
    refine wpU_val 15 hKS rfl (by kernel_rfl) (by kernel_rfl) (by kernel_rfl) rfl (fun _ _ _ _ h => h) (.int .i64 p) (fun w' h => by simp [go_sem]) ?_
    simp only [Act.put, List.setIfInBounds_toArray, List.set_cons_zero, List.set_cons_succ]
    refine wpU_val 16 hKS rfl (by kernel_rfl) (by kernel_rfl) (by kernel_rfl) rfl (fun _ _ _ _ h => h) (.int .i64 4) (fun w' h => by simp [go_sem]) ?_
    simp only [Act.put, List.setIfInBounds_toArray, List.set_cons_zero, List.set_cons_succ]
    refine wpU_done (by kernel_rfl) ?_
    intro w9 b9 s9
    have U9 : Hid (But (fun k => k = g) w w9) := Lib.hid (But.ofBelow ((((((Below.refl _ w).drew.trans b5).trans (b6.mono b5.size)).trans (b7.mono (Nat.le_trans b5.size b6.size))).trans (b8.mono (Nat.le_trans (Nat.le_trans b5.size b6.size) b7.size))).trans (b9.mono (Nat.le_trans (Nat.le_trans (Nat.le_trans b5.size b6.size) b7.size) b8.size))))
    have HX9 := Lib.hid s9
    have x9 := s9.cell 1 rfl
    have f9 := s9.frozen 1
    clear hKS b5 s5 b6 sl6 in6 hr6 ho6 b7 s7 b8 b9 s9
    go_wp2_with fail
    refine (wrong_any p 4 _).mono ?_
    rintro e w10 ⟨rfl, rfl⟩
    unfold FaultN
    go_wp2_with fail
    exact ⟨rfl, bn_no HE.out (by decide) U9.out⟩
  · obtain ⟨q, hq⟩ : ∃ q, q = p + k := ⟨_, rfl⟩
    rw [← hq] at e1
    rw [← hq, HL.out] at hpk
    have E1 := Lib.hid e1
    have HRE : Hid (R = if s.data.toList.length ≤ q then BR.err s.data.toList.length 2 else if s.data.toList.getD q 0 ≠ 58 then BR.err q 3 else
      if s.data.toList.length - q - 1 < N then BR.err s.data.toList.length 2 else ⟨(s.data.toList.drop (q + 1)).take N, q + 1 + N, 0⟩) := Lib.hid (by rw [HR.out]; unfold nLen; simp only [E1.out]; simp)
    clear e1 ht hq HR
    go_enter Tryd.func70, Tryd.ntmps70
    go_upto_region 1 with fail
    have hKS : Keeps (fun w' => Box w' g 79 (RdN s p m)) := fun w w' h b => h.after b
    refine wp_region_U (w := w) (fun w' => Box w' g 79 (RdN s p m)) rfl HX.out.drew ?_
    refine wpU_val 0 hKS rfl (by kernel_rfl) (by kernel_rfl) (by kernel_rfl) rfl (fun _ _ _ _ h => h) (.pointer (some ⟨g, 0, none⟩)) (fun w' h => by simp [go_sem]) ?_
    simp only [Act.put, List.setIfInBounds_toArray, List.set_cons_zero, List.set_cons_succ]
    refine wpU_val 1 hKS rfl (by kernel_rfl) (by kernel_rfl) (by kernel_rfl) rfl (fun _ _ _ _ h => h) (.pointer (some ⟨g, 0, none⟩)) (fun w' h => by simp [go_sem]) ?_
    simp only [Act.put, List.setIfInBounds_toArray, List.set_cons_zero, List.set_cons_succ]
    refine wpU_val 2 hKS rfl (by kernel_rfl) (by kernel_rfl) (by kernel_rfl) rfl (fun _ _ _ _ h => h) (.pointer (some ⟨g, 0, none⟩)) (fun w' h => by simp [go_sem]) ?_
    simp only [Act.put, List.setIfInBounds_toArray, List.set_cons_zero, List.set_cons_succ]
    refine wpU_val 3 hKS rfl (by kernel_rfl) (by kernel_rfl) (by kernel_rfl) rfl (fun _ _ _ _ h => h) (.string s) (fun w' h => by simp [go_sem, h.cell 0 rfl]) ?_
    simp only [Act.put, List.setIfInBounds_toArray, List.set_cons_zero, List.set_cons_succ]
    refine wpU_val 5 hKS rfl (by kernel_rfl) (by kernel_rfl) (by kernel_rfl) rfl (fun _ _ _ _ h => h) (.pointer (some ⟨g, 0, none⟩)) (fun w' h => by simp [go_sem]) ?_
    simp only [Act.put, List.setIfInBounds_toArray, List.set_cons_zero, List.set_cons_succ]
    refine wpU_val 6 hKS rfl (by kernel_rfl) (by kernel_rfl) (by kernel_rfl) rfl (fun _ _ _ _ h => h) (.pointer (some ⟨g, 0, none⟩)) (fun w' h => by simp [go_sem]) ?_
    simp only [Act.put, List.setIfInBounds_toArray, List.set_cons_zero, List.set_cons_succ]
    refine wpU_val 7 hKS rfl (by kernel_rfl) (by kernel_rfl) (by kernel_rfl) rfl (fun _ _ _ _ h => h) (.pointer (some ⟨g, 1, none⟩)) (fun w' h => by simp [go_sem]) ?_
    simp only [Act.put, List.setIfInBounds_toArray, List.set_cons_zero, List.set_cons_succ]
    refine wpU_val 8 hKS rfl (by kernel_rfl) (by kernel_rfl) (by kernel_rfl) rfl (fun _ _ _ _ h => h) (.int .i64 p) (fun w' h => by simp [go_sem, h.cell 1 rfl]) ?_
    simp only [Act.put, List.setIfInBounds_toArray, List.set_cons_zero, List.set_cons_succ]
    refine wpU_one 4 rfl (by kernel_rfl) rfl ?_
    intro w5 b5 s5
    obtain ⟨v6, w6, hr6, ho6, b6⟩ := conv_own w5 s (by omega)
    refine wp_of_run v6 w6 (by simp [go_sem, hr6]) ?_
    refine ⟨hKS _ _ s5 b6, ?_⟩
    simp only [Act.put, List.setIfInBounds_toArray, List.set_cons_zero, List.set_cons_succ]
    obtain ⟨a6, n6, c6, rfl, sl6, in6⟩ := OwnB.parts ho6
    refine wpU_one 9 rfl (by kernel_rfl) rfl ?_
    intro w7 b7 s7
    refine wp_callR 78 #[.slice a6 n6 c6, .int .i64 p, .int .i64 4096] (by simp [go_sem]) _ (getLen_any a6 n6 c6 s.data.toList p 4096 4096 w7 (sl6.after b7) (by rw [sl6.1, HL.out]; omega) (by omega) (by omega) rfl (by omega)) ?_
    rintro e w8 ⟨rfl, b8⟩
    refine ⟨_, rfl, hKS _ _ s7 b8, ?_⟩
    rw [E1.out]
    simp only [Act.put, List.setIfInBounds_toArray, List.set_cons_zero, List.set_cons_succ]
    refine wpU_val 10 hKS rfl (by kernel_rfl) (by kernel_rfl) (by kernel_rfl) rfl (fun _ _ _ _ h => h) (.tuple #[.int .i64 N, .int .i64 q, .int .i64 0]) (fun w' h => by simp [go_sem]) ?_
    simp only [Act.put, List.setIfInBounds_toArray, List.set_cons_zero, List.set_cons_succ]
    refine wpU_val 11 hKS rfl (by kernel_rfl) (by kernel_rfl) (by kernel_rfl) rfl (fun _ _ _ _ h => h) (.int .i64 N) (fun w' h => by simp [go_sem]) ?_
    simp only [Act.put, List.setIfInBounds_toArray, List.set_cons_zero, List.set_cons_succ]
    refine wpU_val 12 hKS rfl (by kernel_rfl) (by kernel_rfl) (by kernel_rfl) rfl (fun _ _ _ _ h => h) (.int .i64 q) (fun w' h => by simp [go_sem]) ?_
    simp only [Act.put, List.setIfInBounds_toArray, List.set_cons_zero, List.set_cons_succ]
    refine wpU_val 13 hKS rfl (by kernel_rfl) (by kernel_rfl) (by kernel_rfl) rfl (fun _ _ _ _ h => h) (.int .i64 0) (fun w' h => by simp [go_sem]) ?_
    simp only [Act.put, List.setIfInBounds_toArray, List.set_cons_zero, List.set_cons_succ]
    refine wpU_val 14 hKS rfl (by kernel_rfl) (by kernel_rfl) (by kernel_rfl) rfl (fun _ _ _ _ h => h) (.int .i64 N) (fun w' h => by simp [go_sem]) ?_
    simp only [Act.put, List.setIfInBounds_toArray, List.set_cons_zero, List.set_cons_succ]
    refine wpU_val 15 hKS rfl (by kernel_rfl) (by kernel_rfl) (by kernel_rfl) rfl (fun _ _ _ _ h => h) (.int .i64 q) (fun w' h => by simp [go_sem]) ?_
    simp only [Act.put, List.setIfInBounds_toArray, List.set_cons_zero, List.set_cons_succ]
    refine wpU_val 16 hKS rfl (by kernel_rfl) (by kernel_rfl) (by kernel_rfl) rfl (fun _ _ _ _ h => h) (.int .i64 0) (fun w' h => by simp [go_sem]) ?_
    simp only [Act.put, List.setIfInBounds_toArray, List.set_cons_zero, List.set_cons_succ]
    refine wpU_done (by kernel_rfl) ?_
    intro w9 b9 s9
    have U9 : Hid (But (fun k => k = g) w w9) := Lib.hid (But.ofBelow ((((((Below.refl _ w).drew.trans b5).trans (b6.mono b5.size)).trans (b7.mono (Nat.le_trans b5.size b6.size))).trans (b8.mono (Nat.le_trans (Nat.le_trans b5.size b6.size) b7.size))).trans (b9.mono (Nat.le_trans (Nat.le_trans (Nat.le_trans b5.size b6.size) b7.size) b8.size))))
    have HX9 := Lib.hid s9
    have x9 := s9.cell 1 rfl
    have f9 := s9.frozen 1
    clear hKS b5 s5 b6 sl6 in6 hr6 ho6 b7 s7 b8 b9 s9
    go_upto_region 5 with fail
    have X10 : Box (w9.setCell ⟨g, 1, none⟩ (.int .i64 q)) g 79 (RdN s q m) := HX9.out.set 1 _
    have U10 := Lib.hid (U9.out.setCell (p := ⟨g, 1, none⟩) (.inl rfl) (.int .i64 q))
    change Code.wp _ _ _ _ (w9.setCell ⟨g, 1, none⟩ (.int .i64 q))
    generalize (w9.setCell ⟨g, 1, none⟩ (.int .i64 q)) = w10 at *
    have HX10 := Lib.hid X10
    clear X10 U9 HX9 x9 f9 E1
    go_wp2_with fail
    refine (signN_any g s q m 58 w10 HX10.out (by omega)).mono ?_
    rintro e w11 ⟨b11, ⟨h11, rfl⟩ | ⟨h11, k11, rfl⟩ | ⟨h11, k11, rfl, X11⟩⟩
    · unfold FaultN
      go_wp2_with fail
      exact ⟨rfl, bn_no (by rw [HRE.out, if_pos (by rw [HL.out]; exact h11), HL.out]) (by decide) (U10.out.trans b11 (fun k hk => .inl hk))⟩
    · unfold FaultN
      go_wp2_with fail
      exact ⟨rfl, bn_no (by rw [HRE.out, if_neg (by rw [HL.out]; omega), if_pos k11]) (by decide) (U10.out.trans b11 (fun k hk => .inl hk))⟩
    · have HRF : Hid (R = if s.size - q - 1 < N then BR.err s.size 2 else ⟨(s.data.toList.drop (q + 1)).take N, q + 1 + N, 0⟩) := Lib.hid (by rw [HRE.out, if_neg (by rw [HL.out]; omega), if_neg (by rw [k11]; simp), HL.out])
      obtain ⟨Q, hQ⟩ : ∃ Q, Q = q + 1 := ⟨_, rfl⟩
      rw [← hQ] at X11 HRF
      have HX11 := Lib.hid X11
      have U11 := Lib.hid (U10.out.trans b11 (fun k hk => .inl hk))
      have x0 := X11.cell 0 rfl
      have x1 := X11.cell 1 rfl
      have f1 := X11.frozen 1
      have hQs : Q ≤ s.size := by omega
      clear X11 b11 k11 HX10 U10 HRE
      by_cases hN : s.size - q - 1 < N
      · have hN' : (s.size : Int) - (Q : Int) < (N : Int) := by omega
        clear hQ
        go_upto_region 6 with fail
        go_quiet (fail)
        go_wp2_with fail
        refine (wrong_any s.size 2 _).mono ?_
        rintro e w12 ⟨rfl, rfl⟩
        unfold FaultN
        go_wp2_with fail
        exact ⟨rfl, bn_no (by rw [HRF.out, if_pos hN]) (by decide) (by first | exact U11.out | exact U11.out.drewN _ | exact (U11.out.drewN _).drewN _)⟩
      · have hN' : (N : Int) ≤ (s.size : Int) - (Q : Int) := by omega
        obtain ⟨T, hT⟩ : ∃ T, T = Q + N := ⟨_, rfl⟩
        have qT : (Q : Int) + (N : Int) = (T : Int) := by omega
        have qT2 : (T : Int) - (N : Int) = (Q : Int) := by omega
        have hTs : (T : Int) ≤ s.size := by omega
        have hQ0 : (0 : Int) ≤ Q := by omega
        have hQT : (Q : Int) ≤ T := by omega
        have hTQ : T - Q = N := by omega
        have hs6 : (s.size : Int) ≤ 100000 := by omega
        have HRG : Hid (R = ⟨(s.data.toList.drop Q).take N, T, 0⟩) := Lib.hid (by rw [HRF.out, if_neg hN, ← hT])
        have hwQ : IntKind.i64.wrap (Q : Int) = (Q : Int) := by rw [IntKind.wrap_i64]; omega
        clear HRF hN hT hQ
        go_upto_region 6 with fail
        go_quiet (fail)
        have X12 := HX11.out.drewN nq
        have U12 := U11.out.drewN nq
        generalize w11.drewN nq = w12 at *
        have x0 := X12.cell 0 rfl
        have x1 := X12.cell 1 rfl
        have f1 := X12.frozen 1
        go_upto_region 9 with fail
        have X13 : Box (w12.setCell ⟨g, 1, none⟩ (.int .i64 T)) g 79 (RdN s T m) := X12.set 1 _
        have U13 := U12.setCell (p := ⟨g, 1, none⟩) (.inl rfl) (.int .i64 T)
        first | rw [qT] | skip
        change Code.wp _ _ _ _ (w12.setCell ⟨g, 1, none⟩ (.int .i64 T))
        generalize (w12.setCell ⟨g, 1, none⟩ (.int .i64 T)) = w13 at *
        have hKS : Keeps (fun w' => Box w' g 79 (RdN s T m)) := fun w w' h b => h.after b
        have HX13 := Lib.hid X13
        have HU13 := Lib.hid U13
        clear X12 U12 x0 x1 f1 X13 U13 HX11 U11
        refine wp_region_U (w := w13) (fun w' => Box w' g 79 (RdN s T m)) rfl HX13.out.drew ?_
        refine wpU_val 0 hKS rfl (by kernel_rfl) (by kernel_rfl) (by kernel_rfl) rfl (fun _ _ _ _ h => h) (.pointer (some ⟨g, 0, none⟩)) (fun w' h => by simp [go_sem]) ?_
        simp only [Act.put, List.setIfInBounds_toArray, List.set_cons_zero, List.set_cons_succ]
        refine wpU_val 1 hKS rfl (by kernel_rfl) (by kernel_rfl) (by kernel_rfl) rfl (fun _ _ _ _ h => h) (.pointer (some ⟨g, 0, none⟩)) (fun w' h => by simp [go_sem]) ?_
        simp only [Act.put, List.setIfInBounds_toArray, List.set_cons_zero, List.set_cons_succ]
        refine wpU_val 2 hKS rfl (by kernel_rfl) (by kernel_rfl) (by kernel_rfl) rfl (fun _ _ _ _ h => h) (.pointer (some ⟨g, 0, none⟩)) (fun w' h => by simp [go_sem]) ?_
        simp only [Act.put, List.setIfInBounds_toArray, List.set_cons_zero, List.set_cons_succ]
        refine wpU_val 3 hKS rfl (by kernel_rfl) (by kernel_rfl) (by kernel_rfl) rfl (fun _ _ _ _ h => h) (.string s) (fun w' h => by simp [go_sem, h.cell 0 rfl]) ?_
        simp only [Act.put, List.setIfInBounds_toArray, List.set_cons_zero, List.set_cons_succ]
        refine wpU_val 4 hKS rfl (by kernel_rfl) (by kernel_rfl) (by kernel_rfl) rfl (fun _ _ _ _ h => h) (.pointer (some ⟨g, 0, none⟩)) (fun w' h => by simp [go_sem]) ?_
        simp only [Act.put, List.setIfInBounds_toArray, List.set_cons_zero, List.set_cons_succ]
        refine wpU_val 5 hKS rfl (by kernel_rfl) (by kernel_rfl) (by kernel_rfl) rfl (fun _ _ _ _ h => h) (.pointer (some ⟨g, 0, none⟩)) (fun w' h => by simp [go_sem]) ?_
        simp only [Act.put, List.setIfInBounds_toArray, List.set_cons_zero, List.set_cons_succ]
        refine wpU_val 6 hKS rfl (by kernel_rfl) (by kernel_rfl) (by kernel_rfl) rfl (fun _ _ _ _ h => h) (.pointer (some ⟨g, 1, none⟩)) (fun w' h => by simp [go_sem]) ?_
        simp only [Act.put, List.setIfInBounds_toArray, List.set_cons_zero, List.set_cons_succ]
        refine wpU_val 7 hKS rfl (by kernel_rfl) (by kernel_rfl) (by kernel_rfl) rfl (fun _ _ _ _ h => h) (.int .i64 T) (fun w' h => by simp [go_sem, h.cell 1 rfl]) ?_
        simp only [Act.put, List.setIfInBounds_toArray, List.set_cons_zero, List.set_cons_succ]
        refine wpU_val 8 hKS rfl (by kernel_rfl) (by kernel_rfl) (by kernel_rfl) rfl (fun _ _ _ _ h => h) (.int .i64 N) (fun w' h => by simp [go_sem]) ?_
        simp only [Act.put, List.setIfInBounds_toArray, List.set_cons_zero, List.set_cons_succ]
        refine wpU_val 9 hKS rfl (by kernel_rfl) (by kernel_rfl) (by kernel_rfl) rfl (fun _ _ _ _ h => h) (.int .i64 Q) (fun w' h => by simp [go_sem, qT2, hwQ]) ?_
        simp only [Act.put, List.setIfInBounds_toArray, List.set_cons_zero, List.set_cons_succ]
        refine wpU_val 10 hKS rfl (by kernel_rfl) (by kernel_rfl) (by kernel_rfl) rfl (fun _ _ _ _ h => h) (.pointer (some ⟨g, 0, none⟩)) (fun w' h => by simp [go_sem]) ?_
        simp only [Act.put, List.setIfInBounds_toArray, List.set_cons_zero, List.set_cons_succ]
        refine wpU_val 11 hKS rfl (by kernel_rfl) (by kernel_rfl) (by kernel_rfl) rfl (fun _ _ _ _ h => h) (.pointer (some ⟨g, 0, none⟩)) (fun w' h => by simp [go_sem]) ?_
        simp only [Act.put, List.setIfInBounds_toArray, List.set_cons_zero, List.set_cons_succ]
        refine wpU_val 12 hKS rfl (by kernel_rfl) (by kernel_rfl) (by kernel_rfl) rfl (fun _ _ _ _ h => h) (.pointer (some ⟨g, 1, none⟩)) (fun w' h => by simp [go_sem]) ?_
        simp only [Act.put, List.setIfInBounds_toArray, List.set_cons_zero, List.set_cons_succ]
        refine wpU_val 13 hKS rfl (by kernel_rfl) (by kernel_rfl) (by kernel_rfl) rfl (fun _ _ _ _ h => h) (.int .i64 T) (fun w' h => by simp [go_sem, h.cell 1 rfl]) ?_
        simp only [Act.put, List.setIfInBounds_toArray, List.set_cons_zero, List.set_cons_succ]
        refine wpU_val 14 hKS rfl (by kernel_rfl) (by kernel_rfl) (by kernel_rfl) rfl (fun _ _ _ _ h => h) (.string (s.extract Q T)) (fun w' h => by simp [go_sem, hQ0, hQT, hTs]; try omega) ?_
        simp only [Act.put, List.setIfInBounds_toArray, List.set_cons_zero, List.set_cons_succ]
        refine wpU_one 15 rfl (by kernel_rfl) rfl ?_
        intro w14 b14 s14
        obtain ⟨v15, w15, hr15, ho15, b15⟩ := conv_own w14 (s.extract Q T) (by simp; omega)
        refine wp_of_run v15 w15 (by simp [go_sem, hr15]) ?_
        refine ⟨hKS _ _ s14 b15, ?_⟩
        simp only [Act.put, List.setIfInBounds_toArray, List.set_cons_zero, List.set_cons_succ]
        obtain ⟨a15, n15, c15, rfl, sl15, in15⟩ := OwnB.parts ho15
        refine wpU_val 16 hKS rfl (by kernel_rfl) (by kernel_rfl) (by kernel_rfl) rfl (fun _ _ _ _ h => h) (.slice a15 n15 c15) (fun w' h => by simp [go_sem]) ?_
        simp only [Act.put, List.setIfInBounds_toArray, List.set_cons_zero, List.set_cons_succ]
        refine wpU_done (by kernel_rfl) ?_
        intro w16 b16 s16
        have Bl : Below w13.heap.size w13 w16 := (((Below.refl _ w13).drew.trans b14).trans (b15.mono b14.size)).trans (b16.mono (Nat.le_trans b14.size b15.size))
        rw [extract_data, hTQ] at sl15
        have HF := Lib.hid (bn_yes (m := m) HRG.out (HU13.out.trans (But.ofBelow (S := fun _ => False) Bl) (fun _ h => h.elim)) (sl15.after b16) (in15.mono (fun k hk => Nat.le_trans HU13.out.size (Nat.le_trans b14.size hk))) s16)
        clear hKS b14 s14 b15 sl15 in15 hr15 ho15 b16 s16 Bl
        go_wp2_with fail
        go_ret
        exact HF.out

end Go.Proofs.YtigopfeamjhdpaaDoor
namespace Go.Proofs.YtigopfeamjhdpaaDoor
open Go.RowKit
set_option linter.unusedSimpArgs false
set_option linter.unusedVariables false

theorem drop_head (f : UInt8 → Bool) : ∀ (r : List UInt8) (h : (r.takeWhile f).length < r.length), f (r[(r.takeWhile f).length]'h) = false
  | [], h => by simp at h
  | c :: r, h => by
    cases hf : f c with
    | true =>
      have e : (c :: r).takeWhile f = c :: r.takeWhile f := List.takeWhile_cons_of_pos hf
      have h' : (r.takeWhile f).length < r.length := by rw [e] at h; simpa using h
      have := drop_head f r h'
      simp only [e, List.length_cons, List.getElem_cons_succ]
      exact this
    | false =>
      have e : (c :: r).takeWhile f = [] := List.takeWhile_cons_of_neg (by rw [hf]; simp)
      simp only [e, List.length_nil, List.getElem_cons_zero]
      exact hf
theorem skipN_idem (l : List UInt8) (p : Nat) : skipN l (skipN l p) = skipN l p := by
  rcases Nat.lt_or_ge (skipN l p) l.length with h | h
  · refine skipN_other h ?_
    have h2 : ((l.drop p).takeWhile blankB).length < (l.drop p).length := by
      unfold skipN at h
      simp
      omega
    have := drop_head blankB (l.drop p) h2
    rw [List.getElem_drop] at this
    exact this
  · exact skipN_end h
theorem nLen_place {l : List UInt8} {p : Nat} (h : (nLen l p).e = 0) : p < (nLen l p).p ∧ (nLen l p).p ≤ l.length := by
  unfold nLen at h ⊢
  rcases lenR_cases l p 4096 with ⟨h1, e1⟩ | ⟨h1, h2, e1⟩ | ⟨h1, e1⟩ | ⟨k, N, hk, hpk, hmk, ht, e1⟩
  · simp [e1, BR.err] at h
  · simp [e1, BR.err] at h
  · simp [e1, BR.err] at h
  · simp only [e1, ne_eq, not_true, if_false, Int.toNat_natCast] at h ⊢
    split at h
    · simp [BR.err] at h
    · split at h
      · simp [BR.err] at h
      · split at h
        · simp [BR.err] at h
        · rename_i h1 h2 h3
          rw [if_neg h1, if_neg h2, if_neg h3]
          dsimp only
          omega
theorem pre_e {y : List UInt8} {R : BR} (h : (R.pre y).e = 0) : R.e = 0 ∧ (R.pre y).p = R.p := by
  unfold BR.pre at h ⊢
  split at h
  · rename_i h1
    rw [if_pos h1]
    exact ⟨h1, rfl⟩
  · rename_i h1
    exact absurd h h1
theorem nQuo_place (l : List UInt8) : ∀ f p, (nQuo l f p).e = 0 → p < (nQuo l f p).p ∧ (nQuo l f p).p ≤ l.length
  | 0, p, h => by simp [nQuo, BR.err] at h
  | f + 1, p, h => by
    unfold nQuo at h ⊢
    by_cases h1 : l.length ≤ p
    · rw [if_pos h1] at h; simp [BR.err] at h
    · rw [if_neg h1] at h ⊢
      by_cases h2 : l.getD p 0 = 34
      · rw [if_pos h2]; dsimp only; omega
      · rw [if_neg h2] at h ⊢
        by_cases h3 : l.getD p 0 ≠ 92
        · rw [if_pos h3] at h ⊢
          obtain ⟨h4, h5⟩ := pre_e h
          rw [h5]
          have := nQuo_place l f (p + 1) h4
          omega
        · rw [if_neg h3] at h ⊢
          by_cases h6 : (nEsc l (p + 1)).e ≠ 0
          · rw [if_pos h6] at h; exact absurd h h6
          · rw [if_neg h6] at h ⊢
            obtain ⟨h4, h5⟩ := pre_e h
            rw [h5]
            have := nQuo_place l f _ h4
            have := nEsc_place l (p + 1) (by omega)
            omega
theorem nHex_place {l : List UInt8} {p : Nat} (hp : p ≤ l.length) (h : (nHex l p).e = 0) : p < (nHex l p).p ∧ (nHex l p).p ≤ l.length := by
  have hl := nSome_len hexC 35 (l.drop p) p
  unfold nHex at h ⊢
  dsimp only at h ⊢
  generalize nSome hexC 35 (l.drop p) p = x at *
  rw [List.length_drop] at hl
  split at h
  · rename_i h1; exact absurd h h1
  · rename_i h1
    rw [if_neg h1]
    have := hl.2.2.1 (by omega)
    cases hu : unhex x.b with
    | none => rw [hu] at h; simp [BR.err] at h
    | some b => dsimp only; omega
theorem nB64_place {l : List UInt8} {p : Nat} {en : UInt8} (hp : p ≤ l.length) (h : (nB64 l p en).e = 0) : p < (nB64 l p en).p ∧ (nB64 l p en).p ≤ l.length := by
  have hl := nSome_len b64C en (l.drop p) p
  unfold nB64 at h ⊢
  dsimp only at h ⊢
  generalize nSome b64C en (l.drop p) p = x at *
  rw [List.length_drop] at hl
  split at h
  · rename_i h1; exact absurd h h1
  · rename_i h1
    rw [if_neg h1]
    have := hl.2.2.1 (by omega)
    cases hu : unb64 x.b with
    | none => rw [hu] at h; simp [BR.err] at h
    | some b => dsimp only; omega
theorem nPlain_place {l : List UInt8} {p : Nat} (h : (nPlain l p).e = 0) : p < (nPlain l p).p ∧ (nPlain l p).p ≤ l.length := by
  unfold nPlain at h ⊢
  by_cases h1 : l.length ≤ p
  · rw [if_pos h1] at h; simp [BR.err] at h
  · rw [if_neg h1] at h ⊢
    split at h
    · rename_i h2; rw [if_pos h2]; exact nLen_place h
    · rename_i h2; rw [if_neg h2]
      split at h
      · rename_i h3; rw [if_pos h3]
        have := nQuo_place l (l.length + 1) (p + 1) h
        unfold nQuote
        omega
      · rename_i h3; rw [if_neg h3]
        split at h
        · rename_i h4; rw [if_pos h4]
          have := nHex_place (by omega) h
          omega
        · rename_i h4; rw [if_neg h4]
          split at h
          · rename_i h5; rw [if_pos h5]
            have := nB64_place (by omega) h
            omega
          · rename_i h5; rw [if_neg h5]
            split at h
            · rename_i h6
              rw [if_pos h6]
              have e : (l.drop p) = l[p] :: l.drop (p + 1) := List.drop_eq_getElem_cons (by omega)
              have e2 : l.getD p 0 = l[p] := by rw [List.getD_eq_getElem?_getD, List.getElem?_eq_getElem (by omega)]; rfl
              rw [e2] at h6
              have := (List.takeWhile_sublist (l := l.drop p) signB).length_le
              rw [List.length_drop] at this
              dsimp only
              refine ⟨?_, by omega⟩
              rw [e, List.takeWhile_cons_of_pos h6, List.length_cons]
              omega
            · simp [BR.err] at h
theorem Nt_place {l : List UInt8} {m : Option (List Sx)} {p lv n : Nat} {r : RV} (h : Nt l m p lv n r) (he : r.e = 0) (hp : p ≤ l.length) : p < r.p ∧ r.p ≤ l.length ∧ (n ≤ 512 → r.n ≤ 512) ∧ n ≤ r.n := by
  induction h with
  | short h1 => simp [RV.err] at he
  | bad h1 h2 => simp [RV.err] at he
  | long h1 h2 h3 => simp [RV.err] at he
  | @hint p lv n h1 h2 h3 =>
    have := skipN_le hp
    unfold nHint at he ⊢
    dsimp only at he ⊢
    split at he
    · rename_i h4; exact absurd he h4
    · rename_i h4
      rw [if_neg h4]
      split at he
      · simp [RV.err] at he
      · rename_i h5
        rw [if_neg h5]
        split at he
        · simp [RV.err] at he
        · rename_i h6
          rw [if_neg h6]
          split at he
          · rename_i h7; exact absurd he h7
          · rename_i h7
            rw [if_neg h7]
            dsimp only
            have a1 := skipN_le (l := l) (p := skipN l p + 1) (by omega)
            have a2 := nPlain_place (l := l) (p := skipN l (skipN l p + 1)) (by omega)
            have a3 := skipN_le (l := l) (p := (nPlain l (skipN l (skipN l p + 1))).p) (by omega)
            have a4 := skipN_le (l := l) (p := skipN l (nPlain l (skipN l (skipN l p + 1))).p + 1) (by omega)
            have a5 := nPlain_place (l := l) (p := skipN l (skipN l (nPlain l (skipN l (skipN l p + 1))).p + 1)) (by omega)
            exact ⟨by omega, by omega, fun _ => h3, by omega⟩
  | @atom p lv n h1 h2 h3 h4 h5 =>
    have := skipN_le hp
    unfold nAtom at he ⊢
    dsimp only at he ⊢
    split at he
    · rename_i h6; exact absurd he h6
    · rename_i h6
      rw [if_neg h6]
      have a1 := nPlain_place (l := l) (p := skipN l p) (by omega)
      dsimp only
      exact ⟨by omega, by omega, fun _ => h5, by omega⟩
  | list h1 h2 h3 h4 h5 ih =>
    have := skipN_le hp
    have := ih he (by omega)
    exact ⟨by omega, by omega, fun _ => this.2.2.1 h3, by omega⟩
  | close h1 h2 =>
    have := skipN_le hp
    dsimp only
    exact ⟨by omega, by omega, fun h => h, Nat.le_refl _⟩
  | fail h1 h2 h3 ih => exact absurd he h3
  | more h1 h2 h3 h4 h5 ih1 ih2 =>
    have := skipN_le hp
    have a1 := ih1 h4 (by omega)
    have a2 := ih2 he (by omega)
    exact ⟨by omega, by omega, fun h => a2.2.2.1 (a1.2.2.1 h), by omega⟩
end Go.Proofs.YtigopfeamjhdpaaDoor

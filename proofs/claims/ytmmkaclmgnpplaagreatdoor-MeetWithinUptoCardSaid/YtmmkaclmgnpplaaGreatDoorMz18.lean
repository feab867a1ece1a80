import Derived.Test.YtmmkaclmgnpplaaGreatDoorMz17
set_option maxRecDepth 100000
set_option maxHeartbeats 64000000
set_option linter.unusedSimpArgs false
set_option linter.unusedVariables false
namespace Go.Proofs.YtmmkaclmgnpplaaGreatDoor
open Go.RowKit
theorem gd (y : Bool) (w : World) : Calls Tryz.prog 128 #[.bool true, .bool y] w fun e w' => e = .returned (.int .i64 (-1)) ∧ w = w' := by
 go_enter Tryz.func128, Tryz.ntmps128
 go_wp2_with fail
 go_ret
 exact ⟨rfl, rfl⟩
theorem gb (w : World) : Calls Tryz.prog 128 #[.bool false, .bool true] w fun e w' => e = .returned (.int .i64 1) ∧ w = w' := by
 go_enter Tryz.func128, Tryz.ntmps128
 go_wp2_with fail
 go_ret
 exact ⟨rfl, rfl⟩
theorem iy (w : World) : Calls Tryz.prog 128 #[.bool false, .bool false] w fun e w' => e = .returned (.int .i64 0) ∧ w = w' := by
 go_enter Tryz.func128, Tryz.ntmps128
 go_wp2_with fail
 go_ret
 exact ⟨rfl, rfl⟩
theorem qO (l : List UInt8) (k : Nat) (h : k < l.length) : strip (l.drop k) = if l.getD k 0 = 0 then strip (l.drop (k + 1)) else l.drop k := by
 rw [List.drop_eq_getElem_cons h]
 have e : l.getD k 0 = l[k] := by simp [List.getD_eq_getElem?_getD, h]
 rw [e, strip]
theorem dJ (a : Option Addr) (n c : Nat) (l : List UInt8) (w : World) (hs : Sl w a n c l) (hn : n ≤ 6000) :
  Calls Tryz.prog 132 #[.slice a n c] w fun e w' => e = .returned (.string ⟨(strip l).toArray⟩) ∧ w = w' := by
 obtain ⟨R, hR⟩ : ∃ R, R = strip l := ⟨_, rfl⟩
 have HR := I5 hR
 have HL := I5 hs.1
 have HS := I5 hs
 have na := hs.2.1
 rw [← hR]
 clear hR hs
 go_enter Tryz.func132, Tryz.ntmps132
 go_wp2_with fail
 go_loop [3] (fun i => ∃ k : Nat, i = .int .i64 k ∧ k ≤ n ∧ Hid (R = strip (l.drop k))) (fun i => n - (intOf i).toNat)
 case atStart => exact ⟨0, rfl, Nat.zero_le _, HR⟩
 case round =>
  obtain ⟨k, rfl, hk, HD⟩ := hrel
  by_cases aJ : k < n
  ·obtain ⟨b, o, rfl, iM, _⟩ := HS.out.some (by omega)
   have c0 := iM k aJ
   have fy : k < l.length := by have := HL.out; omega
   have HT := I5 (qO l k fy)
   obtain ⟨x, hx⟩ : ∃ x, x = l.getD k 0 := ⟨_, rfl⟩
   rw [← hx] at c0 HT
   clear iM hx fy
   by_cases h0 : x = 0
   ·subst h0
    have HE := I5 (show R = strip (l.drop (k + 1)) by rw [HD.out, HT.out]; rfl)
    go_wp2_with fail
    go_round
    case rel => exact ⟨k + 1, by go_num, by omega, HE⟩
    case measure => simp [intOf]; omega
   ·have HE := I5 (show R = l.drop k by rw [HD.out, HT.out, if_neg h0])
    have q : ((x.toNat : Int) == 0) = false := by
     rw [beq_eq_false_iff_ne]; intro h; exact h0 (UInt8.toNat_inj.1 (by simpa using h))
    have q1 := bv (HS.out.drop k hk)
    have fT : ¬ c = k := by omega
    rw [if_neg fT] at q1
    clear h0
    go_wp2_with fail
    go_ret
    exact ⟨by rw [HE.out]; rfl, rfl⟩
  ·obtain rfl : k = n := by omega
   have HE := I5 (show R = [] by rw [HD.out, List.drop_of_length_le (by have := HL.out; omega)]; rfl)
   have HK := I5 (List.drop_of_length_le (l := l) (i := k) (by have := HL.out; omega))
   cases a with
   | none =>
    have EF := HS.out.2.2.2.1 rfl
    have cL : k = 0 := by omega
    subst cL EF
    have q1 : (convert 22 9 (.slice none 0 0)).run Tryz.prog w = .ok (.string ⟨#[]⟩) w :=
     bv (l := []) ⟨rfl, Nat.le_refl _, Nat.zero_le _, fun _ => rfl, .inl rfl⟩
    go_wp2_with fail
    go_ret
    exact ⟨by rw [HE.out]; rfl, rfl⟩
   | some ad =>
    have q1 : ∀ ad' cc, cc ≤ maxLen → (convert 22 9 (.slice (some ad') 0 cc)).run Tryz.prog w = .ok (.string ⟨#[]⟩) w := fun ad' cc hc' =>
     bv (l := []) ⟨rfl, Nat.zero_le _, hc', (fun h => by cases h), .inl rfl⟩
    have hm := HS.out.2.2.1
    have q2 : c - k ≤ maxLen := by omega
    have q3 := fun ad' => q1 ad' (c - k) q2
    by_cases fT : c = k
    ·subst fT
     have q4 := fun ad' => q1 ad' 0 (Nat.zero_le _)
     go_wp2_with fail
     go_ret
     exact ⟨by rw [HE.out]; rfl, rfl⟩
    ·go_wp2_with fail
     go_ret
     exact ⟨by rw [HE.out]; rfl, rfl⟩
theorem mH (l k : List UInt8) : (Op.bytesLess l k = true ∧ l ≠ k ∧ bcmp l k = -1) ∨ (Op.bytesLess l k = false ∧ l ≠ k ∧ bcmp l k = 1) ∨ (l = k ∧ bcmp l k = 0) := by
 unfold bcmp
 cases h : Op.bytesLess l k
 ·cases h' : Op.bytesLess k l
  ·exact .inr (.inr ⟨qC _ _ h h', by simp⟩)
  ·exact .inr (.inl ⟨rfl, (by rintro rfl; rw [h] at h'; cases h'), by simp⟩)
 ·exact .inl ⟨rfl, (by rintro rfl; rw [iQ] at h; cases h), by simp⟩
theorem js (x y : Int) : (x < y ∧ cmpZ x y = -1) ∨ (y < x ∧ cmpZ x y = 1) ∨ (x = y ∧ cmpZ x y = 0) := by
 unfold cmpZ
 rcases Int.lt_trichotomy x y with h | h | h
 ·exact .inl ⟨h, by simp [h]⟩
 ·exact .inr (.inr ⟨h, by simp [h]⟩)
 ·exact .inr (.inl ⟨h, by rw [if_neg (by omega), if_pos h]⟩)
theorem xV (a : Option Addr) (n c : Nat) (l : List UInt8) (b : Option Addr) (m d : Nat) (k : List UInt8) (w : World) (h1 : Sl w a n c l) (h2 : Sl w b m d k) :
  Calls Tryz.prog 111 #[.int .u8 1, .slice a n c, .slice b m d] w (CmpP 1 l k w) := by
 obtain ⟨q1, q2⟩ := ex 1 l k (0, l) (0, k) rfl rfl
 rw [qx] at q2
 unfold CmpP
 rw [q1, q2]
 have v1 := bv h1
 have v2 := bv h2
 clear q1 q2
 rcases mH l k with ⟨x1, x2, x3⟩ | ⟨x1, x2, x3⟩ | ⟨rfl, x3⟩
 ·rw [x3]
  clear x3
  go_enter Tryz.func111, Tryz.ntmps111
  go_wp2_with fail
  refine (gd _ _).mono ?_
  rintro e w1 ⟨rfl, rfl⟩
  go_wp2_with fail
  go_ret2
  exact ⟨rfl, Below.refl _ _⟩
 ·rw [x3]
  have x4 : (l == k) = false := by simpa using x2
  clear x3 x2
  go_enter Tryz.func111, Tryz.ntmps111
  go_wp2_with fail
  refine (gb _).mono ?_
  rintro e w1 ⟨rfl, rfl⟩
  go_wp2_with fail
  go_ret2
  exact ⟨rfl, Below.refl _ _⟩
 ·rw [x3]
  have x1 := iQ l
  clear x3
  go_enter Tryz.func111, Tryz.ntmps111
  go_wp2_with fail
  refine (iy _).mono ?_
  rintro e w1 ⟨rfl, rfl⟩
  go_wp2_with fail
  go_ret2
  exact ⟨rfl, Below.refl _ _⟩
theorem sb (x y x' y' : Nat) (h : Agree x x') (h' : Agree y y') : cmpV x y = cmpV x' y' ∧ cmpOk x y = cmpOk x' y' := by
 unfold cmpV cmpOk
 rcases h with ⟨a, b⟩ | ⟨_, rfl⟩ <;> rcases h' with ⟨c, d⟩ | ⟨_, rfl⟩ <;> simp_all
theorem vX (l k : List UInt8) (x y : Nat) (hl : getO l = some x) (hk : getO k = some y) : cV 2 l k = cmpV x y ∧ okV 2 l k = cmpOk x y := by
 unfold cmpV cmpOk
 cases hx : isNan x
 ·cases hy : isNan y
  ·obtain ⟨q1, q2⟩ := ex 2 l k _ _ (iF l x hl hx) (iF k y hk hy)
   rw [q1, q2, gr, ← nU]; exact ⟨rfl, rfl⟩
  ·obtain ⟨q1, q2⟩ := fR 2 l k (iG k y hk hy)
   rw [q1, q2]; exact ⟨rfl, rfl⟩
 ·obtain ⟨q1, q2⟩ := ey 2 l k (iG l x hl hx)
  rw [q1, q2]; exact ⟨rfl, rfl⟩
theorem xU (a : Option Addr) (n c : Nat) (l : List UInt8) (b : Option Addr) (m d : Nat) (k : List UInt8) (w : World) (h1 : Sl w a n c l) (h2 : Sl w b m d k) (hn : n ≤ 6000) (hm : m ≤ 6000) :
  Calls Tryz.prog 111 #[.int .u8 2, .slice a n c, .slice b m d] w (CmpP 2 l k w) := by
 unfold CmpP
 cases hl : getO l with
 | none =>
  obtain ⟨q1, q2⟩ := ey 2 l k (jK l hl)
  rw [q1, q2]
  have HL := I5 hl
  clear q1 q2 hl
  go_enter Tryz.func111, Tryz.ntmps111
  go_wp2_with fail
  refine (ed _ _ _ _ _ h1 (by omega)).mono ?_
  rintro e w1 ⟨x, rfl, ha, af⟩
  rw [HL.out]
  go_wp2_with fail
  refine (ed _ _ _ _ _ (h2.after af) (by omega)).mono ?_
  rintro e w2 ⟨y, rfl, hc, aK⟩
  clear ha hc
  have bE := af.trans (aK.mono af.size)
  go_wp2_with fail
  go_ret2
  exact ⟨rfl, bE⟩
 | some X => cases hk : getO k with
  | none =>
   obtain ⟨q1, q2⟩ := fR 2 l k (jK k hk)
   rw [q1, q2]
   have HL := I5 hl
   have HK := I5 hk
   clear q1 q2 hl hk
   go_enter Tryz.func111, Tryz.ntmps111
   go_wp2_with fail
   refine (ed _ _ _ _ _ h1 (by omega)).mono ?_
   rintro e w1 ⟨x, rfl, ha, af⟩
   rw [HL.out]
   go_wp2_with fail
   refine (ed _ _ _ _ _ (h2.after af) (by omega)).mono ?_
   rintro e w2 ⟨y, rfl, hc, aK⟩
   rw [HK.out]
   clear ha hc
   have bE := af.trans (aK.mono af.size)
   go_wp2_with fail
   go_ret2
   exact ⟨rfl, bE⟩
  | some Y =>
   obtain ⟨q1, q2⟩ := vX l k X Y hl hk
   rw [q1, q2]
   have HL := I5 hl
   have HK := I5 hk
   clear q1 q2 hl hk
   obtain ⟨C, hC⟩ : ∃ C, C = cmpV X Y := ⟨_, rfl⟩
   obtain ⟨O, hO⟩ : ∃ O, O = cmpOk X Y := ⟨_, rfl⟩
   rw [← hC, ← hO]
   have HC := I5 hC
   have HO := I5 hO
   clear hC hO
   go_enter Tryz.func111, Tryz.ntmps111
   go_wp2_with fail
   refine (ed _ _ _ _ _ h1 (by omega)).mono ?_
   rintro e w1 ⟨x, rfl, ha, af⟩
   rw [HL.out] at ha ⊢
   go_wp2_with fail
   refine (ed _ _ _ _ _ (h2.after af) (by omega)).mono ?_
   rintro e w2 ⟨y, rfl, hc, aK⟩
   rw [HK.out] at hc ⊢
   obtain ⟨p1, p2⟩ := sb _ _ _ _ ha hc
   simp only [Option.getD_some] at p1 p2
   rw [← HC.out] at p1
   rw [← HO.out] at p2
   clear ha hc
   have bE := af.trans (aK.mono af.size)
   go_wp2_with fail
   refine (rh _ _ _).mono ?_
   rintro e w3 ⟨rfl, rfl⟩
   rw [p1, p2]
   go_wp2_with fail
   go_ret2
   exact ⟨rfl, bE⟩
theorem xT (a : Option Addr) (n c : Nat) (l : List UInt8) (b : Option Addr) (m d : Nat) (k : List UInt8) (w : World) (h1 : Sl w a n c l) (h2 : Sl w b m d k) :
  Calls Tryz.prog 111 #[.int .u8 3, .slice a n c, .slice b m d] w (CmpP 3 l k w) := by
 have ja := h1.len_le
 have jx := h2.len_le
 unfold CmpP
 obtain ⟨X, hX⟩ : ∃ X, X = clockV l := ⟨_, rfl⟩
 obtain ⟨Y, hY⟩ : ∃ Y, Y = clockV k := ⟨_, rfl⟩
 have HX := I5 hX
 have HY := I5 hY
 cases hl : clockOk l with
 | false =>
  obtain ⟨q1, q2⟩ := ey 3 l k (jJ l hl)
  rw [q1, q2]
  have HL := I5 hl
  clear q1 q2 hl hX hY
  go_enter Tryz.func111, Tryz.ntmps111
  go_wp2_with fail
  refine (bJ _ _ _ _ _ h1 ja).mono ?_
  rintro e w1 ⟨rfl, af⟩
  rw [HL.out, ← HX.out]
  go_wp2_with fail
  refine (bJ _ _ _ _ _ (h2.after af) jx).mono ?_
  rintro e w2 ⟨rfl, aK⟩
  rw [← HY.out]
  have bE := af.trans (aK.mono af.size)
  go_wp2_with fail
  go_ret2
  exact ⟨rfl, bE⟩
 | true => cases hk : clockOk k with
  | false =>
   obtain ⟨q1, q2⟩ := fR 3 l k (jJ k hk)
   rw [q1, q2]
   have HL := I5 hl
   have HK := I5 hk
   clear q1 q2 hl hk hX hY
   go_enter Tryz.func111, Tryz.ntmps111
   go_wp2_with fail
   refine (bJ _ _ _ _ _ h1 ja).mono ?_
   rintro e w1 ⟨rfl, af⟩
   rw [HL.out, ← HX.out]
   go_wp2_with fail
   refine (bJ _ _ _ _ _ (h2.after af) jx).mono ?_
   rintro e w2 ⟨rfl, aK⟩
   rw [HK.out, ← HY.out]
   have bE := af.trans (aK.mono af.size)
   go_wp2_with fail
   go_ret2
   exact ⟨rfl, bE⟩
  | true =>
   obtain ⟨q1, q2⟩ := ex 3 l k _ _ (iE l hl) (iE k hk)
   rw [q1, q2, gr, ← hX, ← hY]
   have HL := I5 hl
   have HK := I5 hk
   clear q1 q2 hl hk hX hY
   rcases js X Y with ⟨c1, c2⟩ | ⟨c1, c2⟩ | ⟨rfl, c2⟩
   ·rw [c2]
    clear c2
    go_enter Tryz.func111, Tryz.ntmps111
    go_wp2_with fail
    refine (bJ _ _ _ _ _ h1 ja).mono ?_
    rintro e w1 ⟨rfl, af⟩
    rw [HL.out, ← HX.out]
    go_wp2_with fail
    refine (bJ _ _ _ _ _ (h2.after af) jx).mono ?_
    rintro e w2 ⟨rfl, aK⟩
    rw [HK.out, ← HY.out]
    have bE := af.trans (aK.mono af.size)
    go_wp2_with fail
    refine (gd _ _).mono ?_
    rintro e w3 ⟨rfl, rfl⟩
    go_wp2_with fail
    go_ret2
    exact ⟨rfl, bE⟩
   ·rw [c2]
    clear c2
    have c3 : Y ≤ X := by omega
    go_enter Tryz.func111, Tryz.ntmps111
    go_wp2_with fail
    refine (bJ _ _ _ _ _ h1 ja).mono ?_
    rintro e w1 ⟨rfl, af⟩
    rw [HL.out, ← HX.out]
    go_wp2_with fail
    refine (bJ _ _ _ _ _ (h2.after af) jx).mono ?_
    rintro e w2 ⟨rfl, aK⟩
    rw [HK.out, ← HY.out]
    have bE := af.trans (aK.mono af.size)
    go_wp2_with fail
    rw [decide_eq_false (show ¬ X < Y by omega)]
    refine (gb _).mono ?_
    rintro e w3 ⟨rfl, rfl⟩
    go_wp2_with fail
    go_ret2
    exact ⟨rfl, bE⟩
   ·rw [c2]
    clear c2
    go_enter Tryz.func111, Tryz.ntmps111
    go_wp2_with fail
    refine (bJ _ _ _ _ _ h1 ja).mono ?_
    rintro e w1 ⟨rfl, af⟩
    rw [HL.out, ← HX.out]
    go_wp2_with fail
    refine (bJ _ _ _ _ _ (h2.after af) jx).mono ?_
    rintro e w2 ⟨rfl, aK⟩
    rw [HK.out, ← HY.out]
    have bE := af.trans (aK.mono af.size)
    go_wp2_with fail
    refine (iy _).mono ?_
    rintro e w3 ⟨rfl, rfl⟩
    go_wp2_with fail
    go_ret2
    exact ⟨rfl, bE⟩
theorem xR (a : Option Addr) (n c : Nat) (l : List UInt8) (b : Option Addr) (m d : Nat) (k : List UInt8) (w : World) (h1 : Sl w a n c l) (h2 : Sl w b m d k) :
  Calls Tryz.prog 111 #[.int .u8 5, .slice a n c, .slice b m d] w (CmpP 5 l k w) := by
 have ja := h1.len_le
 have jx := h2.len_le
 unfold CmpP
 obtain ⟨X, hX⟩ : ∃ X, X = dateV l := ⟨_, rfl⟩
 obtain ⟨Y, hY⟩ : ∃ Y, Y = dateV k := ⟨_, rfl⟩
 have HX := I5 hX
 have HY := I5 hY
 cases hl : dateOk l with
 | false =>
  obtain ⟨q1, q2⟩ := ey 5 l k (jI l hl)
  rw [q1, q2]
  have HL := I5 hl
  clear q1 q2 hl hX hY
  go_enter Tryz.func111, Tryz.ntmps111
  go_wp2_with fail
  refine (cg _ _ _ _ _ h1 ja).mono ?_
  rintro e w1 ⟨rfl, af⟩
  rw [HL.out, ← HX.out]
  go_wp2_with fail
  refine (cg _ _ _ _ _ (h2.after af) jx).mono ?_
  rintro e w2 ⟨rfl, aK⟩
  rw [← HY.out]
  have bE := af.trans (aK.mono af.size)
  go_wp2_with fail
  go_ret2
  exact ⟨rfl, bE⟩
 | true => cases hk : dateOk k with
  | false =>
   obtain ⟨q1, q2⟩ := fR 5 l k (jI k hk)
   rw [q1, q2]
   have HL := I5 hl
   have HK := I5 hk
   clear q1 q2 hl hk hX hY
   go_enter Tryz.func111, Tryz.ntmps111
   go_wp2_with fail
   refine (cg _ _ _ _ _ h1 ja).mono ?_
   rintro e w1 ⟨rfl, af⟩
   rw [HL.out, ← HX.out]
   go_wp2_with fail
   refine (cg _ _ _ _ _ (h2.after af) jx).mono ?_
   rintro e w2 ⟨rfl, aK⟩
   rw [HK.out, ← HY.out]
   have bE := af.trans (aK.mono af.size)
   go_wp2_with fail
   go_ret2
   exact ⟨rfl, bE⟩
  | true =>
   obtain ⟨q1, q2⟩ := ex 5 l k _ _ (iD l hl) (iD k hk)
   rw [q1, q2, gr, ← hX, ← hY]
   have HL := I5 hl
   have HK := I5 hk
   clear q1 q2 hl hk hX hY
   rcases js X Y with ⟨c1, c2⟩ | ⟨c1, c2⟩ | ⟨rfl, c2⟩
   ·rw [c2]
    clear c2
    go_enter Tryz.func111, Tryz.ntmps111
    go_wp2_with fail
    refine (cg _ _ _ _ _ h1 ja).mono ?_
    rintro e w1 ⟨rfl, af⟩
    rw [HL.out, ← HX.out]
    go_wp2_with fail
    refine (cg _ _ _ _ _ (h2.after af) jx).mono ?_
    rintro e w2 ⟨rfl, aK⟩
    rw [HK.out, ← HY.out]
    have bE := af.trans (aK.mono af.size)
    go_wp2_with fail
    refine (gd _ _).mono ?_
    rintro e w3 ⟨rfl, rfl⟩
    go_wp2_with fail
    go_ret2
    exact ⟨rfl, bE⟩
   ·rw [c2]
    clear c2
    have c3 : Y ≤ X := by omega
    go_enter Tryz.func111, Tryz.ntmps111
    go_wp2_with fail
    refine (cg _ _ _ _ _ h1 ja).mono ?_
    rintro e w1 ⟨rfl, af⟩
    rw [HL.out, ← HX.out]
    go_wp2_with fail
    refine (cg _ _ _ _ _ (h2.after af) jx).mono ?_
    rintro e w2 ⟨rfl, aK⟩
    rw [HK.out, ← HY.out]
    have bE := af.trans (aK.mono af.size)
    go_wp2_with fail
    rw [decide_eq_false (show ¬ X < Y by omega)]
    refine (gb _).mono ?_
    rintro e w3 ⟨rfl, rfl⟩
    go_wp2_with fail
    go_ret2
    exact ⟨rfl, bE⟩
   ·rw [c2]
    clear c2
    go_enter Tryz.func111, Tryz.ntmps111
    go_wp2_with fail
    refine (cg _ _ _ _ _ h1 ja).mono ?_
    rintro e w1 ⟨rfl, af⟩
    rw [HL.out, ← HX.out]
    go_wp2_with fail
    refine (cg _ _ _ _ _ (h2.after af) jx).mono ?_
    rintro e w2 ⟨rfl, aK⟩
    rw [HK.out, ← HY.out]
    have bE := af.trans (aK.mono af.size)
    go_wp2_with fail
    refine (iy _).mono ?_
    rintro e w3 ⟨rfl, rfl⟩
    go_wp2_with fail
    go_ret2
    exact ⟨rfl, bE⟩
theorem xS (a : Option Addr) (n c : Nat) (l : List UInt8) (b : Option Addr) (m d : Nat) (k : List UInt8) (w : World) (h1 : Sl w a n c l) (h2 : Sl w b m d k) (hn : n ≤ 6000) (hm : m ≤ 6000) :
  Calls Tryz.prog 111 #[.int .u8 4, .slice a n c, .slice b m d] w (CmpP 4 l k w) := by
 obtain ⟨q1, q2⟩ := ex 4 l k (((strip l).length : Nat), strip l) (((strip k).length : Nat), strip k) rfl rfl
 rw [qy] at q2
 unfold CmpP
 rw [q1, q2]
 clear q1 q2
 obtain ⟨s, hs⟩ : ∃ s, s = strip l := ⟨_, rfl⟩
 obtain ⟨t, ht⟩ : ∃ t, t = strip k := ⟨_, rfl⟩
 rw [← hs, ← ht]
 have HS := I5 hs
 have HT := I5 ht
 clear hs ht
 have z1 : (⟨s.toArray⟩ : ByteArray).size = s.length := by simp [ByteArray.size]
 have z2 : (⟨t.toArray⟩ : ByteArray).size = t.length := by simp [ByteArray.size]
 rcases js s.length t.length with ⟨c1, c2⟩ | ⟨c1, c2⟩ | ⟨c1, c2⟩
 ·rw [c2, if_neg (by decide)]
  have gj : ((s.length : Int) != (t.length : Int)) = true := by rw [bne_iff_ne]; omega
  clear c2
  go_enter Tryz.func111, Tryz.ntmps111
  go_wp2_with fail
  refine (dJ _ _ _ _ _ h1 hn).mono ?_
  rintro e w1 ⟨rfl, rfl⟩
  rw [← HS.out]
  go_wp2_with fail
  refine (dJ _ _ _ _ _ h2 hm).mono ?_
  rintro e w1 ⟨rfl, rfl⟩
  rw [← HT.out]
  go_wp2_with fail
  refine (gd _ _).mono ?_
  rintro e w1 ⟨rfl, rfl⟩
  go_wp2_with fail
  go_ret2
  exact ⟨rfl, Below.refl _ _⟩
 ·rw [c2, if_neg (by decide)]
  have gj : ((s.length : Int) != (t.length : Int)) = true := by rw [bne_iff_ne]; omega
  have c3 : (t.length : Int) ≤ (s.length : Int) := by omega
  clear c2
  go_enter Tryz.func111, Tryz.ntmps111
  go_wp2_with fail
  refine (dJ _ _ _ _ _ h1 hn).mono ?_
  rintro e w1 ⟨rfl, rfl⟩
  rw [← HS.out]
  go_wp2_with fail
  refine (dJ _ _ _ _ _ h2 hm).mono ?_
  rintro e w1 ⟨rfl, rfl⟩
  rw [← HT.out]
  go_wp2_with fail
  rw [decide_eq_false (show ¬ s.length < t.length by omega)]
  refine (gb _).mono ?_
  rintro e w1 ⟨rfl, rfl⟩
  go_wp2_with fail
  go_ret2
  exact ⟨rfl, Below.refl _ _⟩
 ·rw [c2, if_pos rfl]
  have gj : ((s.length : Int) != (t.length : Int)) = false := by rw [bne_eq_false_iff_eq]; exact c1
  clear c2
  rcases mH s t with ⟨x1, x2, x3⟩ | ⟨x1, x2, x3⟩ | ⟨rfl, x3⟩
  ·rw [x3]
   clear x3
   go_enter Tryz.func111, Tryz.ntmps111
   go_wp2_with fail
   refine (dJ _ _ _ _ _ h1 hn).mono ?_
   rintro e w1 ⟨rfl, rfl⟩
   rw [← HS.out]
   go_wp2_with fail
   refine (dJ _ _ _ _ _ h2 hm).mono ?_
   rintro e w1 ⟨rfl, rfl⟩
   rw [← HT.out]
   go_wp2_with fail
   refine (gd _ _).mono ?_
   rintro e w1 ⟨rfl, rfl⟩
   go_wp2_with fail
   go_ret2
   exact ⟨rfl, Below.refl _ _⟩
  ·rw [x3]
   have x4 : (s == t) = false := by simpa using x2
   clear x3 x2
   go_enter Tryz.func111, Tryz.ntmps111
   go_wp2_with fail
   refine (dJ _ _ _ _ _ h1 hn).mono ?_
   rintro e w1 ⟨rfl, rfl⟩
   rw [← HS.out]
   go_wp2_with fail
   refine (dJ _ _ _ _ _ h2 hm).mono ?_
   rintro e w1 ⟨rfl, rfl⟩
   rw [← HT.out]
   go_wp2_with fail
   refine (gb _).mono ?_
   rintro e w1 ⟨rfl, rfl⟩
   go_wp2_with fail
   go_ret2
   exact ⟨rfl, Below.refl _ _⟩
  ·rw [x3]
   have x1 := iQ s
   clear x3
   go_enter Tryz.func111, Tryz.ntmps111
   go_wp2_with fail
   refine (dJ _ _ _ _ _ h1 hn).mono ?_
   rintro e w1 ⟨rfl, rfl⟩
   rw [← HS.out]
   go_wp2_with fail
   refine (dJ _ _ _ _ _ h2 hm).mono ?_
   rintro e w1 ⟨rfl, rfl⟩
   rw [← HT.out]
   go_wp2_with fail
   refine (iy _).mono ?_
   rintro e w1 ⟨rfl, rfl⟩
   go_wp2_with fail
   go_ret2
   exact ⟨rfl, Below.refl _ _⟩
theorem aL (o : Nat) (a : Option Addr) (n c : Nat) (l : List UInt8) (b : Option Addr) (m d : Nat) (k : List UInt8) (w : World) (h1 : Sl w a n c l) (h2 : Sl w b m d k) (hn : n ≤ 6000) (hm : m ≤ 6000) :
  Calls Tryz.prog 111 #[.int .u8 o, .slice a n c, .slice b m d] w (CmpP o l k w) := by
 cases ho : isO o
 ·obtain ⟨q1, q2⟩ := ey o l k (sE o l ho)
  have h' : o = 0 ∨ 6 ≤ o := by unfold isO at ho; simp at ho; omega
  have e1 : ((o : Int) == 1) = false := by rw [beq_eq_false_iff_ne]; omega
  have e2 : ((o : Int) == 2) = false := by rw [beq_eq_false_iff_ne]; omega
  have e3 : ((o : Int) == 3) = false := by rw [beq_eq_false_iff_ne]; omega
  have e4 : ((o : Int) == 4) = false := by rw [beq_eq_false_iff_ne]; omega
  have e5 : ((o : Int) == 5) = false := by rw [beq_eq_false_iff_ne]; omega
  unfold CmpP
  rw [q1, q2]
  clear q1 q2 ho h'
  go_enter Tryz.func111, Tryz.ntmps111
  go_wp2_with fail
  go_ret2
  exact ⟨rfl, Below.refl _ _⟩
 ·have h' : o = 1 ∨ o = 2 ∨ o = 3 ∨ o = 4 ∨ o = 5 := by unfold isO at ho; simp at ho; omega
  rcases h' with rfl | rfl | rfl | rfl | rfl
  ·exact xV _ _ _ _ _ _ _ _ _ h1 h2
  ·exact xU _ _ _ _ _ _ _ _ _ h1 h2 hn hm
  ·exact xT _ _ _ _ _ _ _ _ _ h1 h2
  ·exact xS _ _ _ _ _ _ _ _ _ h1 h2 hn hm
  ·exact xR _ _ _ _ _ _ _ _ _ h1 h2
theorem aM (o : Nat) (a : Option Addr) (n c : Nat) (l : List UInt8) (w : World) (h1 : Sl w a n c l) (hn : n ≤ 6000) :
  Calls Tryz.prog 84 #[.int .u8 o, .slice a n c] w fun e w' => e = .returned (.bool (isV o l)) ∧ Below w.heap.size w w' := by
 have q : okV o l l = isV o l := by unfold okV; simp
 rw [← q]
 clear q
 go_enter Tryz.func84, Tryz.ntmps84
 go_wp2_with fail
 refine (aL _ _ _ _ _ _ _ _ _ _ h1 h1 hn hn).mono ?_
 rintro e w1 ⟨rfl, hb⟩
 go_wp2_with fail
 go_ret
 exact ⟨rfl, hb⟩
end Go.Proofs.YtmmkaclmgnpplaaGreatDoor

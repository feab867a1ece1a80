import Derived.Test.YtmmkaclmgnpplaaGreatDoorMz15
set_option maxRecDepth 100000
set_option maxHeartbeats 64000000
set_option linter.unusedSimpArgs false
set_option linter.unusedVariables false
namespace Go.Proofs.YtmmkaclmgnpplaaGreatDoor
open Go.RowKit
theorem nR (f : Bool) (n sc c st : Nat) (l : List UInt8) (i : Nat) (h : i < l.length) (x : UInt8) (hx : x = l.getD i 0) : docR f n sc c st (l.drop i) =
  if x = 46 then (if 0 < st ∨ f = true ∨ l.length - (i + 1) = 0 then none else docR false n sc c 1 (l.drop (i + 1)))
  else if x.toNat < 48 ∨ 57 < x.toNat ∨ c = 15 then none
  else docR false (10 * n + (x.toNat - 48)) (sc + st) (c + 1) st (l.drop (i + 1)) := by
 rw [List.drop_eq_getElem_cons h]
 have e : l[i] = x := by rw [hx]; simp [List.getD_eq_getElem?_getD, h]
 rw [e, docR, List.length_drop]
theorem dK {l : List UInt8} (h : docR true 0 0 0 0 l = none) : numP l = none := by
 rw [← j4]; unfold docN; rw [h]
def RefP (o : Option Nat) (w : World) (e : Ending) (w' : World) : Prop := ∃ r, e = .returned (.tuple #[.float .f64 r, .bool o.isSome]) ∧ Agree r (o.getD 0) ∧ Below w.heap.size w w'
theorem yt : Ieee.double.div 4607182418800017408 0 = some 9218868437227405312 := by decide
theorem yp : Ieee.double.div 13830554455654793216 0 = some 18442240474082181120 := by decide
theorem fD (a : Option Addr) (n c : Nat) (l : List UInt8) (w : World) (hs : Sl w a n c l) (h : l = sInf ∨ l = sNinf ∨ l = sNan) :
  Calls Tryz.prog 129 #[.slice a n c] w (RefP (getO l) w) := by
 have q1 := bv hs
 have i1 : ∀ W : World, (binOp .quo 128 (.float .f64 4607182418800017408) (.float .f64 0)).run Tryz.prog W = .ok (.float .f64 9218868437227405312) W := fun W => run_float_arith W .quo 128 .f64 _ _ _ yt
 have i2 : ∀ W : World, (binOp .quo 128 (.float .f64 13830554455654793216) (.float .f64 0)).run Tryz.prog W = .ok (.float .f64 18442240474082181120) W := fun W => run_float_arith W .quo 128 .f64 _ _ _ yp
 obtain ⟨v, hv, i3⟩ := xO w
 rcases h with rfl | rfl | rfl
 ·go_enter Tryz.func129, Tryz.ntmps129
  go_wp2_with fail
  refine (jA _).mono ?_
  rintro e w1 ⟨rfl, rfl⟩
  go_wp2_with fail
  go_ret2
  exact ⟨_, rfl, .inr ⟨by decide, rfl⟩, Below.refl _ _⟩
 ·go_enter Tryz.func129, Tryz.ntmps129
  go_wp2_with fail
  refine (jA _).mono ?_
  rintro e w1 ⟨rfl, rfl⟩
  go_wp2_with fail
  go_ret2
  exact ⟨_, rfl, .inr ⟨by decide, rfl⟩, Below.refl _ _⟩
 ·go_enter Tryz.func129, Tryz.ntmps129
  go_wp2_with fail
  refine (jA _).mono ?_
  rintro e w1 ⟨rfl, rfl⟩
  go_wp2_with fail
  refine (jA _).mono ?_
  rintro e w1 ⟨rfl, rfl⟩
  go_wp2_with fail
  go_ret2
  exact ⟨_, rfl, .inl ⟨hv, by decide⟩, (Below.refl _ _).trans ⟨rfl, rfl, rfl, Nat.le_refl _, fun _ _ => rfl⟩⟩
theorem rf (a : Option Addr) (n c : Nat) (l : List UInt8) (w : World) (hs : Sl w a n c l) (hn : n ≤ 6000) (k1 : l ≠ sInf) (k2 : l ≠ sNinf) (k3 : l ≠ sNan) (hd : dash l = true) :
  Calls Tryz.prog 129 #[.slice a n c] w (RefP (getO l) w) := by
 have q1 := bv hs
 have HG := I5 (show getO l = (numP (undash l)).map fun p => signed true (quoB p.1 p.2) by unfold getO; rw [if_neg k1, if_neg k2, if_neg k3, hd])
 have j1 : (l == [105, 110, 102]) = false := by simpa [sInf] using k1
 have j2 : (l == [45, 105, 110, 102]) = false := by simpa [sNinf] using k2
 have j3 : (l == [110, 97, 110]) = false := by simpa [sNan] using k3
 have HS := I5 hs
 have HL := I5 hs.1
 have HU := I5 (show undash l = l.drop 1 by unfold undash; rw [hd]; rfl)
 obtain ⟨R, hR⟩ : ∃ R, R = docR true 0 0 0 0 (undash l) := ⟨_, rfl⟩
 have HR := I5 hR
 have ig : 1 ≤ n := by
  rw [HL.out]
  cases l with
  | nil => cases hd
  | cons x t => simp
 have AN : l.getD 0 0 = 45 := by
  cases l with
  | nil => cases hd
  | cons x t => simpa [dash] using hd
 obtain ⟨b0, o0, EL, wH, _⟩ := hs.some (by omega)
 subst EL
 have c00 : w.cell? ⟨b0, o0, none⟩ = some (.int .u8 45) := by have := wH 0 (by omega); rw [AN] at this; exact this
 have hn1' : (0 : Int) < n := by omega
 clear hs hd hR k1 k2 k3 wH AN
 go_enter Tryz.func129, Tryz.ntmps129
 go_wp2_with fail
 clear j1 j2 j3 q1
 go_loop [6, 7, 8, 9, 10] (fun n' sc' ct' st' i' => ∃ m sc ct st i : Nat, 1 ≤ i ∧ i ≤ n ∧ st ≤ 1 ∧ sc ≤ ct ∧ ct ≤ 15 ∧ n' = .int .i64 m ∧ sc' = .int .i64 sc ∧ ct' = .int .i64 ct ∧ st' = .int .i64 st ∧ i' = .int .i64 i ∧ Hid (m < 10 ^ ct) ∧ Hid (R = docR (decide (i = 1)) m sc ct st (l.drop i))) (fun _ _ _ _ i' => n - (intOf i').toNat)
 case atStart => exact ⟨0, 0, 0, 0, 1, Nat.le_refl _, ig, by omega, by omega, by omega, rfl, rfl, rfl, rfl, rfl, I5 (by decide), I5 (by rw [HR.out, HU.out]; rfl)⟩
 case round =>
  obtain ⟨m, sc, ct, st, i, Hm, hi, gw, By, AO, rfl, rfl, rfl, rfl, rfl, HM, HD⟩ := hrel
  by_cases aJ : i < n
  ·obtain ⟨b, o, e', iM, _⟩ := HS.out.some (by omega)
   obtain ⟨rfl, rfl⟩ : b0 = b ∧ o0 = o := by simpa using e'
   clear e'
   have c0 := iM i aJ
   obtain ⟨x, hx⟩ : ∃ x, x = l.getD i 0 := ⟨_, rfl⟩
   have Cu : i < l.length := by have := HL.out; omega
   have HT := I5 (nR (decide (i = 1)) m sc ct st l i Cu x hx)
   rw [← hx] at c0
   have uu : m < 1000000000000000 := Nat.lt_of_lt_of_le HM.out (Nat.pow_le_pow_right (n := 10) (by omega) AO)
   have hx255 := x.toNat_lt
   clear iM hx Cu
   by_cases hx46 : x = 46
   ·have t1 : ((x.toNat : Int) == 46) = true := by rw [hx46]; rfl
    have HX := I5 hx46
    have H7 := I5 (show x.toNat = 46 by rw [hx46]; rfl)
    clear hx46
    by_cases h1 : (0 : Int) < st
    ·have HN := I5 (show getO l = none by rw [HG.out, dK (show docR true 0 0 0 0 (undash l) = none by rw [← HR.out, HD.out, HT.out, if_pos HX.out, if_pos (.inl (by omega))])]; rfl)
     go_wp2_with fail
     go_ret2
     exact ⟨0, by rw [HN.out]; rfl, .inr ⟨by decide, by rw [HN.out]; rfl⟩, Below.refl _ _⟩
    ·have h1' : (st : Int) ≤ 0 := by omega
     have h1n := I5 (show ¬ 0 < st by omega)
     clear h1
     by_cases h2 : i = 1
     ·have t2 : ((i : Int) == 1) = true := by rw [h2]; rfl
      have HN := I5 (show getO l = none by rw [HG.out, dK (show docR true 0 0 0 0 (undash l) = none by rw [← HR.out, HD.out, HT.out, if_pos HX.out, if_pos (.inr (.inl (by simp [h2])))])]; rfl)
      have H2 := I5 h2
      clear h2
      go_wp2_with fail
      go_ret2
      exact ⟨0, by rw [HN.out]; rfl, .inr ⟨by decide, by rw [HN.out]; rfl⟩, Below.refl _ _⟩
     ·have t2 : ((i : Int) == 1) = false := by simp; omega
      have H2 := I5 h2
      clear h2
      by_cases h3 : i = n - 1
      ·have t3 : ((i : Int) == (n : Int) - 1) = true := by simp; omega
       have HN := I5 (show getO l = none by rw [HG.out, dK (show docR true 0 0 0 0 (undash l) = none by rw [← HR.out, HD.out, HT.out, if_pos HX.out, if_pos (.inr (.inr (by have := HL.out; omega)))])]; rfl)
       have H3 := I5 h3
       clear h3
       go_wp2_with fail
       go_ret2
       exact ⟨0, by rw [HN.out]; rfl, .inr ⟨by decide, by rw [HN.out]; rfl⟩, Below.refl _ _⟩
      ·have t3 : ((i : Int) == (n : Int) - 1) = false := by simp; omega
       have HE := I5 (show R = docR (decide (i + 1 = 1)) m sc ct 1 (l.drop (i + 1)) by
        rw [HD.out, HT.out, if_pos HX.out, if_neg (by have := HL.out; have := h1n.out; have := H2.out; simp; omega), decide_eq_false (by omega)])
       have H3 := I5 h3
       clear h3
       go_wp2_with fail
       go_round
       case rel => exact ⟨m, sc, ct, 1, i + 1, by omega, by omega, by omega, By, AO, rfl, rfl, rfl, rfl, by go_num, HM, HE⟩
       case measure => simp [intOf]; omega
   ·have t1 : ((x.toNat : Int) == 46) = false := by
     have : x.toNat ≠ 46 := fun e => hx46 (UInt8.toNat_inj.1 e)
     simp; omega
    have HX := I5 hx46
    clear hx46
    by_cases h1 : (x.toNat : Int) < 48
    ·have HN := I5 (show getO l = none by rw [HG.out, dK (show docR true 0 0 0 0 (undash l) = none by rw [← HR.out, HD.out, HT.out, if_neg HX.out, if_pos (.inl (by omega))])]; rfl)
     go_wp2_with fail
     go_ret2
     exact ⟨0, by rw [HN.out]; rfl, .inr ⟨by decide, by rw [HN.out]; rfl⟩, Below.refl _ _⟩
    ·have h1' : (48 : Int) ≤ x.toNat := by omega
     clear h1
     by_cases h2 : (57 : Int) < x.toNat
     ·have HN := I5 (show getO l = none by rw [HG.out, dK (show docR true 0 0 0 0 (undash l) = none by rw [← HR.out, HD.out, HT.out, if_neg HX.out, if_pos (.inr (.inl (by omega)))])]; rfl)
      go_wp2_with fail
      go_ret2
      exact ⟨0, by rw [HN.out]; rfl, .inr ⟨by decide, by rw [HN.out]; rfl⟩, Below.refl _ _⟩
     ·have h2' : (x.toNat : Int) ≤ 57 := by omega
      clear h2
      by_cases h3 : ct = 15
      ·have t3 : ((ct : Int) == 15) = true := by rw [h3]; rfl
       have HN := I5 (show getO l = none by rw [HG.out, dK (show docR true 0 0 0 0 (undash l) = none by rw [← HR.out, HD.out, HT.out, if_neg HX.out, if_pos (.inr (.inr h3))])]; rfl)
       have H3 := I5 h3
       clear h3
       go_wp2_with fail
       go_ret2
       exact ⟨0, by rw [HN.out]; rfl, .inr ⟨by decide, by rw [HN.out]; rfl⟩, Below.refl _ _⟩
      ·have t3 : ((ct : Int) == 15) = false := by simp; omega
       have HE := I5 (show R = docR (decide (i + 1 = 1)) (10 * m + (x.toNat - 48)) (sc + st) (ct + 1) st (l.drop (i + 1)) by
        rw [HD.out, HT.out, if_neg HX.out, if_neg (by omega), decide_eq_false (by omega)])
       have HP := I5 (show 10 * m + (x.toNat - 48) < 10 ^ (ct + 1) by rw [Nat.pow_succ]; have := HM.out; omega)
       have hct' : ct + 1 ≤ 15 := by omega
       have H3 := I5 h3
       clear h3
       go_wp2_with fail
       go_round
       case rel => exact ⟨10 * m + (x.toNat - 48), sc + st, ct + 1, st, i + 1, by omega, by omega, gw, by omega, hct', by go_num, by go_num, by go_num, rfl, by go_num, HP, HE⟩
       case measure => simp [intOf]; omega
  ·obtain rfl : i = n := by omega
   have HE := I5 (show docR true 0 0 0 0 (undash l) = some (m, sc, ct) by rw [← HR.out, HD.out, List.drop_of_length_le (by have := HL.out; omega)]; rfl)
   by_cases h0 : ct = 0
   ·have t0 : ((ct : Int) == 0) = true := by rw [h0]; rfl
    have HN := I5 (show getO l = none by rw [HG.out, show numP (undash l) = none by rw [← j4]; unfold docN; rw [HE.out]; exact if_pos h0]; rfl)
    have H0 := I5 h0
    clear h0
    go_wp2_with fail
    go_ret2
    exact ⟨0, by rw [HN.out]; rfl, .inr ⟨by decide, by rw [HN.out]; rfl⟩, Below.refl _ _⟩
   ·have t0 : ((ct : Int) == 0) = false := by simp; omega
    have hN : numP (undash l) = some (m, sc) := by rw [← j4]; unfold docN; rw [HE.out]; exact if_neg h0
    have hm15 : m < 10 ^ 15 := Nat.lt_of_lt_of_le HM.out (Nat.pow_le_pow_right (by omega) AO)
    obtain ⟨nJ, iW⟩ := ov m sc (Nat.lt_trans hm15 (by decide)) (by omega)
    have sr := I5 nJ
    have vx := I5 iW
    obtain ⟨Q, hQ⟩ : ∃ Q, Q = quoB m sc := ⟨_, rfl⟩
    rw [← hQ] at sr vx
    have HV := I5 (show getO l = some (signed true Q) by rw [HG.out, hN, hQ]; rfl)
    have H0 := I5 h0
    clear h0 hN nJ iW hQ hm15
    go_wp2_with fail
    go_loop [12, 13] (fun t' j' => ∃ t j : Nat, j ≤ sc ∧ t' = .int .i64 t ∧ j' = .int .i64 j ∧ Hid (t = 10 ^ j)) (fun _ j' => sc - (intOf j').toNat)
    case atStart => exact ⟨1, 0, Nat.zero_le _, rfl, rfl, I5 rfl⟩
    case round =>
     obtain ⟨t, j, hj, rfl, rfl, HT⟩ := hrel
     by_cases aJ : j < sc
     ·have ht : t ≤ 1000000000000000 := by rw [HT.out]; exact Nat.pow_le_pow_right (n := 10) (by omega) (show j ≤ 15 by omega)
      have Ff := I5 (show 10 * t = 10 ^ (j + 1) by rw [HT.out, Nat.pow_succ]; omega)
      go_wp2_with fail
      go_round
      case rel => exact ⟨10 * t, j + 1, by omega, by go_num, by go_num, Ff⟩
      case measure => simp [intOf]; omega
     ·obtain rfl : j = sc := by omega
      have hq : ∀ W : World, (binOp .quo 128 (.float .f64 (floatOfInt .f64 (m : Int))) (.float .f64 (floatOfInt .f64 (t : Int)))).run Tryz.prog W = .ok (.float .f64 Q) W := fun W => run_float_arith W .quo 128 .f64 _ _ _ (by rw [HT.out]; exact sr.out)
      obtain ⟨Q2, ET⟩ : ∃ Q2, Q2 = Q + 2 ^ 63 := ⟨_, rfl⟩
      have Hf : Op.unary .neg (.float .f64 Q) = pure (.float .f64 Q2) := by rw [ET, ← x5 _ vx.out]; rfl
      have GL := I5 ET
      clear ET
      go_wp2_with fail
      go_ret2
      exact ⟨_, by rw [HV.out]; rfl, .inr ⟨by rw [GL.out]; exact x6 _ vx.out, by rw [HV.out]; exact GL.out⟩, Below.refl _ _⟩
theorem tU (a : Option Addr) (n c : Nat) (l : List UInt8) (w : World) (hs : Sl w a n c l) (hn : n ≤ 6000) (k1 : l ≠ sInf) (k2 : l ≠ sNinf) (k3 : l ≠ sNan) (hd : dash l = false) :
  Calls Tryz.prog 129 #[.slice a n c] w (RefP (getO l) w) := by
 have q1 := bv hs
 have HG := I5 (show getO l = (numP (undash l)).map fun p => signed false (quoB p.1 p.2) by unfold getO; rw [if_neg k1, if_neg k2, if_neg k3, hd])
 have j1 : (l == [105, 110, 102]) = false := by simpa [sInf] using k1
 have j2 : (l == [45, 105, 110, 102]) = false := by simpa [sNinf] using k2
 have j3 : (l == [110, 97, 110]) = false := by simpa [sNan] using k3
 have HS := I5 hs
 have HL := I5 hs.1
 have HU := I5 (show undash l = l.drop 0 by unfold undash; rw [hd]; rfl)
 obtain ⟨R, hR⟩ : ∃ R, R = docR true 0 0 0 0 (undash l) := ⟨_, rfl⟩
 have HR := I5 hR
 rcases Nat.eq_zero_or_pos n with h0 | h0
 ·have HN := I5 (show getO l = none by
   have : l = [] := List.eq_nil_of_length_eq_zero (by have := HL.out; omega)
   rw [HG.out, this]; rfl)
  have h0' : (n : Int) ≤ 0 := by omega
  clear hs hd hR k1 k2 k3 h0
  go_enter Tryz.func129, Tryz.ntmps129
  go_wp2_with fail
  go_loop [6, 7, 8, 9, 10] (fun n' sc' ct' st' i' => n' = .int .i64 0 ∧ sc' = .int .i64 0 ∧ ct' = .int .i64 0 ∧ st' = .int .i64 0 ∧ i' = .int .i64 0) (fun _ _ _ _ i' => 0)
  case atStart => exact ⟨rfl, rfl, rfl, rfl, rfl⟩
  case round =>
   obtain ⟨rfl, rfl, rfl, rfl, rfl⟩ := hrel
   go_wp2_with fail
   go_ret2
   exact ⟨0, by rw [HN.out]; rfl, .inr ⟨by decide, by rw [HN.out]; rfl⟩, Below.refl _ _⟩
 have ig : 1 ≤ n := h0
 obtain ⟨b0, o0, EL, wH, _⟩ := hs.some (by omega)
 subst EL
 have c00 := wH 0 (by omega)
 obtain ⟨x0, cw⟩ : ∃ x0, x0 = l.getD 0 0 := ⟨_, rfl⟩
 have t0 : ((x0.toNat : Int) == 45) = false := by
  have : x0.toNat ≠ 45 := by
   intro e
   have e2 : x0 = 45 := UInt8.toNat_inj.1 e
   cases l with
   | nil => have := HL.out; simp at this; omega
   | cons y t =>
    simp at cw
    rw [cw] at e2
    simp [dash, e2] at hd
  simp; omega
 replace c00 : w.cell? ⟨b0, o0, none⟩ = some (.int .u8 (x0.toNat : Int)) := by rw [← cw] at c00; exact c00
 have hn1' : (0 : Int) < n := by omega
 clear hs hd hR k1 k2 k3 wH cw h0
 go_enter Tryz.func129, Tryz.ntmps129
 go_wp2_with fail
 clear j1 j2 j3 q1
 clear t0
 go_loop [6, 7, 8, 9, 10] (fun n' sc' ct' st' i' => ∃ m sc ct st i : Nat, 0 ≤ i ∧ i ≤ n ∧ st ≤ 1 ∧ sc ≤ ct ∧ ct ≤ 15 ∧ n' = .int .i64 m ∧ sc' = .int .i64 sc ∧ ct' = .int .i64 ct ∧ st' = .int .i64 st ∧ i' = .int .i64 i ∧ Hid (m < 10 ^ ct) ∧ Hid (R = docR (decide (i = 0)) m sc ct st (l.drop i))) (fun _ _ _ _ i' => n - (intOf i').toNat)
 case atStart => exact ⟨0, 0, 0, 0, 0, Nat.le_refl _, Nat.zero_le _, by omega, by omega, by omega, rfl, rfl, rfl, rfl, rfl, I5 (by decide), I5 (by rw [HR.out, HU.out]; rfl)⟩
 case round =>
  obtain ⟨m, sc, ct, st, i, Hm, hi, gw, By, AO, rfl, rfl, rfl, rfl, rfl, HM, HD⟩ := hrel
  by_cases aJ : i < n
  ·obtain ⟨b, o, e', iM, _⟩ := HS.out.some (by omega)
   obtain ⟨rfl, rfl⟩ : b0 = b ∧ o0 = o := by simpa using e'
   clear e'
   have c0 := iM i aJ
   obtain ⟨x, hx⟩ : ∃ x, x = l.getD i 0 := ⟨_, rfl⟩
   have Cu : i < l.length := by have := HL.out; omega
   have HT := I5 (nR (decide (i = 0)) m sc ct st l i Cu x hx)
   rw [← hx] at c0
   have uu : m < 1000000000000000 := Nat.lt_of_lt_of_le HM.out (Nat.pow_le_pow_right (n := 10) (by omega) AO)
   have hx255 := x.toNat_lt
   clear iM hx Cu
   by_cases hx46 : x = 46
   ·have t1 : ((x.toNat : Int) == 46) = true := by rw [hx46]; rfl
    have HX := I5 hx46
    have H7 := I5 (show x.toNat = 46 by rw [hx46]; rfl)
    clear hx46
    by_cases h1 : (0 : Int) < st
    ·have HN := I5 (show getO l = none by rw [HG.out, dK (show docR true 0 0 0 0 (undash l) = none by rw [← HR.out, HD.out, HT.out, if_pos HX.out, if_pos (.inl (by omega))])]; rfl)
     go_wp2_with fail
     go_ret2
     exact ⟨0, by rw [HN.out]; rfl, .inr ⟨by decide, by rw [HN.out]; rfl⟩, Below.refl _ _⟩
    ·have h1' : (st : Int) ≤ 0 := by omega
     have h1n := I5 (show ¬ 0 < st by omega)
     clear h1
     by_cases h2 : i = 0
     ·have t2 : ((i : Int) == 0) = true := by rw [h2]; rfl
      have HN := I5 (show getO l = none by rw [HG.out, dK (show docR true 0 0 0 0 (undash l) = none by rw [← HR.out, HD.out, HT.out, if_pos HX.out, if_pos (.inr (.inl (by simp [h2])))])]; rfl)
      have H2 := I5 h2
      clear h2
      go_wp2_with fail
      go_ret2
      exact ⟨0, by rw [HN.out]; rfl, .inr ⟨by decide, by rw [HN.out]; rfl⟩, Below.refl _ _⟩
     ·have t2 : ((i : Int) == 0) = false := by simp; omega
      have H2 := I5 h2
      clear h2
      by_cases h3 : i = n - 1
      ·have t3 : ((i : Int) == (n : Int) - 1) = true := by simp; omega
       have HN := I5 (show getO l = none by rw [HG.out, dK (show docR true 0 0 0 0 (undash l) = none by rw [← HR.out, HD.out, HT.out, if_pos HX.out, if_pos (.inr (.inr (by have := HL.out; omega)))])]; rfl)
       have H3 := I5 h3
       clear h3
       go_wp2_with fail
       go_ret2
       exact ⟨0, by rw [HN.out]; rfl, .inr ⟨by decide, by rw [HN.out]; rfl⟩, Below.refl _ _⟩
      ·have t3 : ((i : Int) == (n : Int) - 1) = false := by simp; omega
       have HE := I5 (show R = docR (decide (i + 1 = 0)) m sc ct 1 (l.drop (i + 1)) by
        rw [HD.out, HT.out, if_pos HX.out, if_neg (by have := HL.out; have := h1n.out; have := H2.out; simp; omega), decide_eq_false (by omega)])
       have H3 := I5 h3
       clear h3
       go_wp2_with fail
       go_round
       case rel => exact ⟨m, sc, ct, 1, i + 1, by omega, by omega, by omega, By, AO, rfl, rfl, rfl, rfl, by go_num, HM, HE⟩
       case measure => simp [intOf]; omega
   ·have t1 : ((x.toNat : Int) == 46) = false := by
     have : x.toNat ≠ 46 := fun e => hx46 (UInt8.toNat_inj.1 e)
     simp; omega
    have HX := I5 hx46
    clear hx46
    by_cases h1 : (x.toNat : Int) < 48
    ·have HN := I5 (show getO l = none by rw [HG.out, dK (show docR true 0 0 0 0 (undash l) = none by rw [← HR.out, HD.out, HT.out, if_neg HX.out, if_pos (.inl (by omega))])]; rfl)
     go_wp2_with fail
     go_ret2
     exact ⟨0, by rw [HN.out]; rfl, .inr ⟨by decide, by rw [HN.out]; rfl⟩, Below.refl _ _⟩
    ·have h1' : (48 : Int) ≤ x.toNat := by omega
     clear h1
     by_cases h2 : (57 : Int) < x.toNat
     ·have HN := I5 (show getO l = none by rw [HG.out, dK (show docR true 0 0 0 0 (undash l) = none by rw [← HR.out, HD.out, HT.out, if_neg HX.out, if_pos (.inr (.inl (by omega)))])]; rfl)
      go_wp2_with fail
      go_ret2
      exact ⟨0, by rw [HN.out]; rfl, .inr ⟨by decide, by rw [HN.out]; rfl⟩, Below.refl _ _⟩
     ·have h2' : (x.toNat : Int) ≤ 57 := by omega
      clear h2
      by_cases h3 : ct = 15
      ·have t3 : ((ct : Int) == 15) = true := by rw [h3]; rfl
       have HN := I5 (show getO l = none by rw [HG.out, dK (show docR true 0 0 0 0 (undash l) = none by rw [← HR.out, HD.out, HT.out, if_neg HX.out, if_pos (.inr (.inr h3))])]; rfl)
       have H3 := I5 h3
       clear h3
       go_wp2_with fail
       go_ret2
       exact ⟨0, by rw [HN.out]; rfl, .inr ⟨by decide, by rw [HN.out]; rfl⟩, Below.refl _ _⟩
      ·have t3 : ((ct : Int) == 15) = false := by simp; omega
       have HE := I5 (show R = docR (decide (i + 1 = 0)) (10 * m + (x.toNat - 48)) (sc + st) (ct + 1) st (l.drop (i + 1)) by
        rw [HD.out, HT.out, if_neg HX.out, if_neg (by omega), decide_eq_false (by omega)])
       have HP := I5 (show 10 * m + (x.toNat - 48) < 10 ^ (ct + 1) by rw [Nat.pow_succ]; have := HM.out; omega)
       have hct' : ct + 1 ≤ 15 := by omega
       have H3 := I5 h3
       clear h3
       go_wp2_with fail
       go_round
       case rel => exact ⟨10 * m + (x.toNat - 48), sc + st, ct + 1, st, i + 1, by omega, by omega, gw, by omega, hct', by go_num, by go_num, by go_num, rfl, by go_num, HP, HE⟩
       case measure => simp [intOf]; omega
  ·obtain rfl : i = n := by omega
   have HE := I5 (show docR true 0 0 0 0 (undash l) = some (m, sc, ct) by rw [← HR.out, HD.out, List.drop_of_length_le (by have := HL.out; omega)]; rfl)
   by_cases h0 : ct = 0
   ·have t0 : ((ct : Int) == 0) = true := by rw [h0]; rfl
    have HN := I5 (show getO l = none by rw [HG.out, show numP (undash l) = none by rw [← j4]; unfold docN; rw [HE.out]; exact if_pos h0]; rfl)
    have H0 := I5 h0
    clear h0
    go_wp2_with fail
    go_ret2
    exact ⟨0, by rw [HN.out]; rfl, .inr ⟨by decide, by rw [HN.out]; rfl⟩, Below.refl _ _⟩
   ·have t0 : ((ct : Int) == 0) = false := by simp; omega
    have hN : numP (undash l) = some (m, sc) := by rw [← j4]; unfold docN; rw [HE.out]; exact if_neg h0
    have hm15 : m < 10 ^ 15 := Nat.lt_of_lt_of_le HM.out (Nat.pow_le_pow_right (by omega) AO)
    obtain ⟨nJ, iW⟩ := ov m sc (Nat.lt_trans hm15 (by decide)) (by omega)
    have sr := I5 nJ
    have vx := I5 iW
    obtain ⟨Q, hQ⟩ : ∃ Q, Q = quoB m sc := ⟨_, rfl⟩
    rw [← hQ] at sr vx
    have HV := I5 (show getO l = some (signed false Q) by rw [HG.out, hN, hQ]; rfl)
    have H0 := I5 h0
    clear h0 hN nJ iW hQ hm15
    go_wp2_with fail
    go_loop [12, 13] (fun t' j' => ∃ t j : Nat, j ≤ sc ∧ t' = .int .i64 t ∧ j' = .int .i64 j ∧ Hid (t = 10 ^ j)) (fun _ j' => sc - (intOf j').toNat)
    case atStart => exact ⟨1, 0, Nat.zero_le _, rfl, rfl, I5 rfl⟩
    case round =>
     obtain ⟨t, j, hj, rfl, rfl, HT⟩ := hrel
     by_cases aJ : j < sc
     ·have ht : t ≤ 1000000000000000 := by rw [HT.out]; exact Nat.pow_le_pow_right (n := 10) (by omega) (show j ≤ 15 by omega)
      have Ff := I5 (show 10 * t = 10 ^ (j + 1) by rw [HT.out, Nat.pow_succ]; omega)
      go_wp2_with fail
      go_round
      case rel => exact ⟨10 * t, j + 1, by omega, by go_num, by go_num, Ff⟩
      case measure => simp [intOf]; omega
     ·obtain rfl : j = sc := by omega
      have hq : ∀ W : World, (binOp .quo 128 (.float .f64 (floatOfInt .f64 (m : Int))) (.float .f64 (floatOfInt .f64 (t : Int)))).run Tryz.prog W = .ok (.float .f64 Q) W := fun W => run_float_arith W .quo 128 .f64 _ _ _ (by rw [HT.out]; exact sr.out)
      go_wp2_with fail
      go_ret2
      exact ⟨_, by rw [HV.out]; rfl, .inr ⟨ua _ vx.out, by rw [HV.out]; rfl⟩, Below.refl _ _⟩
theorem ed (a : Option Addr) (n c : Nat) (l : List UInt8) (w : World) (hs : Sl w a n c l) (hn : n ≤ 6000) :
  Calls Tryz.prog 129 #[.slice a n c] w (RefP (getO l) w) := by
 by_cases k1 : l = sInf
 ·exact fD _ _ _ _ _ hs (.inl k1)
 by_cases k2 : l = sNinf
 ·exact fD _ _ _ _ _ hs (.inr (.inl k2))
 by_cases k3 : l = sNan
 ·exact fD _ _ _ _ _ hs (.inr (.inr k3))
 cases hd : dash l
 ·exact tU _ _ _ _ _ hs hn k1 k2 k3 hd
 ·exact rf _ _ _ _ _ hs hn k1 k2 k3 hd
def twoB (a b : UInt8) : Bool := isD_XDateMath a && isD_XDateMath b
def twoV (a b : UInt8) : Int := if twoB a b then (two2 a b : Nat) else 0
theorem gC (a : Option Addr) (len cap : Nat) (l : List UInt8) (at' : Int) (c1 c2 : UInt8) (w : World) (hs : Sl w a len cap l) (h0 : 0 ≤ at') (h1 : at' + 2 ≤ (len : Int)) (hl : len ≤ 100) (g1 : l.getD at'.toNat 0 = c1) (g2 : l.getD (at'.toNat + 1) 0 = c2) :
  Calls Tryz.prog 154 #[.slice a len cap, .int .i64 at'] w fun e w' => e = .returned (.tuple #[.int .i64 (twoV c1 c2), .bool (twoB c1 c2)]) ∧ Below w.heap.size w w' := by
 obtain ⟨n, rfl⟩ := Int.eq_ofNat_of_zero_le h0
 rw [Int.toNat_natCast] at g1 g2
 obtain ⟨b, o, rfl, iM, _⟩ := hs.some (by omega)
 have k0 := iM n (by omega)
 have k1 := iM (n + 1) (by omega)
 rw [g1] at k0
 rw [g2] at k1
 have b1 := c1.toNat_lt
 have b2 := c2.toNat_lt
 have AG := hs.2.1
 obtain ⟨R, hR⟩ : ∃ R, R = twoB c1 c2 := ⟨_, rfl⟩
 obtain ⟨V, hV⟩ : ∃ V, V = twoV c1 c2 := ⟨_, rfl⟩
 rw [← hR, ← hV]
 have HR := I5 hR
 have HV := I5 hV
 clear iM g1 g2 hs hR hV h0
 have fin : Hid (R = false → V = 0) := I5 (by intro h; rw [HV.out, twoV, ← HR.out, h]; rfl)
 by_cases x1 : c1.toNat < 48
 ·have HE := I5 (show R = false by rw [HR.out, twoB, (lx c1).2 (by omega)]; rfl)
  have HZ := I5 (fin.out HE.out)
  replace x1 : (c1.toNat : Int) < 48 := by omega
  go_enter Tryz.func154, Tryz.ntmps154
  go_wp2_with fail
  go_ret2
  exact ⟨by rw [HE.out, HZ.out]; rfl, Below.refl _ _⟩
 ·by_cases x2 : 57 < c1.toNat
  ·have HE := I5 (show R = false by rw [HR.out, twoB, (lx c1).2 (by omega)]; rfl)
   have HZ := I5 (fin.out HE.out)
   replace x1 : (48 : Int) ≤ (c1.toNat : Int) := by omega
   replace x2 : (57 : Int) < (c1.toNat : Int) := by omega
   go_enter Tryz.func154, Tryz.ntmps154
   go_wp2_with fail
   go_ret2
   exact ⟨by rw [HE.out, HZ.out]; rfl, Below.refl _ _⟩
  ·replace x1 : (48 : Int) ≤ (c1.toNat : Int) := by omega
   replace x2 : (c1.toNat : Int) ≤ 57 := by omega
   by_cases x3 : c2.toNat < 48
   ·have HE := I5 (show R = false by rw [HR.out, twoB, (lx c2).2 (by omega)]; simp)
    have HZ := I5 (fin.out HE.out)
    replace x3 : (c2.toNat : Int) < 48 := by omega
    go_enter Tryz.func154, Tryz.ntmps154
    go_wp2_with fail
    go_ret2
    exact ⟨by rw [HE.out, HZ.out]; rfl, Below.refl _ _⟩
   ·replace x3 : (48 : Int) ≤ (c2.toNat : Int) := by omega
    by_cases x4 : 57 < c2.toNat
    ·have HE := I5 (show R = false by rw [HR.out, twoB, (lx c2).2 (by omega)]; simp)
     have HZ := I5 (fin.out HE.out)
     replace x4 : (57 : Int) < (c2.toNat : Int) := by omega
     go_enter Tryz.func154, Tryz.ntmps154
     go_wp2_with fail
     go_ret2
     exact ⟨by rw [HE.out, HZ.out]; rfl, Below.refl _ _⟩
    ·replace x4 : (c2.toNat : Int) ≤ 57 := by omega
     have HE := I5 (show R = true by rw [HR.out, twoB, (iL c1).2 (by omega), (iL c2).2 (by omega)]; rfl)
     obtain ⟨x, hx⟩ : ∃ x, x = dg c1 := ⟨_, rfl⟩
     obtain ⟨y, hy⟩ : ∃ y, y = dg c2 := ⟨_, rfl⟩
     have HZ := I5 (show V = 10 * (x : Int) + (y : Int) by rw [HV.out, twoV, ← HR.out, HE.out, if_pos rfl, two2, ← hx, ← hy]; omega)
     have bx : x ≤ 9 := by rw [hx]; unfold dg; omega
     have byy : y ≤ 9 := by rw [hy]; unfold dg; omega
     have q1 : IntKind.u8.wrap ((c1.toNat : Int) - 48) = (x : Int) := by rw [IntKind.wrap_u8, hx]; unfold dg; omega
     have q2 : IntKind.u8.wrap ((c2.toNat : Int) - 48) = (y : Int) := by rw [IntKind.wrap_u8, hy]; unfold dg; omega
     have q3 : IntKind.i64.wrap (x : Int) = (x : Int) := by rw [IntKind.wrap_i64]; omega
     have q4 : IntKind.i64.wrap (y : Int) = (y : Int) := by rw [IntKind.wrap_i64]; omega
     have q5 : IntKind.i64.wrap (10 * (x : Int)) = 10 * (x : Int) := by rw [IntKind.wrap_i64]; omega
     have q6 : IntKind.i64.wrap (10 * (x : Int) + (y : Int)) = 10 * (x : Int) + (y : Int) := by rw [IntKind.wrap_i64]; omega
     have q7 : IntKind.i64.wrap ((n : Int) + 1) = (n : Int) + 1 := by rw [IntKind.wrap_i64]; omega
     have q8 : ((n : Int) + 1).toNat = n + 1 := by omega
     have q9 : (0 : Int) ≤ (n : Int) + 1 := by omega
     have q10 : (n : Int) + 1 < (len : Int) := by omega
     have q11 : (n : Int) < (len : Int) := by omega
     clear hx hy
     go_enter Tryz.func154, Tryz.ntmps154
     go_wp2_with fail
     go_quiet (fail)
     go_wp2_with fail
     go_ret2
     exact ⟨by rw [HE.out, HZ.out]; rfl, dT (Below.refl _ _) _⟩
theorem fQ (y m : Int) (w : World) (h0 : 0 ≤ y) (h1 : 1 ≤ m) (h2 : m ≤ 12) : Calls Tryz.prog 155 #[.int .i64 y, .int .i64 m] w fun e w' => e = .returned (.int .i64 (dim y m)) ∧ Below w.heap.size w w' := by
 obtain ⟨R, hR⟩ : ∃ R, R = dim y m := ⟨_, rfl⟩
 rw [← hR]
 have HR := I5 hR
 clear hR
 have wI : m = 1 ∨ m = 2 ∨ m = 3 ∨ m = 4 ∨ m = 5 ∨ m = 6 ∨ m = 7 ∨ m = 8 ∨ m = 9 ∨ m = 10 ∨ m = 11 ∨ m = 12 := by omega
 have hB : ∀ o, Below w.heap.size w (w.alloc o) := fun o => (Below.refl _ _).alloc (Nat.le_refl _) o
 rcases wI with rfl | rfl | rfl | rfl | rfl | rfl | rfl | rfl | rfl | rfl | rfl | rfl
 ·have HE := I5 (show R = 31 by rw [HR.out]; rfl)
  go_enter Tryz.func155, Tryz.ntmps155
  go_wp2_with fail
  go_ret
  exact ⟨by rw [HE.out]; rfl, hB _⟩
 ·by_cases h400 : y % 400 = 0
  ·have h4 : y % 4 = 0 := by omega
   have HE := I5 (show R = 29 by rw [HR.out]; simp [dim, lp, lpB, h4, h400])
   have q400 : (y % 400 == 0) = true := by simpa using h400
   clear h400 h4
   go_enter Tryz.func155, Tryz.ntmps155
   go_wp2_with fail
   go_ret
   exact ⟨by rw [HE.out]; rfl, hB _⟩
  ·by_cases h4 : y % 4 = 0
   ·by_cases h100 : y % 100 = 0
    ·have HE := I5 (show R = 28 by rw [HR.out]; simp [dim, lp, lpB, h4, h100, h400])
     have q400 : (y % 400 == 0) = false := by simpa using h400
     have q4 : (y % 4 == 0) = true := by simpa using h4
     have q100 : (y % 100 != 0) = false := by simpa using h100
     clear h400 h4 h100
     go_enter Tryz.func155, Tryz.ntmps155
     go_wp2_with fail
     go_ret
     exact ⟨by rw [HE.out]; rfl, hB _⟩
    ·have HE := I5 (show R = 29 by rw [HR.out]; simp [dim, lp, lpB, h4, h100])
     have q400 : (y % 400 == 0) = false := by simpa using h400
     have q4 : (y % 4 == 0) = true := by simpa using h4
     have q100 : (y % 100 != 0) = true := by simpa using h100
     clear h400 h4 h100
     go_enter Tryz.func155, Tryz.ntmps155
     go_wp2_with fail
     go_ret
     exact ⟨by rw [HE.out]; rfl, hB _⟩
   ·have HE := I5 (show R = 28 by rw [HR.out]; simp [dim, lp, lpB, h4])
    have q400 : (y % 400 == 0) = false := by simpa using h400
    have q4 : (y % 4 == 0) = false := by simpa using h4
    clear h400 h4
    go_enter Tryz.func155, Tryz.ntmps155
    go_wp2_with fail
    go_ret
    exact ⟨by rw [HE.out]; rfl, hB _⟩
 ·have HE := I5 (show R = 31 by rw [HR.out]; rfl)
  go_enter Tryz.func155, Tryz.ntmps155
  go_wp2_with fail
  go_ret
  exact ⟨by rw [HE.out]; rfl, hB _⟩
 ·have HE := I5 (show R = 30 by rw [HR.out]; rfl)
  go_enter Tryz.func155, Tryz.ntmps155
  go_wp2_with fail
  go_ret
  exact ⟨by rw [HE.out]; rfl, hB _⟩
 ·have HE := I5 (show R = 31 by rw [HR.out]; rfl)
  go_enter Tryz.func155, Tryz.ntmps155
  go_wp2_with fail
  go_ret
  exact ⟨by rw [HE.out]; rfl, hB _⟩
 ·have HE := I5 (show R = 30 by rw [HR.out]; rfl)
  go_enter Tryz.func155, Tryz.ntmps155
  go_wp2_with fail
  go_ret
  exact ⟨by rw [HE.out]; rfl, hB _⟩
 ·have HE := I5 (show R = 31 by rw [HR.out]; rfl)
  go_enter Tryz.func155, Tryz.ntmps155
  go_wp2_with fail
  go_ret
  exact ⟨by rw [HE.out]; rfl, hB _⟩
 ·have HE := I5 (show R = 31 by rw [HR.out]; rfl)
  go_enter Tryz.func155, Tryz.ntmps155
  go_wp2_with fail
  go_ret
  exact ⟨by rw [HE.out]; rfl, hB _⟩
 ·have HE := I5 (show R = 30 by rw [HR.out]; rfl)
  go_enter Tryz.func155, Tryz.ntmps155
  go_wp2_with fail
  go_ret
  exact ⟨by rw [HE.out]; rfl, hB _⟩
 ·have HE := I5 (show R = 31 by rw [HR.out]; rfl)
  go_enter Tryz.func155, Tryz.ntmps155
  go_wp2_with fail
  go_ret
  exact ⟨by rw [HE.out]; rfl, hB _⟩
 ·have HE := I5 (show R = 30 by rw [HR.out]; rfl)
  go_enter Tryz.func155, Tryz.ntmps155
  go_wp2_with fail
  go_ret
  exact ⟨by rw [HE.out]; rfl, hB _⟩
 ·have HE := I5 (show R = 31 by rw [HR.out]; rfl)
  go_enter Tryz.func155, Tryz.ntmps155
  go_wp2_with fail
  go_ret
  exact ⟨by rw [HE.out]; rfl, hB _⟩
theorem oq (y : Int) (w : World) (h0 : 0 ≤ y) (h1 : y ≤ 100000) : Calls Tryz.prog 156 #[.int .i64 y] w fun e w' => e = .returned (.int .i64 (dby y)) ∧ Below w.heap.size w w' := by
 obtain ⟨q, hq⟩ : ∃ q, q = y / 400 := ⟨_, rfl⟩
 obtain ⟨s, hsE⟩ : ∃ s, s = y - y % 400 := ⟨_, rfl⟩
 have b1 : 0 ≤ q := by omega
 have b2 : q ≤ 250 := by omega
 have b3 : 0 ≤ s := by omega
 have b4 : s ≤ y := by omega
 have HQ := I5 (show dby s = q * 146097 by rw [show s = 400 * q by omega, wW]; omega)
 have q1 := hq.symm
 have q2 := hsE.symm
 clear hq hsE
 go_enter Tryz.func156, Tryz.ntmps156
 go_wp2_with fail
 go_loopw [3, 4] (fun n k wr => ∃ j : Int, s ≤ j ∧ j ≤ y ∧ k = .int .i64 j ∧ n = .int .i64 (dby j) ∧ Below w.heap.size w wr) (fun _ k _ => (y - intOf k).toNat)
 case atStart => exact ⟨s, by omega, b4, rfl, by rw [HQ.out], Below.refl _ _⟩
 case round =>
  obtain ⟨j, Dx, zK, rfl, rfl, hW⟩ := hrel
  clear q1 q2
  have HD := I5 (wV j)
  have bd : 0 ≤ dby j ∧ dby j ≤ 40000000 := by unfold dby; omega
  obtain ⟨N, hN⟩ : ∃ N, N = dby j := ⟨_, rfl⟩
  rw [← hN]
  rw [← hN] at bd HD
  have HN := I5 hN
  clear hN
  by_cases aJ : j < y
  ·have hd : dim j 2 = 28 + lp j := by simp [dim]
   have lb := zC j
   go_wp2_with fail
   refine (fQ _ _ _ (by omega) (by omega) (by omega)).mono ?_
   rintro e w1 ⟨rfl, af⟩
   rw [hd]
   clear hd
   obtain ⟨P, hP⟩ : ∃ P, P = lp j := ⟨_, rfl⟩
   rw [← hP]
   rw [← hP] at lb HD
   clear hP
   have jq := hW.trans (af.mono hW.size)
   go_wp2_with fail
   go_roundw
   case rel => exact ⟨j + 1, by omega, by omega, by go_num, by rw [HD.out]; go_num, jq⟩
   case measure => simp [intOf]; omega
  ·obtain rfl : j = y := by omega
   go_wp2_with fail
   go_ret
   exact ⟨by rw [← HN.out]; rfl, hW⟩
end Go.Proofs.YtmmkaclmgnpplaaGreatDoor

/- The document's Get: what it computes. -/
import Derived.Test.YtoadpeigomkgiaaDoorONumRef
namespace Go.Proofs.YtoadpeigomkgiaaDoor
open Go.RowKit

theorem docR_step (f : Bool) (n sc c st : Nat) (l : List UInt8) (i : Nat) (h : i < l.length) (x : UInt8) (hx : x = l.getD i 0) : docR f n sc c st (l.drop i) =
    if x = 46 then (if 0 < st ∨ f = true ∨ l.length - (i + 1) = 0 then none else docR false n sc c 1 (l.drop (i + 1)))
    else if x.toNat < 48 ∨ 57 < x.toNat ∨ c = 15 then none
    else docR false (10 * n + (x.toNat - 48)) (sc + st) (c + 1) st (l.drop (i + 1)) := by
  rw [List.drop_eq_getElem_cons h]
  have e : l[i] = x := by rw [hx]; simp [List.getD_eq_getElem?_getD, h]
  rw [e, docR, List.length_drop]
theorem docNone {l : List UInt8} (h : docR true 0 0 0 0 l = none) : numP l = none := by
  rw [← docN_eq]; unfold docN; rw [h]
def RefP (o : Option Nat) (w : World) (e : Ending) (w' : World) : Prop := ∃ r, e = .returned (.tuple #[.float .f64 r, .bool o.isSome]) ∧ Agree r (o.getD 0) ∧ Below w.heap.size w w'
theorem inf_one : Ieee.double.div 4607182418800017408 0 = some 9218868437227405312 := by decide
theorem inf_two : Ieee.double.div 13830554455654793216 0 = some 18442240474082181120 := by decide

set_option maxHeartbeats 8000000 in
set_option maxRecDepth 100000 in
theorem refGet_special (a : Option Addr) (n c : Nat) (l : List UInt8) (w : World) (hs : Sl w a n c l) (h : l = sInf ∨ l = sNinf ∨ l = sNan) :
    Calls Tryd.prog 26 #[.slice a n c] w (RefP (getO l) w) := by
  have q1 := conv_sl hs
  have i1 : ∀ W : World, (binOp .quo 42 (.float .f64 4607182418800017408) (.float .f64 0)).run Tryd.prog W = .ok (.float .f64 9218868437227405312) W := fun W => run_float_arith W .quo 42 .f64 _ _ _ inf_one
  have i2 : ∀ W : World, (binOp .quo 42 (.float .f64 13830554455654793216) (.float .f64 0)).run Tryd.prog W = .ok (.float .f64 18442240474082181120) W := fun W => run_float_arith W .quo 42 .f64 _ _ _ inf_two
  obtain ⟨v, hv, i3⟩ := run_nan w
  rcases h with rfl | rfl | rfl
  · go_enter Tryd.func26, Tryd.ntmps26
    go_wp2_with fail
    refine (zero_any _).mono ?_
    rintro e w1 ⟨rfl, rfl⟩
    go_wp2_with fail
    go_ret2
    exact ⟨_, rfl, .inr ⟨by decide, rfl⟩, Below.refl _ _⟩
  · go_enter Tryd.func26, Tryd.ntmps26
    go_wp2_with fail
    refine (zero_any _).mono ?_
    rintro e w1 ⟨rfl, rfl⟩
    go_wp2_with fail
    go_ret2
    exact ⟨_, rfl, .inr ⟨by decide, rfl⟩, Below.refl _ _⟩
  · go_enter Tryd.func26, Tryd.ntmps26
    go_wp2_with fail
    refine (zero_any _).mono ?_
    rintro e w1 ⟨rfl, rfl⟩
    go_wp2_with fail
    refine (zero_any _).mono ?_
    rintro e w1 ⟨rfl, rfl⟩
    go_wp2_with fail
    go_ret2
    exact ⟨_, rfl, .inl ⟨hv, by decide⟩, (Below.refl _ _).trans ⟨rfl, rfl, rfl, Nat.le_refl _, fun _ _ => rfl⟩⟩

theorem agree_signed (s : Bool) (Q : Nat) (h : Q ≤ 2047 * 2 ^ 52) : isNan (signed s Q) = false := by
  cases s
  · exact nan_small Q h
  · exact nan_neg Q h

set_option maxHeartbeats 8000000 in
set_option maxRecDepth 100000 in
theorem refGet_yes (a : Option Addr) (n c : Nat) (l : List UInt8) (w : World) (hs : Sl w a n c l) (hn : n ≤ 1000) (k1 : l ≠ sInf) (k2 : l ≠ sNinf) (k3 : l ≠ sNan) (hd : dash l = true) :
    Calls Tryd.prog 26 #[.slice a n c] w (RefP (getO l) w) := by
  have q1 := conv_sl hs
  have HG := Lib.hid (show getO l = (numP (undash l)).map fun p => signed true (quoB p.1 p.2) by unfold getO; rw [if_neg k1, if_neg k2, if_neg k3, hd])
  have j1 : (l == [105, 110, 102]) = false := by simpa [sInf] using k1
  have j2 : (l == [45, 105, 110, 102]) = false := by simpa [sNinf] using k2
  have j3 : (l == [110, 97, 110]) = false := by simpa [sNan] using k3
  have HS := Lib.hid hs
  have HL := Lib.hid hs.1
  have HU := Lib.hid (show undash l = l.drop 1 by unfold undash; rw [hd]; rfl)
  obtain ⟨R, hR⟩ : ∃ R, R = docR true 0 0 0 0 (undash l) := ⟨_, rfl⟩
  have HR := Lib.hid hR
  have hn1 : 1 ≤ n := by
    rw [HL.out]
    cases l with
    | nil => cases hd
    | cons x t => simp
  have hd1 : l.getD 0 0 = 45 := by
    cases l with
    | nil => cases hd
    | cons x t => simpa [dash] using hd
  obtain ⟨b0, o0, ha0, hcc0, _⟩ := hs.some (by omega)
  subst ha0
  have c00 : w.cell? ⟨b0, o0, none⟩ = some (.int .u8 45) := by have := hcc0 0 (by omega); rw [hd1] at this; exact this
  have hn1' : (0 : Int) < n := by omega
  clear hs hd hR k1 k2 k3 hcc0 hd1
  go_enter Tryd.func26, Tryd.ntmps26
  go_wp2_with fail
  clear j1 j2 j3 q1
  go_loop [6, 7, 8, 9, 10] (fun n' sc' ct' st' i' => ∃ m sc ct st i : Nat, 1 ≤ i ∧ i ≤ n ∧ st ≤ 1 ∧ sc ≤ ct ∧ ct ≤ 15 ∧ n' = .int .i64 m ∧ sc' = .int .i64 sc ∧ ct' = .int .i64 ct ∧ st' = .int .i64 st ∧ i' = .int .i64 i ∧ Hid (m < 10 ^ ct) ∧ Hid (R = docR (decide (i = 1)) m sc ct st (l.drop i))) (fun _ _ _ _ i' => n - (intOf i').toNat)
  case atStart => exact ⟨0, 0, 0, 0, 1, Nat.le_refl _, hn1, by omega, by omega, by omega, rfl, rfl, rfl, rfl, rfl, Lib.hid (by decide), Lib.hid (by rw [HR.out, HU.out]; rfl)⟩
  case round =>
    obtain ⟨m, sc, ct, st, i, hi0, hi, hst, hsc, hct, rfl, rfl, rfl, rfl, rfl, HM, HD⟩ := hrel
    by_cases hlt : i < n
    · obtain ⟨b, o, e', hcc, _⟩ := HS.out.some (by omega)
      obtain ⟨rfl, rfl⟩ : b0 = b ∧ o0 = o := by simpa using e'
      clear e'
      have c0 := hcc i hlt
      obtain ⟨x, hx⟩ : ∃ x, x = l.getD i 0 := ⟨_, rfl⟩
      have hil : i < l.length := by have := HL.out; omega
      have HT := Lib.hid (docR_step (decide (i = 1)) m sc ct st l i hil x hx)
      rw [← hx] at c0
      have hmb : m < 1000000000000000 := Nat.lt_of_lt_of_le HM.out (Nat.pow_le_pow_right (n := 10) (by omega) hct)
      have hx255 := x.toNat_lt
      clear hcc hx hil
      by_cases hx46 : x = 46
      · have t1 : ((x.toNat : Int) == 46) = true := by rw [hx46]; rfl
        have HX := Lib.hid hx46
        have HXN := Lib.hid (show x.toNat = 46 by rw [hx46]; rfl)
        clear hx46
        by_cases h1 : (0 : Int) < st
        · have HN := Lib.hid (show getO l = none by rw [HG.out, docNone (show docR true 0 0 0 0 (undash l) = none by rw [← HR.out, HD.out, HT.out, if_pos HX.out, if_pos (.inl (by omega))])]; rfl)
          go_wp2_with fail
          go_ret2
          exact ⟨0, by rw [HN.out]; rfl, .inr ⟨by decide, by rw [HN.out]; rfl⟩, Below.refl _ _⟩
        · have h1' : (st : Int) ≤ 0 := by omega
          have h1n := Lib.hid (show ¬ 0 < st by omega)
          clear h1
          by_cases h2 : i = 1
          · have t2 : ((i : Int) == 1) = true := by rw [h2]; rfl
            have HN := Lib.hid (show getO l = none by rw [HG.out, docNone (show docR true 0 0 0 0 (undash l) = none by rw [← HR.out, HD.out, HT.out, if_pos HX.out, if_pos (.inr (.inl (by simp [h2])))])]; rfl)
            have H2 := Lib.hid h2
            clear h2
            go_wp2_with fail
            go_ret2
            exact ⟨0, by rw [HN.out]; rfl, .inr ⟨by decide, by rw [HN.out]; rfl⟩, Below.refl _ _⟩
          · have t2 : ((i : Int) == 1) = false := by simp; omega
            have H2 := Lib.hid h2
            clear h2
            by_cases h3 : i = n - 1
            · have t3 : ((i : Int) == (n : Int) - 1) = true := by simp; omega
              have HN := Lib.hid (show getO l = none by rw [HG.out, docNone (show docR true 0 0 0 0 (undash l) = none by rw [← HR.out, HD.out, HT.out, if_pos HX.out, if_pos (.inr (.inr (by have := HL.out; omega)))])]; rfl)
              have H3 := Lib.hid h3
              clear h3
              go_wp2_with fail
              go_ret2
              exact ⟨0, by rw [HN.out]; rfl, .inr ⟨by decide, by rw [HN.out]; rfl⟩, Below.refl _ _⟩
            · have t3 : ((i : Int) == (n : Int) - 1) = false := by simp; omega
              have HE := Lib.hid (show R = docR (decide (i + 1 = 1)) m sc ct 1 (l.drop (i + 1)) by
                rw [HD.out, HT.out, if_pos HX.out, if_neg (by have := HL.out; have := h1n.out; have := H2.out; simp; omega), decide_eq_false (by omega)])
              have H3 := Lib.hid h3
              clear h3
              go_wp2_with fail
              go_round
              case rel => exact ⟨m, sc, ct, 1, i + 1, by omega, by omega, by omega, hsc, hct, rfl, rfl, rfl, rfl, by go_num, HM, HE⟩
              case measure => simp [intOf]; omega
      · have t1 : ((x.toNat : Int) == 46) = false := by
          have : x.toNat ≠ 46 := fun e => hx46 (UInt8.toNat_inj.1 e)
          simp; omega
        have HX := Lib.hid hx46
        clear hx46
        by_cases h1 : (x.toNat : Int) < 48
        · have HN := Lib.hid (show getO l = none by rw [HG.out, docNone (show docR true 0 0 0 0 (undash l) = none by rw [← HR.out, HD.out, HT.out, if_neg HX.out, if_pos (.inl (by omega))])]; rfl)
          go_wp2_with fail
          go_ret2
          exact ⟨0, by rw [HN.out]; rfl, .inr ⟨by decide, by rw [HN.out]; rfl⟩, Below.refl _ _⟩
        · have h1' : (48 : Int) ≤ x.toNat := by omega
          clear h1
          by_cases h2 : (57 : Int) < x.toNat
          · have HN := Lib.hid (show getO l = none by rw [HG.out, docNone (show docR true 0 0 0 0 (undash l) = none by rw [← HR.out, HD.out, HT.out, if_neg HX.out, if_pos (.inr (.inl (by omega)))])]; rfl)
            go_wp2_with fail
            go_ret2
            exact ⟨0, by rw [HN.out]; rfl, .inr ⟨by decide, by rw [HN.out]; rfl⟩, Below.refl _ _⟩
          · have h2' : (x.toNat : Int) ≤ 57 := by omega
            clear h2
            by_cases h3 : ct = 15
            · have t3 : ((ct : Int) == 15) = true := by rw [h3]; rfl
              have HN := Lib.hid (show getO l = none by rw [HG.out, docNone (show docR true 0 0 0 0 (undash l) = none by rw [← HR.out, HD.out, HT.out, if_neg HX.out, if_pos (.inr (.inr h3))])]; rfl)
              have H3 := Lib.hid h3
              clear h3
              go_wp2_with fail
              go_ret2
              exact ⟨0, by rw [HN.out]; rfl, .inr ⟨by decide, by rw [HN.out]; rfl⟩, Below.refl _ _⟩
            · have t3 : ((ct : Int) == 15) = false := by simp; omega
              have HE := Lib.hid (show R = docR (decide (i + 1 = 1)) (10 * m + (x.toNat - 48)) (sc + st) (ct + 1) st (l.drop (i + 1)) by
                rw [HD.out, HT.out, if_neg HX.out, if_neg (by omega), decide_eq_false (by omega)])
              have HP := Lib.hid (show 10 * m + (x.toNat - 48) < 10 ^ (ct + 1) by rw [Nat.pow_succ]; have := HM.out; omega)
              have hct' : ct + 1 ≤ 15 := by omega
              have H3 := Lib.hid h3
              clear h3
              go_wp2_with fail
              go_round
              case rel => exact ⟨10 * m + (x.toNat - 48), sc + st, ct + 1, st, i + 1, by omega, by omega, hst, by omega, hct', by go_num, by go_num, by go_num, rfl, by go_num, HP, HE⟩
              case measure => simp [intOf]; omega
    · obtain rfl : i = n := by omega
      have HE := Lib.hid (show docR true 0 0 0 0 (undash l) = some (m, sc, ct) by rw [← HR.out, HD.out, List.drop_of_length_le (by have := HL.out; omega)]; rfl)
      by_cases h0 : ct = 0
      · have t0 : ((ct : Int) == 0) = true := by rw [h0]; rfl
        have HN := Lib.hid (show getO l = none by rw [HG.out, show numP (undash l) = none by rw [← docN_eq]; unfold docN; rw [HE.out]; exact if_pos h0]; rfl)
        have H0 := Lib.hid h0
        clear h0
        go_wp2_with fail
        go_ret2
        exact ⟨0, by rw [HN.out]; rfl, .inr ⟨by decide, by rw [HN.out]; rfl⟩, Below.refl _ _⟩
      · have t0 : ((ct : Int) == 0) = false := by simp; omega
        have hN : numP (undash l) = some (m, sc) := by rw [← docN_eq]; unfold docN; rw [HE.out]; exact if_neg h0
        have hm15 : m < 10 ^ 15 := Nat.lt_of_lt_of_le HM.out (Nat.pow_le_pow_right (by omega) hct)
        obtain ⟨hq1, hq2⟩ := quo_is m sc (Nat.lt_trans hm15 (by decide)) (by omega)
        have HQ1 := Lib.hid hq1
        have HQ2 := Lib.hid hq2
        obtain ⟨Q, hQ⟩ : ∃ Q, Q = quoB m sc := ⟨_, rfl⟩
        rw [← hQ] at HQ1 HQ2
        have HV := Lib.hid (show getO l = some (signed true Q) by rw [HG.out, hN, hQ]; rfl)
        have H0 := Lib.hid h0
        clear h0 hN hq1 hq2 hQ hm15
        go_wp2_with fail
        go_loop [12, 13] (fun t' j' => ∃ t j : Nat, j ≤ sc ∧ t' = .int .i64 t ∧ j' = .int .i64 j ∧ Hid (t = 10 ^ j)) (fun _ j' => sc - (intOf j').toNat)
        case atStart => exact ⟨1, 0, Nat.zero_le _, rfl, rfl, Lib.hid rfl⟩
        case round =>
          obtain ⟨t, j, hj, rfl, rfl, HT⟩ := hrel
          by_cases hlt : j < sc
          · have ht : t ≤ 1000000000000000 := by rw [HT.out]; exact Nat.pow_le_pow_right (n := 10) (by omega) (show j ≤ 15 by omega)
            have HT2 := Lib.hid (show 10 * t = 10 ^ (j + 1) by rw [HT.out, Nat.pow_succ]; omega)
            go_wp2_with fail
            go_round
            case rel => exact ⟨10 * t, j + 1, by omega, by go_num, by go_num, HT2⟩
            case measure => simp [intOf]; omega
          · obtain rfl : j = sc := by omega
            have hq : ∀ W : World, (binOp .quo 42 (.float .f64 (floatOfInt .f64 (m : Int))) (.float .f64 (floatOfInt .f64 (t : Int)))).run Tryd.prog W = .ok (.float .f64 Q) W := fun W => run_float_arith W .quo 42 .f64 _ _ _ (by rw [HT.out]; exact HQ1.out)
            obtain ⟨Q2, hQ2⟩ : ∃ Q2, Q2 = Q + 2 ^ 63 := ⟨_, rfl⟩
            have hneg : Op.unary .neg (.float .f64 Q) = pure (.float .f64 Q2) := by rw [hQ2, ← neg_top _ HQ2.out]; rfl
            have HE2 := Lib.hid hQ2
            clear hQ2
            go_wp2_with fail
            go_ret2
            exact ⟨_, by rw [HV.out]; rfl, .inr ⟨by rw [HE2.out]; exact nan_neg _ HQ2.out, by rw [HV.out]; exact HE2.out⟩, Below.refl _ _⟩

set_option maxHeartbeats 8000000 in
set_option maxRecDepth 100000 in
theorem refGet_no (a : Option Addr) (n c : Nat) (l : List UInt8) (w : World) (hs : Sl w a n c l) (hn : n ≤ 1000) (k1 : l ≠ sInf) (k2 : l ≠ sNinf) (k3 : l ≠ sNan) (hd : dash l = false) :
    Calls Tryd.prog 26 #[.slice a n c] w (RefP (getO l) w) := by
  have q1 := conv_sl hs
  have HG := Lib.hid (show getO l = (numP (undash l)).map fun p => signed false (quoB p.1 p.2) by unfold getO; rw [if_neg k1, if_neg k2, if_neg k3, hd])
  have j1 : (l == [105, 110, 102]) = false := by simpa [sInf] using k1
  have j2 : (l == [45, 105, 110, 102]) = false := by simpa [sNinf] using k2
  have j3 : (l == [110, 97, 110]) = false := by simpa [sNan] using k3
  have HS := Lib.hid hs
  have HL := Lib.hid hs.1
  have HU := Lib.hid (show undash l = l.drop 0 by unfold undash; rw [hd]; rfl)
  obtain ⟨R, hR⟩ : ∃ R, R = docR true 0 0 0 0 (undash l) := ⟨_, rfl⟩
  have HR := Lib.hid hR
  rcases Nat.eq_zero_or_pos n with h0 | h0
  · have HN := Lib.hid (show getO l = none by
      have : l = [] := List.eq_nil_of_length_eq_zero (by have := HL.out; omega)
      rw [HG.out, this]; rfl)
    have h0' : (n : Int) ≤ 0 := by omega
    clear hs hd hR k1 k2 k3 h0
    go_enter Tryd.func26, Tryd.ntmps26
    go_wp2_with fail
    go_loop [6, 7, 8, 9, 10] (fun n' sc' ct' st' i' => n' = .int .i64 0 ∧ sc' = .int .i64 0 ∧ ct' = .int .i64 0 ∧ st' = .int .i64 0 ∧ i' = .int .i64 0) (fun _ _ _ _ i' => 0)
    case atStart => exact ⟨rfl, rfl, rfl, rfl, rfl⟩
    case round =>
      obtain ⟨rfl, rfl, rfl, rfl, rfl⟩ := hrel
      go_wp2_with fail
      go_ret2
      exact ⟨0, by rw [HN.out]; rfl, .inr ⟨by decide, by rw [HN.out]; rfl⟩, Below.refl _ _⟩
  have hn1 : 1 ≤ n := h0
  obtain ⟨b0, o0, ha0, hcc0, _⟩ := hs.some (by omega)
  subst ha0
  have c00 := hcc0 0 (by omega)
  obtain ⟨x0, hx0⟩ : ∃ x0, x0 = l.getD 0 0 := ⟨_, rfl⟩
  have t0 : ((x0.toNat : Int) == 45) = false := by
    have : x0.toNat ≠ 45 := by
      intro e
      have e2 : x0 = 45 := UInt8.toNat_inj.1 e
      cases l with
      | nil => have := HL.out; simp at this; omega
      | cons y t =>
        simp at hx0
        rw [hx0] at e2
        simp [dash, e2] at hd
    simp; omega
  replace c00 : w.cell? ⟨b0, o0, none⟩ = some (.int .u8 (x0.toNat : Int)) := by rw [← hx0] at c00; exact c00
  have hn1' : (0 : Int) < n := by omega
  clear hs hd hR k1 k2 k3 hcc0 hx0 h0
  go_enter Tryd.func26, Tryd.ntmps26
  go_wp2_with fail
  clear j1 j2 j3 q1
  clear t0
  go_loop [6, 7, 8, 9, 10] (fun n' sc' ct' st' i' => ∃ m sc ct st i : Nat, 0 ≤ i ∧ i ≤ n ∧ st ≤ 1 ∧ sc ≤ ct ∧ ct ≤ 15 ∧ n' = .int .i64 m ∧ sc' = .int .i64 sc ∧ ct' = .int .i64 ct ∧ st' = .int .i64 st ∧ i' = .int .i64 i ∧ Hid (m < 10 ^ ct) ∧ Hid (R = docR (decide (i = 0)) m sc ct st (l.drop i))) (fun _ _ _ _ i' => n - (intOf i').toNat)
  case atStart => exact ⟨0, 0, 0, 0, 0, Nat.le_refl _, Nat.zero_le _, by omega, by omega, by omega, rfl, rfl, rfl, rfl, rfl, Lib.hid (by decide), Lib.hid (by rw [HR.out, HU.out]; rfl)⟩
  case round =>
    obtain ⟨m, sc, ct, st, i, hi0, hi, hst, hsc, hct, rfl, rfl, rfl, rfl, rfl, HM, HD⟩ := hrel
    by_cases hlt : i < n
    · obtain ⟨b, o, e', hcc, _⟩ := HS.out.some (by omega)
      obtain ⟨rfl, rfl⟩ : b0 = b ∧ o0 = o := by simpa using e'
      clear e'
      have c0 := hcc i hlt
      obtain ⟨x, hx⟩ : ∃ x, x = l.getD i 0 := ⟨_, rfl⟩
      have hil : i < l.length := by have := HL.out; omega
      have HT := Lib.hid (docR_step (decide (i = 0)) m sc ct st l i hil x hx)
      rw [← hx] at c0
      have hmb : m < 1000000000000000 := Nat.lt_of_lt_of_le HM.out (Nat.pow_le_pow_right (n := 10) (by omega) hct)
      have hx255 := x.toNat_lt
      clear hcc hx hil
      by_cases hx46 : x = 46
      · have t1 : ((x.toNat : Int) == 46) = true := by rw [hx46]; rfl
        have HX := Lib.hid hx46
        have HXN := Lib.hid (show x.toNat = 46 by rw [hx46]; rfl)
        clear hx46
        by_cases h1 : (0 : Int) < st
        · have HN := Lib.hid (show getO l = none by rw [HG.out, docNone (show docR true 0 0 0 0 (undash l) = none by rw [← HR.out, HD.out, HT.out, if_pos HX.out, if_pos (.inl (by omega))])]; rfl)
          go_wp2_with fail
          go_ret2
          exact ⟨0, by rw [HN.out]; rfl, .inr ⟨by decide, by rw [HN.out]; rfl⟩, Below.refl _ _⟩
        · have h1' : (st : Int) ≤ 0 := by omega
          have h1n := Lib.hid (show ¬ 0 < st by omega)
          clear h1
          by_cases h2 : i = 0
          · have t2 : ((i : Int) == 0) = true := by rw [h2]; rfl
            have HN := Lib.hid (show getO l = none by rw [HG.out, docNone (show docR true 0 0 0 0 (undash l) = none by rw [← HR.out, HD.out, HT.out, if_pos HX.out, if_pos (.inr (.inl (by simp [h2])))])]; rfl)
            have H2 := Lib.hid h2
            clear h2
            go_wp2_with fail
            go_ret2
            exact ⟨0, by rw [HN.out]; rfl, .inr ⟨by decide, by rw [HN.out]; rfl⟩, Below.refl _ _⟩
          · have t2 : ((i : Int) == 0) = false := by simp; omega
            have H2 := Lib.hid h2
            clear h2
            by_cases h3 : i = n - 1
            · have t3 : ((i : Int) == (n : Int) - 1) = true := by simp; omega
              have HN := Lib.hid (show getO l = none by rw [HG.out, docNone (show docR true 0 0 0 0 (undash l) = none by rw [← HR.out, HD.out, HT.out, if_pos HX.out, if_pos (.inr (.inr (by have := HL.out; omega)))])]; rfl)
              have H3 := Lib.hid h3
              clear h3
              go_wp2_with fail
              go_ret2
              exact ⟨0, by rw [HN.out]; rfl, .inr ⟨by decide, by rw [HN.out]; rfl⟩, Below.refl _ _⟩
            · have t3 : ((i : Int) == (n : Int) - 1) = false := by simp; omega
              have HE := Lib.hid (show R = docR (decide (i + 1 = 0)) m sc ct 1 (l.drop (i + 1)) by
                rw [HD.out, HT.out, if_pos HX.out, if_neg (by have := HL.out; have := h1n.out; have := H2.out; simp; omega), decide_eq_false (by omega)])
              have H3 := Lib.hid h3
              clear h3
              go_wp2_with fail
              go_round
              case rel => exact ⟨m, sc, ct, 1, i + 1, by omega, by omega, by omega, hsc, hct, rfl, rfl, rfl, rfl, by go_num, HM, HE⟩
              case measure => simp [intOf]; omega
      · have t1 : ((x.toNat : Int) == 46) = false := by
          have : x.toNat ≠ 46 := fun e => hx46 (UInt8.toNat_inj.1 e)
          simp; omega
        have HX := Lib.hid hx46
        clear hx46
        by_cases h1 : (x.toNat : Int) < 48
        · have HN := Lib.hid (show getO l = none by rw [HG.out, docNone (show docR true 0 0 0 0 (undash l) = none by rw [← HR.out, HD.out, HT.out, if_neg HX.out, if_pos (.inl (by omega))])]; rfl)
          go_wp2_with fail
          go_ret2
          exact ⟨0, by rw [HN.out]; rfl, .inr ⟨by decide, by rw [HN.out]; rfl⟩, Below.refl _ _⟩
        · have h1' : (48 : Int) ≤ x.toNat := by omega
          clear h1
          by_cases h2 : (57 : Int) < x.toNat
          · have HN := Lib.hid (show getO l = none by rw [HG.out, docNone (show docR true 0 0 0 0 (undash l) = none by rw [← HR.out, HD.out, HT.out, if_neg HX.out, if_pos (.inr (.inl (by omega)))])]; rfl)
            go_wp2_with fail
            go_ret2
            exact ⟨0, by rw [HN.out]; rfl, .inr ⟨by decide, by rw [HN.out]; rfl⟩, Below.refl _ _⟩
          · have h2' : (x.toNat : Int) ≤ 57 := by omega
            clear h2
            by_cases h3 : ct = 15
            · have t3 : ((ct : Int) == 15) = true := by rw [h3]; rfl
              have HN := Lib.hid (show getO l = none by rw [HG.out, docNone (show docR true 0 0 0 0 (undash l) = none by rw [← HR.out, HD.out, HT.out, if_neg HX.out, if_pos (.inr (.inr h3))])]; rfl)
              have H3 := Lib.hid h3
              clear h3
              go_wp2_with fail
              go_ret2
              exact ⟨0, by rw [HN.out]; rfl, .inr ⟨by decide, by rw [HN.out]; rfl⟩, Below.refl _ _⟩
            · have t3 : ((ct : Int) == 15) = false := by simp; omega
              have HE := Lib.hid (show R = docR (decide (i + 1 = 0)) (10 * m + (x.toNat - 48)) (sc + st) (ct + 1) st (l.drop (i + 1)) by
                rw [HD.out, HT.out, if_neg HX.out, if_neg (by omega), decide_eq_false (by omega)])
              have HP := Lib.hid (show 10 * m + (x.toNat - 48) < 10 ^ (ct + 1) by rw [Nat.pow_succ]; have := HM.out; omega)
              have hct' : ct + 1 ≤ 15 := by omega
              have H3 := Lib.hid h3
              clear h3
              go_wp2_with fail
              go_round
              case rel => exact ⟨10 * m + (x.toNat - 48), sc + st, ct + 1, st, i + 1, by omega, by omega, hst, by omega, hct', by go_num, by go_num, by go_num, rfl, by go_num, HP, HE⟩
              case measure => simp [intOf]; omega
    · obtain rfl : i = n := by omega
      have HE := Lib.hid (show docR true 0 0 0 0 (undash l) = some (m, sc, ct) by rw [← HR.out, HD.out, List.drop_of_length_le (by have := HL.out; omega)]; rfl)
      by_cases h0 : ct = 0
      · have t0 : ((ct : Int) == 0) = true := by rw [h0]; rfl
        have HN := Lib.hid (show getO l = none by rw [HG.out, show numP (undash l) = none by rw [← docN_eq]; unfold docN; rw [HE.out]; exact if_pos h0]; rfl)
        have H0 := Lib.hid h0
        clear h0
        go_wp2_with fail
        go_ret2
        exact ⟨0, by rw [HN.out]; rfl, .inr ⟨by decide, by rw [HN.out]; rfl⟩, Below.refl _ _⟩
      · have t0 : ((ct : Int) == 0) = false := by simp; omega
        have hN : numP (undash l) = some (m, sc) := by rw [← docN_eq]; unfold docN; rw [HE.out]; exact if_neg h0
        have hm15 : m < 10 ^ 15 := Nat.lt_of_lt_of_le HM.out (Nat.pow_le_pow_right (by omega) hct)
        obtain ⟨hq1, hq2⟩ := quo_is m sc (Nat.lt_trans hm15 (by decide)) (by omega)
        have HQ1 := Lib.hid hq1
        have HQ2 := Lib.hid hq2
        obtain ⟨Q, hQ⟩ : ∃ Q, Q = quoB m sc := ⟨_, rfl⟩
        rw [← hQ] at HQ1 HQ2
        have HV := Lib.hid (show getO l = some (signed false Q) by rw [HG.out, hN, hQ]; rfl)
        have H0 := Lib.hid h0
        clear h0 hN hq1 hq2 hQ hm15
        go_wp2_with fail
        go_loop [12, 13] (fun t' j' => ∃ t j : Nat, j ≤ sc ∧ t' = .int .i64 t ∧ j' = .int .i64 j ∧ Hid (t = 10 ^ j)) (fun _ j' => sc - (intOf j').toNat)
        case atStart => exact ⟨1, 0, Nat.zero_le _, rfl, rfl, Lib.hid rfl⟩
        case round =>
          obtain ⟨t, j, hj, rfl, rfl, HT⟩ := hrel
          by_cases hlt : j < sc
          · have ht : t ≤ 1000000000000000 := by rw [HT.out]; exact Nat.pow_le_pow_right (n := 10) (by omega) (show j ≤ 15 by omega)
            have HT2 := Lib.hid (show 10 * t = 10 ^ (j + 1) by rw [HT.out, Nat.pow_succ]; omega)
            go_wp2_with fail
            go_round
            case rel => exact ⟨10 * t, j + 1, by omega, by go_num, by go_num, HT2⟩
            case measure => simp [intOf]; omega
          · obtain rfl : j = sc := by omega
            have hq : ∀ W : World, (binOp .quo 42 (.float .f64 (floatOfInt .f64 (m : Int))) (.float .f64 (floatOfInt .f64 (t : Int)))).run Tryd.prog W = .ok (.float .f64 Q) W := fun W => run_float_arith W .quo 42 .f64 _ _ _ (by rw [HT.out]; exact HQ1.out)
            go_wp2_with fail
            go_ret2
            exact ⟨_, by rw [HV.out]; rfl, .inr ⟨nan_small _ HQ2.out, by rw [HV.out]; rfl⟩, Below.refl _ _⟩

theorem refGet_any (a : Option Addr) (n c : Nat) (l : List UInt8) (w : World) (hs : Sl w a n c l) (hn : n ≤ 1000) :
    Calls Tryd.prog 26 #[.slice a n c] w (RefP (getO l) w) := by
  by_cases k1 : l = sInf
  · exact refGet_special _ _ _ _ _ hs (.inl k1)
  by_cases k2 : l = sNinf
  · exact refGet_special _ _ _ _ _ hs (.inr (.inl k2))
  by_cases k3 : l = sNan
  · exact refGet_special _ _ _ _ _ hs (.inr (.inr k3))
  cases hd : dash l
  · exact refGet_no _ _ _ _ _ hs hn k1 k2 k3 hd
  · exact refGet_yes _ _ _ _ _ hs hn k1 k2 k3 hd
end Go.Proofs.YtoadpeigomkgiaaDoor

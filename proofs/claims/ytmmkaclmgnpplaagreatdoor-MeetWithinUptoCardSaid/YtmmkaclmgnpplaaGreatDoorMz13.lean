import Derived.Test.YtmmkaclmgnpplaaGreatDoorMz12
set_option maxRecDepth 100000
set_option maxHeartbeats 64000000
set_option linter.unusedSimpArgs false
set_option linter.unusedVariables false
namespace Go.Proofs.YtmmkaclmgnpplaaGreatDoor
open Go.RowKit
theorem Sl.len_le {w : World} {a : Option Addr} {len cap : Nat} {l : List UInt8} (h : Sl w a len cap l) : l.length ≤ 9223372036854775807 := by
 have h1 := h.1
 have h2 := h.2.1
 have h3 := h.2.2.1
 unfold maxLen at h3
 omega
theorem Sl.sub {w : World} {b o len cap : Nat} {l : List UInt8} (h : Sl w (Option.some ⟨b, o, none⟩) len cap l) (i j : Nat) (IJ : i ≤ j) (hj : j ≤ len) :
  Sl w (Option.some ⟨b, o + i, none⟩) (j - i) (cap - i) ((l.drop i).take (j - i)) := by
 obtain ⟨h1, h2, h3, h5, h4⟩ := h
 refine ⟨by simp; omega, by omega, by omega, (fun h => by cases h), ?_⟩
 by_cases h0 : j - i = 0
 ·exact .inl h0
 ·right
  rcases h4 with h4 | ⟨b', o', e, h4⟩
  ·omega
  ·obtain ⟨rfl, rfl⟩ : b = b' ∧ o = o' := by simpa using e
   refine ⟨b, o + i, rfl, fun k hk => ?_⟩
   rw [Nat.add_assoc, h4 (i + k) (by omega)]
   simp [List.getD_eq_getElem?_getD, hk]
theorem dS (a : Option Addr) (len cap : Nat) (l : List UInt8) (w : World) (hs : Sl w a len cap l) (hd : ∀ c ∈ l, isD_XDateMath c = true) (hl : l.length ≤ 4) :
  Calls Tryz.prog 170 #[.slice a len cap] w fun e w' => e = .returned (.int .i64 (digN l : Nat)) ∧ w' = w := by
 have HS := I5 hs
 have HD := I5 hd
 have HL := I5 hs.1
 have hl' : len ≤ 4 := by have := hs.1; omega
 clear hs hd
 go_enter Tryz.func170, Tryz.ntmps170
 go_wp2_with fail
 go_loop [3, 8] (fun n i => ∃ k x : Nat, k ≤ len ∧ i = .int .i64 k ∧ n = .int .i64 x ∧ x < 10 ^ k ∧ Hid (x = digN (l.take k))) (fun _ i => len - (intOf i).toNat)
 case atStart => exact ⟨0, 0, Nat.zero_le _, rfl, rfl, by simp, I5 rfl⟩
 case round =>
  obtain ⟨k, x, hk, rfl, rfl, hx, HX⟩ := hrel
  by_cases aJ : k < len
  ·obtain ⟨b, o, rfl, iM, _⟩ := HS.out.some (by omega)
   have c0 := iM k aJ
   obtain ⟨c, vw⟩ : ∃ c, c = l.getD k 0 := ⟨_, rfl⟩
   rw [← vw] at c0
   have fy : k < l.length := by have := HL.out; omega
   have Hs := (iL c).1 (HD.out c (by rw [vw]; simp [List.getD_eq_getElem?_getD, fy]))
   obtain ⟨d1, d2⟩ := Hs
   have Cc : x < 10000 := Nat.lt_of_lt_of_le hx (Nat.pow_le_pow_right (n := 10) (by omega) (show k ≤ 4 by omega))
   have HT := I5 (show digN (l.take (k + 1)) = 10 * x + (c.toNat - 48) by
    rw [List.take_succ_eq_append_getElem fy, uL, HX.out, vw]; simp [List.getD_eq_getElem?_getD, fy, dg])
   have hp : 10 ^ (k + 1) = 10 * 10 ^ k := by rw [Nat.pow_succ]; omega
   have HP := I5 hp
   clear iM vw hp
   go_wp2_with fail
   go_round
   case rel => exact ⟨k + 1, 10 * x + (c.toNat - 48), by omega, by go_num, by go_num, by rw [HP.out]; omega, I5 HT.out.symm⟩
   case measure => simp [intOf]; omega
  ·obtain rfl : k = len := by omega
   have HE := I5 (show digN l = x by rw [HX.out, List.take_of_length_le (by have := HL.out; omega)])
   go_wp2_with fail
   go_ret
   exact ⟨by rw [HE.out]; rfl, rfl⟩
theorem jX (a : Option Addr) (len cap : Nat) (l : List UInt8) (form : ByteArray) (w : World) (hs : Sl w a len cap l) (hf : ∀ k (h : k < form.size), (form[k]'h).toNat < 128) (IM : form.size ≤ 100) (hl : l.length ≤ 9223372036854775807) :
  Calls Tryz.prog 169 #[.slice a len cap, .string form] w fun e w' => e = .returned (.bool (fitsL l form.data.toList)) ∧ Below w.heap.size w w' := by
 have HS := I5 hs
 have HL := I5 hs.1
 have hl' : len ≤ 9223372036854775807 := by have := hs.1; omega
 obtain ⟨R, hR⟩ : ∃ R, R = fitsL l form.data.toList := ⟨_, rfl⟩
 rw [← hR]
 have HR := I5 hR
 have HF := I5 hf
 clear hs hR hf
 by_cases gj : len = form.size
 ·subst gj
  have hb : ((form.size : Int) != (form.size : Int)) = false := by simp
  go_enter Tryz.func169, Tryz.ntmps169
  go_wp2_with fail
  go_loopw [5, 6] (fun _ _ wr => ∃ k : Nat, k ≤ form.size ∧ w.iter form k = wr ∧ Hid (R = fitsL (l.drop k) (form.data.toList.drop k))) (fun _ _ wr => form.size - wr.iterPos w.heap.size)
  case atStart => exact ⟨0, Nat.zero_le _, rfl, I5 (by rw [HR.out]; rfl)⟩
  case round =>
   obtain ⟨k, hk, rfl, HX⟩ := hrel
   have hW : Below w.heap.size w (w.iter form k) := (Below.refl _ _).alloc (Nat.le_refl _) _
   have jq : Below w.heap.size w (w.iter form (k + 1)) := (Below.refl _ _).alloc (Nat.le_refl _) _
   have ur : ∀ j, (w.iter form j).iterPos w.heap.size = j := fun j => iterPos_of (World.iter_heap w form j)
   by_cases aJ : k < form.size
   ·have F9 := fun ty => run_next_ascii (P := Tryz.prog) w form k ty aJ (HF.out k aJ)
    obtain ⟨f, EA⟩ : ∃ f, f = form[k]'aJ := ⟨_, rfl⟩
    rw [← EA] at F9
    have IL := f.toNat_lt
    obtain ⟨b, o, rfl, iM, Gr⟩ := HS.out.some (by omega)
    obtain ⟨c, vw⟩ : ∃ c, c = l.getD k 0 := ⟨_, rfl⟩
    have c0 : (w.iter form k).cell? ⟨b, o + k, none⟩ = some (.int .u8 (c.toNat : Int)) := by rw [hW.cell Gr, vw]; exact iM k aJ
    have c1 : (w.iter form (k + 1)).cell? ⟨b, o + k, none⟩ = some (.int .u8 (c.toNat : Int)) := by rw [jq.cell Gr, vw]; exact iM k aJ
    have IP := c.toNat_lt
    have HD := I5 (show R = (fitsC c f && fitsL (l.drop (k + 1)) (form.data.toList.drop (k + 1))) by
     rw [HX.out, rU l form.data.toList k (by have := HL.out; omega) (by simpa using aJ), vw, EA]
     congr 2
     simp [List.getD_eq_getElem?_getD, aJ]; rfl)
    clear iM vw EA HX c0
    by_cases h48 : f.toNat = 48
    ·have hf48 : f = 48 := UInt8.toNat_inj.1 (by simpa using h48)
     subst hf48
     by_cases h1 : c.toNat < 48
     ·have HE := I5 (show R = false by rw [HD.out]; simp [fitsC, isD_XDateMath]; intros; omega)
      replace h1 : (c.toNat : Int) < 48 := by omega
      go_wp2_with fail
      go_ret
      exact ⟨by rw [HE.out]; rfl, (Below.refl _ _).alloc (Nat.le_refl _) _⟩
     ·by_cases h2 : 57 < c.toNat
      ·have HE := I5 (show R = false by rw [HD.out]; simp [fitsC, isD_XDateMath]; intros; omega)
       replace h1 : (48 : Int) ≤ (c.toNat : Int) := by omega
       replace h2 : (57 : Int) < (c.toNat : Int) := by omega
       go_wp2_with fail
       go_ret
       exact ⟨by rw [HE.out]; rfl, (Below.refl _ _).alloc (Nat.le_refl _) _⟩
      ·have HE := I5 (show R = fitsL (l.drop (k + 1)) (form.data.toList.drop (k + 1)) by rw [HD.out]; simp [fitsC, isD_XDateMath, show 48 ≤ c.toNat by omega, show c.toNat ≤ 57 by omega])
       replace h1 : (48 : Int) ≤ (c.toNat : Int) := by omega
       replace h2 : (c.toNat : Int) ≤ 57 := by omega
       go_wp2_with fail
       go_roundw
       case rel => exact ⟨k + 1, by omega, rfl, HE⟩
       case measure => rw [ur, ur]; omega
    ·have q1 : ((f.toNat : Int) == 48) = false := by rw [beq_eq_false_iff_ne]; omega
     have q2 : ((f.toNat : Int) != 48) = true := by rw [bne_iff_ne]; omega
     have Cz : f ≠ 48 := by intro h; apply h48; rw [h]; rfl
     by_cases h1 : c.toNat = f.toNat
     ·have HE := I5 (show R = fitsL (l.drop (k + 1)) (form.data.toList.drop (k + 1)) by rw [HD.out]; simp [fitsC, Cz, UInt8.toNat_inj.1 h1])
      have q3 : ((c.toNat : Int) != (f.toNat : Int)) = false := by rw [bne_eq_false_iff_eq]; omega
      clear h1
      go_wp2_with fail
      go_roundw
      case rel => exact ⟨k + 1, by omega, rfl, HE⟩
      case measure => rw [ur, ur]; omega
     ·have HE := I5 (show R = false by rw [HD.out]; simp [fitsC, Cz]; intro h; exact absurd (congrArg UInt8.toNat h) h1)
      have q3 : ((c.toNat : Int) != (f.toNat : Int)) = true := by rw [bne_iff_ne]; omega
      go_wp2_with fail
      go_ret
      exact ⟨by rw [HE.out]; rfl, (Below.refl _ _).alloc (Nat.le_refl _) _⟩
   ·obtain rfl : k = form.size := by omega
    have HE := I5 (show R = true by rw [HX.out, List.drop_of_length_le (by rw [← HL.out]; exact Nat.le_refl _), List.drop_of_length_le (by simp)]; rfl)
    have F9 := fun ty => run_next_end (P := Tryz.prog) w form form.size ty aJ
    clear HX
    go_wp2_with fail
    go_ret
    exact ⟨by rw [HE.out]; rfl, (Below.refl _ _).alloc (Nat.le_refl _) _⟩
 ·have HE := I5 (show R = false by rw [HR.out]; exact nO _ _ (by have := HL.out; simp; omega))
  have hb : ((len : Int) != (form.size : Int)) = true := by rw [bne_iff_ne]; omega
  go_enter Tryz.func169, Tryz.ntmps169
  go_wp2_with fail
  go_ret
  exact ⟨by rw [HE.out]; rfl, Below.refl _ _⟩
theorem pX (y : Int) (w : World) (h0 : 0 ≤ y) : Calls Tryz.prog 192 #[.int .i64 y] w fun e w' => e = .returned (.bool (lpB y)) ∧ w' = w := by
 obtain ⟨R, hR⟩ : ∃ R, R = lpB y := ⟨_, rfl⟩
 rw [← hR]
 have HR := I5 hR
 clear hR
 by_cases h4 : y % 4 = 0
 ·have q4 : (y % 4 == 0) = true := by simpa using h4
  by_cases h100 : y % 100 = 0
  ·have q100 : (y % 100 != 0) = false := by simpa using h100
   by_cases h400 : y % 400 = 0
   ·have HE := I5 (show R = true by rw [HR.out, lpB]; simp [h4, h400])
    have q400 : (y % 400 == 0) = true := by simpa using h400
    clear h4 h100 h400
    go_enter Tryz.func192, Tryz.ntmps192
    go_wp2_with fail
    go_ret
    exact ⟨by rw [HE.out]; rfl, rfl⟩
   ·have HE := I5 (show R = false by rw [HR.out, lpB]; simp [h100, h400])
    have q400 : (y % 400 == 0) = false := by simpa using h400
    clear h4 h100 h400
    go_enter Tryz.func192, Tryz.ntmps192
    go_wp2_with fail
    go_ret
    exact ⟨by rw [HE.out]; rfl, rfl⟩
  ·have HE := I5 (show R = true by rw [HR.out, lpB]; simp [h4, h100])
   have q100 : (y % 100 != 0) = true := by simpa using h100
   clear h4 h100
   go_enter Tryz.func192, Tryz.ntmps192
   go_wp2_with fail
   go_ret
   exact ⟨by rw [HE.out]; rfl, rfl⟩
 ·have HE := I5 (show R = false by rw [HR.out, lpB]; simp [h4])
  have q4 : (y % 4 == 0) = false := by simpa using h4
  clear h4
  go_enter Tryz.func192, Tryz.ntmps192
  go_wp2_with fail
  go_ret
  exact ⟨by rw [HE.out]; rfl, rfl⟩
theorem mz (y m : Int) (w : World) (h0 : 0 ≤ y) : Calls Tryz.prog 174 #[.int .i64 y, .int .i64 m] w fun e w' => e = .returned (.int .i64 (dim y m)) ∧ w' = w := by
 obtain ⟨R, hR⟩ : ∃ R, R = dim y m := ⟨_, rfl⟩
 rw [← hR]
 have HR := I5 hR
 clear hR
 have wI : m = 2 ∨ (m = 4 ∨ m = 6 ∨ m = 9 ∨ m = 11) ∨ (m ≠ 2 ∧ m ≠ 4 ∧ m ≠ 6 ∧ m ≠ 9 ∧ m ≠ 11) := by omega
 rcases wI with rfl | hm | ⟨m2, m4, m6, m9, m11⟩
 ·cases hl : lpB y with
  | true =>
   have HE := I5 (show R = 29 by rw [HR.out]; simp [dim, lp, hl])
   go_enter Tryz.func174, Tryz.ntmps174
   go_wp2_with fail
   refine (pX y _ h0).mono ?_
   rintro e w1 ⟨rfl, rfl⟩
   go_wp2_with fail
   go_ret
   exact ⟨by rw [HE.out]; rfl, rfl⟩
  | false =>
   have HE := I5 (show R = 28 by rw [HR.out]; simp [dim, lp, hl])
   go_enter Tryz.func174, Tryz.ntmps174
   go_wp2_with fail
   refine (pX y _ h0).mono ?_
   rintro e w1 ⟨rfl, rfl⟩
   go_wp2_with fail
   go_ret
   exact ⟨by rw [HE.out]; rfl, rfl⟩
 ·rcases hm with rfl | rfl | rfl | rfl
  ·have HE := I5 (show R = 30 by rw [HR.out]; rfl)
   go_enter Tryz.func174, Tryz.ntmps174
   go_wp2_with fail
   go_ret
   exact ⟨by rw [HE.out]; rfl, rfl⟩
  ·have HE := I5 (show R = 30 by rw [HR.out]; rfl)
   go_enter Tryz.func174, Tryz.ntmps174
   go_wp2_with fail
   go_ret
   exact ⟨by rw [HE.out]; rfl, rfl⟩
  ·have HE := I5 (show R = 30 by rw [HR.out]; rfl)
   go_enter Tryz.func174, Tryz.ntmps174
   go_wp2_with fail
   go_ret
   exact ⟨by rw [HE.out]; rfl, rfl⟩
  ·have HE := I5 (show R = 30 by rw [HR.out]; rfl)
   go_enter Tryz.func174, Tryz.ntmps174
   go_wp2_with fail
   go_ret
   exact ⟨by rw [HE.out]; rfl, rfl⟩
 ·have HE := I5 (show R = 31 by rw [HR.out]; simp [dim, m2, m4, m6, m9, m11])
  have q2 : (m == 2) = false := by simpa using m2
  have q4 : (m == 4) = false := by simpa using m4
  have q6 : (m == 6) = false := by simpa using m6
  have q9 : (m == 9) = false := by simpa using m9
  have q11 : (m == 11) = false := by simpa using m11
  clear m2 m4 m6 m9 m11
  go_enter Tryz.func174, Tryz.ntmps174
  go_wp2_with fail
  go_ret
  exact ⟨by rw [HE.out]; rfl, rfl⟩
theorem vj (y : Int) (w : World) (h0 : 0 ≤ y) (h1 : y ≤ 100000) : Calls Tryz.prog 175 #[.int .i64 y] w fun e w' => e = .returned (.int .i64 (dby y)) ∧ w' = w := by
 obtain ⟨R, hR⟩ : ∃ R, R = dby y := ⟨_, rfl⟩
 rw [← hR]
 have HR := I5 hR
 clear hR
 by_cases hp : 0 < y
 ·have HE := I5 (show R = y * 365 + ((y - 1) / 4 - (y - 1) / 100 + (y - 1) / 400 + 1) by rw [HR.out, zb])
  go_enter Tryz.func175, Tryz.ntmps175
  go_wp2_with fail
  go_ret
  exact ⟨by rw [HE.out]; rfl, rfl⟩
 ·obtain rfl : y = 0 := by omega
  have HE := I5 (show R = 0 by rw [HR.out, wU])
  go_enter Tryz.func175, Tryz.ntmps175
  go_wp2_with fail
  go_ret
  exact ⟨by rw [HE.out]; rfl, rfl⟩
def clockF : List UInt8 := [48, 48, 58, 48, 48, 58, 48, 48]
def dateF : List UInt8 := [48, 48, 48, 48, 45, 48, 48, 45, 48, 48, 95, 48, 48, 58, 48, 48, 58, 48, 48]
theorem gP (l r : List UInt8) (h : fitsL l r = true) : l.length = r.length := by
 rcases Nat.decEq l.length r.length with gj | he
 ·rw [nO l r gj] at h; cases h
 ·exact he
theorem xk : ((⟨#[48, 48, 48, 48, 45, 48, 48, 45, 48, 48, 95, 48, 48, 58, 48, 48, 58, 48, 48]⟩ : ByteArray).extract 11 19).data.toList = clockF := by decide
theorem zR : (⟨#[48, 48, 48, 48, 45, 48, 48, 45, 48, 48, 95, 48, 48, 58, 48, 48, 58, 48, 48]⟩ : ByteArray).data.toList = dateF := rfl
theorem jr (l : List UInt8) (h : fitsL l clockF = true) : ∃ a b c d e f, l = [a, b, 58, c, d, 58, e, f] ∧ isD_XDateMath a = true ∧ isD_XDateMath b = true ∧ isD_XDateMath c = true ∧ isD_XDateMath d = true ∧ isD_XDateMath e = true ∧ isD_XDateMath f = true := by
 have hl := gP l _ h
 unfold clockF at h hl
 match l, hl, h with
 | [a, b, p, c, d, q, e, f], _, h =>
  simp [fitsL, fitsC] at h
  obtain ⟨h1, h2, h3, h4, h5, h6, h7, h8⟩ := h
  subst h3 h6
  exact ⟨a, b, c, d, e, f, rfl, h1, h2, h4, h5, h7, h8⟩
theorem im (l : List UInt8) (h : fitsL l clockF = false) : clockOk l = false := by
 unfold clockF at h
 unfold clockOk
 split
 ·rename_i a b p c d q e f
  simp [fitsL, fitsC] at h ⊢
  intro h1 h2 h3 h4 h5 h6 h7 h8
  have := h h1 h2 h3 h4 h5 h6 h7
  rw [h8] at this
  cases this
 ·rfl
theorem uG (l : List UInt8) (h : fitsL l dateF = true) : ∃ y1 y2 y3 y4 m1 m2 d1 d2 t, l = y1 :: y2 :: y3 :: y4 :: 45 :: m1 :: m2 :: 45 :: d1 :: d2 :: 95 :: t ∧ isD_XDateMath y1 = true ∧ isD_XDateMath y2 = true ∧ isD_XDateMath y3 = true ∧ isD_XDateMath y4 = true ∧ isD_XDateMath m1 = true ∧ isD_XDateMath m2 = true ∧ isD_XDateMath d1 = true ∧ isD_XDateMath d2 = true ∧ fitsL t clockF = true := by
 have hl := gP l _ h
 unfold dateF at h hl
 match l, hl, h with
 | y1 :: y2 :: y3 :: y4 :: p :: m1 :: m2 :: q :: d1 :: d2 :: r :: t, _, h =>
  simp only [fitsL, Bool.and_eq_true] at h
  obtain ⟨h1, h2, h3, h4, h5, h6, h7, h8, h9, h10, h11, h12⟩ := h
  simp [fitsC] at h1 h2 h3 h4 h5 h6 h7 h8 h9 h10 h11
  subst h5 h8 h11
  exact ⟨y1, y2, y3, y4, m1, m2, d1, d2, t, rfl, h1, h2, h3, h4, h6, h7, h9, h10, h12⟩
theorem j7 (t : List UInt8) (h : clockOk t = true) : fitsL t clockF = true := by
 cases hf : fitsL t clockF with
 | true => rfl
 | false => rw [im t hf] at h; cases h
theorem nf (l : List UInt8) (h : fitsL l dateF = false) : dateOk l = false := by
 unfold dateF at h
 unfold dateOk
 split
 ·rename_i y1 y2 y3 y4 p m1 m2 q d1 d2 r t
  cases hc : clockOk t with
  | false => simp
  | true =>
   have hf := j7 t hc
   unfold clockF at hf
   simp [fitsL, fitsC, hf] at h ⊢
   intro h1 h2 h3 h4 h5 h6 h7 h8 h9 h10 h11
   exact absurd h11 (h h1 h2 h3 h4 h5 h6 h7 h8 h9 h10)
 ·rfl
theorem io (a b : UInt8) : digN [a, b] = two2 a b := by simp [digN, two2]
theorem uM (a b c d : UInt8) : digN [a, b, c, d] = 100 * two2 a b + two2 c d := by simp [digN, two2]; omega
theorem fP (a b : UInt8) (ha : isD_XDateMath a = true) (hb : isD_XDateMath b = true) : two2 a b ≤ 99 := by
 have h1 := (iL a).1 ha
 have h2 := (iL b).1 hb
 unfold two2 dg; omega
theorem ei (a : Option Addr) (len cap : Nat) (l : List UInt8) (w : World) (hs : Sl w a len cap l) (hl : l.length ≤ 9223372036854775807) :
  Calls Tryz.prog 140 #[.slice a len cap] w fun e w' => e = .returned (.tuple #[.int .i64 (clockV l), .bool (clockOk l)]) ∧ Below w.heap.size w w' := by
 obtain ⟨R, hR⟩ : ∃ R, R = clockOk l := ⟨_, rfl⟩
 obtain ⟨V, hV⟩ : ∃ V, V = clockV l := ⟨_, rfl⟩
 rw [← hR, ← hV]
 have HR := I5 hR
 have HV := I5 hV
 clear hR hV
 cases hf : fitsL l clockF with
 | false =>
  have HE := I5 (show R = false by rw [HR.out]; exact im l hf)
  have HZ := I5 (show V = 0 by rw [HV.out, clockV, ← HR.out, HE.out]; rfl)
  go_enter Tryz.func140, Tryz.ntmps140
  go_wp2_with fail
  refine (jX _ _ _ _ _ _ hs (by decide) (by decide) hl).mono ?_
  rintro e w1 ⟨rfl, af⟩
  rw [xk, hf]
  go_wp2_with fail
  go_ret2
  exact ⟨by rw [HE.out, HZ.out]; rfl, af⟩
 | true =>
  obtain ⟨c1, c2, c3, c4, c5, c6, rfl, i1, i2, i3, i4, i5, i6⟩ := jr l hf
  obtain rfl : len = 8 := hs.1
  have na : 8 ≤ cap := hs.2.1
  obtain ⟨b, o, rfl, _, _⟩ := hs.some (by omega)
  obtain ⟨H, hH⟩ : ∃ H, H = two2 c1 c2 := ⟨_, rfl⟩
  obtain ⟨M, hM⟩ : ∃ M, M = two2 c3 c4 := ⟨_, rfl⟩
  obtain ⟨S, hS⟩ : ∃ S, S = two2 c5 c6 := ⟨_, rfl⟩
  have bH : H ≤ 99 := by rw [hH]; exact fP _ _ i1 i2
  have bM : M ≤ 99 := by rw [hM]; exact fP _ _ i3 i4
  have bS : S ≤ 99 := by rw [hS]; exact fP _ _ i5 i6
  have HK := I5 (show R = decide (H ≤ 23 ∧ M ≤ 59 ∧ S ≤ 59) by rw [HR.out]; simp [clockOk, i1, i2, i3, i4, i5, i6, hH, hM, hS])
  have HN := I5 (show V = if R then 3600 * (H : Int) + 60 * (M : Int) + (S : Int) else 0 by rw [HV.out, clockV, ← HR.out, hH, hM, hS]; rfl)
  have D1 := io c1 c2
  have D2 := io c3 c4
  have D3 := io c5 c6
  rw [← hH] at D1
  rw [← hM] at D2
  rw [← hS] at D3
  have G1 : Hid (∀ c ∈ [c1, c2], isD_XDateMath c = true) := I5 (by simp [i1, i2])
  have G2 : Hid (∀ c ∈ [c3, c4], isD_XDateMath c = true) := I5 (by simp [i3, i4])
  have G3 : Hid (∀ c ∈ [c5, c6], isD_XDateMath c = true) := I5 (by simp [i5, i6])
  have DD1 := I5 D1
  have DD2 := I5 D2
  have DD3 := I5 D3
  have HS := I5 hs
  clear hH hM hS D1 D2 D3 i1 i2 i3 i4 i5 i6 hs HR HV
  go_enter Tryz.func140, Tryz.ntmps140
  go_wp2_with fail
  refine (jX _ _ _ _ _ _ HS.out (by decide) (by decide) hl).mono ?_
  rintro e w1 ⟨rfl, af⟩
  rw [xk, hf]
  have an := HS.out.after af
  have t1 := an.take 2 (by omega)
  have t2 := an.sub 3 5 (by omega) (by omega)
  have t3 := an.sub 6 8 (by omega) (by omega)
  simp only [List.take_succ_cons, List.take_zero, List.drop_succ_cons, List.drop_zero] at t1 t2 t3
  have T1 := I5 t1
  have T2 := I5 t2
  have T3 := I5 t3
  clear hf t1 t2 t3 an
  go_wp2_with fail
  go_quiet ((go_at_call 170; first | (with_reducible exact Calls.quiet_of_same (dS _ _ _ _ _ (T1.out.drewN _) G1.out (by simp))) | (with_reducible exact Calls.quiet_of_same (dS _ _ _ _ _ (T2.out.drewN _) G2.out (by simp))) | (with_reducible exact Calls.quiet_of_same (dS _ _ _ _ _ (T3.out.drewN _) G3.out (by simp)))))
  rw [DD1.out, DD2.out, DD3.out]
  have hW := dT af nq
  by_cases x1 : H ≤ 23
  ·by_cases x2 : M ≤ 59
   ·by_cases x3 : S ≤ 59
    ·have HE := I5 (show R = true by rw [HK.out]; simp [x1, x2, x3])
     have HZ := I5 (show V = (H : Int) * 3600 + (M : Int) * 60 + (S : Int) by rw [HN.out, HE.out, if_pos rfl]; omega)
     go_wp2_with fail
     go_ret2
     exact ⟨by rw [HE.out, HZ.out]; rfl, hW⟩
    ·have HE := I5 (show R = false by rw [HK.out]; simp [x3])
     have HZ := I5 (show V = 0 by rw [HN.out, HE.out]; rfl)
     replace x3 : (59 : Int) < (S : Int) := by omega
     go_wp2_with fail
     go_ret2
     exact ⟨by rw [HE.out, HZ.out]; rfl, hW⟩
   ·have HE := I5 (show R = false by rw [HK.out]; simp [x2])
    have HZ := I5 (show V = 0 by rw [HN.out, HE.out]; rfl)
    replace x2 : (59 : Int) < (M : Int) := by omega
    go_wp2_with fail
    go_ret2
    exact ⟨by rw [HE.out, HZ.out]; rfl, hW⟩
  ·have HE := I5 (show R = false by rw [HK.out]; simp [x1])
   have HZ := I5 (show V = 0 by rw [HN.out, HE.out]; rfl)
   replace x1 : (23 : Int) < (H : Int) := by omega
   go_wp2_with fail
   go_ret2
   exact ⟨by rw [HE.out, HZ.out]; rfl, hW⟩
theorem gn (a : Option Addr) (len cap : Nat) (l : List UInt8) (w : World) (hs : Sl w a len cap l) (hl : l.length ≤ 9223372036854775807) :
  Calls Tryz.prog 142 #[.slice a len cap] w fun e w' => e = .returned (.tuple #[.int .i64 (dateV l), .bool (dateOk l)]) ∧ Below w.heap.size w w' := by
 obtain ⟨R, hR⟩ : ∃ R, R = dateOk l := ⟨_, rfl⟩
 obtain ⟨V, hV⟩ : ∃ V, V = dateV l := ⟨_, rfl⟩
 rw [← hR, ← hV]
 have HR := I5 hR
 have HV := I5 hV
 clear hR hV
 cases hf : fitsL l dateF with
 | false =>
  have HE := I5 (show R = false by rw [HR.out]; exact nf l hf)
  have HZ := I5 (show V = 0 by rw [HV.out, dateV, ← HR.out, HE.out]; rfl)
  go_enter Tryz.func142, Tryz.ntmps142
  go_wp2_with fail
  refine (jX _ _ _ _ _ _ hs (by decide) (by decide) hl).mono ?_
  rintro e w1 ⟨rfl, af⟩
  rw [zR, hf]
  go_wp2_with fail
  go_ret2
  exact ⟨by rw [HE.out, HZ.out]; rfl, af⟩
 | true =>
  obtain ⟨y1, y2, y3, y4, m1, m2, d1, d2, t, rfl, i1, i2, i3, i4, i5, i6, i7, i8, ht⟩ := uG l hf
  have Bw : t.length = 8 := gP t _ ht
  obtain rfl : len = 19 := by rw [hs.1]; simp [Bw]
  have na : 19 ≤ cap := hs.2.1
  obtain ⟨b, o, rfl, _, _⟩ := hs.some (by omega)
  obtain ⟨Y, hY⟩ : ∃ Y, Y = 100 * two2 y1 y2 + two2 y3 y4 := ⟨_, rfl⟩
  obtain ⟨M, hM⟩ : ∃ M, M = two2 m1 m2 := ⟨_, rfl⟩
  obtain ⟨D, hD⟩ : ∃ D, D = two2 d1 d2 := ⟨_, rfl⟩
  have bY : Y ≤ 9999 := by have := fP y1 y2 i1 i2; have := fP y3 y4 i3 i4; omega
  have bM : M ≤ 99 := by rw [hM]; exact fP _ _ i5 i6
  have bD : D ≤ 99 := by rw [hD]; exact fP _ _ i7 i8
  obtain ⟨CO, zQ⟩ : ∃ CO, CO = clockOk t := ⟨_, rfl⟩
  obtain ⟨CV, zP⟩ : ∃ CV, CV = clockV t := ⟨_, rfl⟩
  have bCV : 0 ≤ CV ∧ CV ≤ 1000000 := by
   obtain ⟨c1, c2, c3, c4, c5, c6, rfl, _, _, _, _, _, _⟩ := jr t ht
   rw [zP, clockV]
   cases hc : clockOk [c1, c2, 58, c3, c4, 58, c5, c6] with
   | false => simp
   | true =>
    simp [clockOk] at hc
    simp [clockN]; omega
  obtain ⟨bCV1, bCV2⟩ := bCV
  have HK := I5 (show R = (CO && decide (1 ≤ M ∧ M ≤ 12 ∧ 1 ≤ D ∧ (D : Int) ≤ dim (Y : Nat) (M : Nat))) by rw [HR.out]; simp [dateOk, i1, i2, i3, i4, i5, i6, i7, i8, hY, hM, hD, zQ])
  have HN := I5 (show V = if R then (dby (Y : Nat) + ((D : Int) - 1) + cum (Y : Nat) M) * 86400 + CV else 0 by
   rw [HV.out, dateV, ← HR.out]
   cases hr : R with
   | false => rfl
   | true =>
    have : CO = true := by have := HK.out; rw [hr] at this; simp at this; exact this.1
    simp only [if_true, dateN, hY, hM, hD, zP, clockV, ← zQ, this])
  have DD1 := I5 (show digN [y1, y2, y3, y4] = Y by rw [uM, hY])
  have DD2 := I5 (show digN [m1, m2] = M by rw [io, hM])
  have DD3 := I5 (show digN [d1, d2] = D by rw [io, hD])
  have G1 : Hid (∀ c ∈ [y1, y2, y3, y4], isD_XDateMath c = true) := I5 (by simp [i1, i2, i3, i4])
  have G2 : Hid (∀ c ∈ [m1, m2], isD_XDateMath c = true) := I5 (by simp [i5, i6])
  have G3 : Hid (∀ c ∈ [d1, d2], isD_XDateMath c = true) := I5 (by simp [i7, i8])
  have HS := I5 hs
  have HT := I5 Bw
  have Io := I5 zQ
  have In := I5 zP
  clear hY hM hD i1 i2 i3 i4 i5 i6 i7 i8 hs HR HV Bw zQ zP ht
  go_enter Tryz.func142, Tryz.ntmps142
  go_wp2_with fail
  refine (jX _ _ _ _ _ _ HS.out (by decide) (by decide) hl).mono ?_
  rintro e w1 ⟨rfl, af⟩
  rw [zR, hf]
  have an := HS.out.after af
  have t4 := I5 (an.sub 11 19 (by omega) (by omega))
  clear an hf hl
  go_wp2_with fail
  have tt := t4.out
  simp only [List.drop_succ_cons, List.drop_zero] at tt
  rw [List.take_of_length_le (by rw [HT.out]; omega)] at tt
  refine (ei _ _ _ t _ tt (by rw [HT.out]; omega)).mono ?_
  rintro e w2 ⟨rfl, aK⟩
  rw [← Io.out, ← In.out]
  have bE := af.trans (aK.mono af.size)
  have aO := HS.out.after bE
  have t1 := aO.take 4 (by omega)
  have t2 := aO.sub 5 7 (by omega) (by omega)
  have t3 := aO.sub 8 10 (by omega) (by omega)
  simp only [List.take_succ_cons, List.take_zero, List.drop_succ_cons, List.drop_zero] at t1 t2 t3
  have T1 := I5 t1
  have T2 := I5 t2
  have T3 := I5 t3
  clear t1 t2 t3 aO tt t4
  go_wp2_with fail
  go_quiet ((go_at_call 170; first | (with_reducible exact Calls.quiet_of_same (dS _ _ _ _ _ (T1.out.drewN _) G1.out (by simp))) | (with_reducible exact Calls.quiet_of_same (dS _ _ _ _ _ (T2.out.drewN _) G2.out (by simp))) | (with_reducible exact Calls.quiet_of_same (dS _ _ _ _ _ (T3.out.drewN _) G3.out (by simp)))))
  rw [DD1.out, DD2.out, DD3.out]
  have hW := dT bE nq
  cases BE : CO with
  | false =>
   have HE := I5 (show R = false by rw [HK.out, BE]; rfl)
   have HZ := I5 (show V = 0 by rw [HN.out, HE.out]; rfl)
   go_wp2_with fail
   go_ret2
   exact ⟨by rw [HE.out, HZ.out]; rfl, hW⟩
  | true =>
   by_cases x1 : 1 ≤ M
   ·by_cases x2 : M ≤ 12
    ·by_cases x3 : 1 ≤ D
     ·have bd := mw (Y : Nat) (M : Nat)
      obtain ⟨L, hL⟩ : ∃ L, L = dim (Y : Nat) (M : Nat) := ⟨_, rfl⟩
      have Bf := I5 hL
      rw [← hL] at bd
      clear hL
      by_cases x4 : (D : Int) ≤ L
      ·have HE := I5 (show R = true by rw [HK.out, BE, ← Bf.out]; simp [x1, x2, x3, x4])
       have HZ := I5 (show V = (dby (Y : Nat) + ((D : Int) - 1) + cum (Y : Nat) M) * 86400 + CV by rw [HN.out, HE.out, if_pos rfl])
       have cd := wX (Y : Nat) (by omega) (by omega)
       go_wp2_with fail
       refine (mz _ _ _ (by omega)).mono ?_
       rintro e w3 ⟨rfl, rfl⟩
       rw [← Bf.out]
       go_wp2_with fail
       refine (vj _ _ (by omega) (by omega)).mono ?_
       rintro e w3 ⟨rfl, rfl⟩
       obtain ⟨A0, hA0⟩ : ∃ A0, A0 = dby (Y : Nat) := ⟨_, rfl⟩
       rw [← hA0]
       rw [← hA0] at cd
       have FJ := I5 hA0
       clear hA0
       go_wp2_with fail
       go_loop [9, 10] (fun s k => ∃ j : Nat, 1 ≤ j ∧ j ≤ M ∧ k = .int .i64 j ∧ s = .int .i64 (A0 + ((D : Int) - 1) + cum (Y : Nat) j)) (fun _ k => M - (intOf k).toNat)
       case atStart => exact ⟨1, by omega, x1, rfl, by simp [cum]⟩
       case round =>
        obtain ⟨j, Dx, zK, rfl, rfl⟩ := hrel
        have cb := wZ (Y : Nat) j
        have cs := I5 (mA (Y : Nat) j Dx)
        obtain ⟨Q, hQ⟩ : ∃ Q, Q = cum (Y : Nat) j := ⟨_, rfl⟩
        rw [← hQ]
        rw [← hQ] at cb cs
        have HQ := I5 hQ
        clear hQ
        by_cases aJ : j < M
        ·have db := mw (Y : Nat) (j : Nat)
         go_wp2_with fail
         refine (mz _ _ _ (by omega)).mono ?_
         rintro e w3 ⟨rfl, rfl⟩
         obtain ⟨P, hP⟩ : ∃ P, P = dim (Y : Nat) (j : Nat) := ⟨_, rfl⟩
         rw [← hP]
         rw [← hP] at db cs
         clear hP
         go_wp2_with fail
         go_round
         case rel => exact ⟨j + 1, by omega, by omega, by go_num, by rw [cs.out]; go_num⟩
         case measure => simp [intOf]; omega
        ·obtain rfl : j = M := by omega
         go_wp2_with fail
         go_ret2
         exact ⟨by rw [HE.out, HZ.out, ← FJ.out, ← HQ.out]; rfl, hW⟩
      ·have HE := I5 (show R = false by rw [HK.out, BE, ← Bf.out]; simp [x4])
       have HZ := I5 (show V = 0 by rw [HN.out, HE.out]; rfl)
       replace x4 : L < (D : Int) := by omega
       go_wp2_with fail
       refine (mz _ _ _ (by omega)).mono ?_
       rintro e w3 ⟨rfl, rfl⟩
       rw [← Bf.out]
       go_wp2_with fail
       go_ret2
       exact ⟨by rw [HE.out, HZ.out]; rfl, hW⟩
     ·have HE := I5 (show R = false by rw [HK.out, BE]; simp [x3])
      have HZ := I5 (show V = 0 by rw [HN.out, HE.out]; rfl)
      replace x3 : (D : Int) < 1 := by omega
      go_wp2_with fail
      go_ret2
      exact ⟨by rw [HE.out, HZ.out]; rfl, hW⟩
    ·have HE := I5 (show R = false by rw [HK.out, BE]; simp [x2])
     have HZ := I5 (show V = 0 by rw [HN.out, HE.out]; rfl)
     replace x2 : (12 : Int) < (M : Int) := by omega
     go_wp2_with fail
     go_ret2
     exact ⟨by rw [HE.out, HZ.out]; rfl, hW⟩
   ·have HE := I5 (show R = false by rw [HK.out, BE]; simp [x1])
    have HZ := I5 (show V = 0 by rw [HN.out, HE.out]; rfl)
    replace x1 : (M : Int) < 1 := by omega
    go_wp2_with fail
    go_ret2
    exact ⟨by rw [HE.out, HZ.out]; rfl, hW⟩
theorem jK (l : List UInt8) (h : getO l = none) : ordV 2 l = none := by show (getO l).bind _ = none; rw [h]; rfl
theorem iG (l : List UInt8) (x : Nat) (h : getO l = some x) (hx : isNan x = true) : ordV 2 l = none := by
 show ((getO l).bind fun x => if isNan x then none else some (key x, [])) = none; rw [h]; show (if isNan x then none else some (key x, [])) = (none : Option (Int × List UInt8)); rw [hx]; rfl
theorem iF (l : List UInt8) (x : Nat) (h : getO l = some x) (hx : isNan x = false) : ordV 2 l = some (key x, []) := by
 show ((getO l).bind fun x => if isNan x then none else some (key x, [])) = _; rw [h]; show (if isNan x then none else some (key x, [])) = _; rw [hx]; rfl
theorem jJ (l : List UInt8) (h : clockOk l = false) : ordV 3 l = none := by show (if clockOk l then some (clockV l, []) else none) = _; rw [h]; rfl
theorem iE (l : List UInt8) (h : clockOk l = true) : ordV 3 l = some (clockV l, []) := by show (if clockOk l then some (clockV l, []) else none) = _; rw [h]; rfl
theorem jI (l : List UInt8) (h : dateOk l = false) : ordV 5 l = none := by show (if dateOk l then some (dateV l, []) else none) = _; rw [h]; rfl
theorem iD (l : List UInt8) (h : dateOk l = true) : ordV 5 l = some (dateV l, []) := by show (if dateOk l then some (dateV l, []) else none) = _; rw [h]; rfl
theorem nU (x y : Nat) : cmpI x y = cmpZ (key x) (key y) := rfl
theorem we (g : Nat) (a : Option Addr) (n c : Nat) (l : List UInt8) (b : Option Addr) (m d : Nat) (k : List UInt8) (w : World) (hg : w.cell? ⟨g, 0, none⟩ = some (.func (.func 138) #[] #[])) (h1 : Sl w a n c l) (h2 : Sl w b m d k) (hn : n ≤ 6000) (hm : m ≤ 6000) :
  Calls Tryz.prog 159 #[.slice a n c, .slice b m d, .pointer (some ⟨g, 0, none⟩)] w (CmpP 2 l k w) := by
 have qH := cA hg
 unfold CmpP
 cases hl : getO l with
 | none =>
  obtain ⟨q1, q2⟩ := ey 2 l k (jK l hl)
  rw [q1, q2]
  have HL := I5 hl
  clear q1 q2 hl
  go_enter Tryz.func159, Tryz.ntmps159
  go_wp2_with fail
  refine (ez _ _ _ _ _ h1 (by omega)).mono ?_
  rintro e w1 ⟨rfl, af⟩
  rw [HL.out]
  have m7 := (af.cell qH).trans hg
  go_wp2_with fail
  refine (ez _ _ _ _ _ (h2.after af) (by omega)).mono ?_
  rintro e w2 ⟨rfl, aK⟩
  have bE := af.trans (aK.mono af.size)
  go_wp2_with fail
  go_ret2
  exact ⟨rfl, bE⟩
 | some x => cases hk : getO k with
  | none =>
   obtain ⟨q1, q2⟩ := fR 2 l k (jK k hk)
   rw [q1, q2]
   have HL := I5 hl
   have HK := I5 hk
   clear q1 q2 hl hk
   go_enter Tryz.func159, Tryz.ntmps159
   go_wp2_with fail
   refine (ez _ _ _ _ _ h1 (by omega)).mono ?_
   rintro e w1 ⟨rfl, af⟩
   rw [HL.out]
   have m7 := (af.cell qH).trans hg
   go_wp2_with fail
   refine (ez _ _ _ _ _ (h2.after af) (by omega)).mono ?_
   rintro e w2 ⟨rfl, aK⟩
   rw [HK.out]
   have bE := af.trans (aK.mono af.size)
   go_wp2_with fail
   go_ret2
   exact ⟨rfl, bE⟩
  | some y =>
   have e1 := l7 x
   have e2 := l7 y
   have HL := I5 hl
   have HK := I5 hk
   cases hx : isNan x with
   | true =>
    obtain ⟨q1, q2⟩ := ey 2 l k (iG l x hl hx)
    rw [q1, q2]
    rw [hx] at e1
    clear q1 q2 hl hk
    go_enter Tryz.func159, Tryz.ntmps159
    go_wp2_with fail
    refine (ez _ _ _ _ _ h1 (by omega)).mono ?_
    rintro e w1 ⟨rfl, af⟩
    rw [HL.out]
    have m7 := (af.cell qH).trans hg
    go_wp2_with fail
    refine (ez _ _ _ _ _ (h2.after af) (by omega)).mono ?_
    rintro e w2 ⟨rfl, aK⟩
    rw [HK.out]
    have bE := af.trans (aK.mono af.size)
    go_wp2_with fail
    go_ret2
    exact ⟨rfl, bE⟩
   | false => cases hy : isNan y with
    | true =>
     obtain ⟨q1, q2⟩ := fR 2 l k (iG k y hk hy)
     rw [q1, q2]
     rw [hx] at e1
     rw [hy] at e2
     clear q1 q2 hl hk
     go_enter Tryz.func159, Tryz.ntmps159
     go_wp2_with fail
     refine (ez _ _ _ _ _ h1 (by omega)).mono ?_
     rintro e w1 ⟨rfl, af⟩
     rw [HL.out]
     have m7 := (af.cell qH).trans hg
     go_wp2_with fail
     refine (ez _ _ _ _ _ (h2.after af) (by omega)).mono ?_
     rintro e w2 ⟨rfl, aK⟩
     rw [HK.out]
     have bE := af.trans (aK.mono af.size)
     go_wp2_with fail
     go_ret2
     exact ⟨rfl, bE⟩
    | false =>
     obtain ⟨q1, q2⟩ := ex 2 l k _ _ (iF l x hl hx) (iF k y hk hy)
     rw [q1, q2, gr, ← nU]
     rw [hx] at e1
     rw [hy] at e2
     clear q1 q2 hl hk
     go_enter Tryz.func159, Tryz.ntmps159
     go_wp2_with fail
     refine (ez _ _ _ _ _ h1 (by omega)).mono ?_
     rintro e w1 ⟨rfl, af⟩
     rw [HL.out]
     have m7 := (af.cell qH).trans hg
     go_wp2_with fail
     refine (ez _ _ _ _ _ (h2.after af) (by omega)).mono ?_
     rintro e w2 ⟨rfl, aK⟩
     rw [HK.out]
     have bE := af.trans (aK.mono af.size)
     go_wp2_with fail
     refine (qQ _ _ hx hy _).mono ?_
     rintro e w3 ⟨rfl, rfl⟩
     go_wp2_with fail
     go_ret2
     exact ⟨rfl, bE⟩
end Go.Proofs.YtmmkaclmgnpplaaGreatDoor

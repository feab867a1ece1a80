import Derived.Test.YtmmkaclmgnpplaaGreatDoorMz10
import Derived.Lib.Bytealg
import Derived.Shelf.Bytes.SlIndexAt
import Derived.Laws.Externs
import Derived.StillTailTactics
set_option maxRecDepth 100000
set_option maxHeartbeats 64000000
set_option linter.unusedSimpArgs false
set_option linter.unusedVariables false
namespace Go.Proofs.YtmmkaclmgnpplaaGreatDoor
open Go.RowKit
def digs : Nat → List UInt8 → Option Nat
 | n, [] => some n
 | n, c :: t => if 48 ≤ c.toNat ∧ c.toNat ≤ 57 then digs (10 * n + (c.toNat - 48)) t else none
theorem lz : ∀ (w : List UInt8) (n a m : Nat), n < 10 ^ a → digs n w = some m → m < 10 ^ (a + w.length)
 | [], n, a, m, h, e => by simp [digs] at e; subst e; simpa using h
 | c :: t, n, a, m, h, e => by
  unfold digs at e
  split at e
  ·rename_i hc
   have := lz t _ (a + 1) m (by rw [Nat.pow_succ]; omega) e
   rw [List.length_cons, show a + (t.length + 1) = a + 1 + t.length by omega]
   exact this
  ·cases e
def dot (l : List UInt8) : Nat := l.findIdx (· == 46)
def whole (l : List UInt8) : List UInt8 := l.take (dot l)
def part (l : List UInt8) : List UInt8 := l.drop (dot l + 1)
def hasDot (l : List UInt8) : Bool := decide (dot l < l.length)
theorem AW (l : List UInt8) : dot l ≤ l.length := List.findIdx_le_length
theorem po (l : List UInt8) : (46 : UInt8) ∉ whole l := by
 intro h
 unfold whole at h
 obtain ⟨i, hi, e⟩ := List.getElem_of_mem h
 have hi' : i < dot l := by simp at hi; omega
 have := List.not_of_lt_findIdx (p := (· == (46 : UInt8))) (xs := l) hi'
 simp only [List.getElem_take] at e
 rw [e] at this
 simp at this
theorem tI (l : List UInt8) (h : dot l < l.length) : l = whole l ++ 46 :: part l := by
 unfold whole part
 have h1 := List.findIdx_getElem (p := (· == (46 : UInt8))) (xs := l) (w := h)
 have h2 : l[dot l]'h = 46 := eq_of_beq h1
 rw [← h2, ← List.drop_eq_getElem_cons h, List.take_append_drop]
theorem lJ (l : List UInt8) (h : ¬ dot l < l.length) : whole l = l ∧ part l = [] := by
 have := AW l
 unfold whole part
 exact ⟨List.take_of_length_le (by omega), List.drop_of_length_le (by omega)⟩
theorem wQ (c : UInt8) (t : List UInt8) : dot (c :: t) = if c = 46 then 0 else dot t + 1 := by
 unfold dot
 rw [List.findIdx_cons]
 by_cases h : c = 46
 ·simp [h]
 ·have : (c == 46) = false := by simp [h]
  rw [this, if_neg h]; rfl
theorem yv (l : List UInt8) : Lib.indexByte l 46 = if dot l < l.length then (dot l : Int) else -1 := by
 induction l with
 | nil => rfl
 | cons c t ih =>
  unfold Lib.indexByte
  rw [wQ, ih, List.length_cons]
  generalize dot t = d
  generalize t.length = m
  by_cases hc : c = 46
  ·simp [hc]
  ·have hb : (c == 46) = false := by simp [hc]
   rw [hb, if_neg hc]
   by_cases h : d < m
   ·rw [if_pos h, if_pos (show d + 1 < m + 1 by omega)]
    have : ((d : Int) == -1) = false := by simp
    rw [this]; simp
   ·rw [if_neg h, if_neg (show ¬ d + 1 < m + 1 by omega)]; simp
def numP (l : List UInt8) : Option (Nat × Nat) :=
 if 15 < (whole l).length + (part l).length then none else
 match digs 0 (whole l) with
 | none => none
 | some n =>
  if (whole l).length = 0 then none else
  if hasDot l then
   match digs n (part l) with
   | none => none
   | some m => if (part l).length = 0 then none else some (m, (part l).length)
  else some (n, 0)
def docR : Bool → Nat → Nat → Nat → Nat → List UInt8 → Option (Nat × Nat × Nat)
 | _, n, sc, c, _, [] => some (n, sc, c)
 | f, n, sc, c, st, x :: t =>
  if x = 46 then (if 0 < st ∨ f = true ∨ t.length = 0 then none else docR false n sc c 1 t)
  else if x.toNat < 48 ∨ 57 < x.toNat ∨ c = 15 then none
  else docR false (10 * n + (x.toNat - 48)) (sc + st) (c + 1) st t
def docN (l : List UInt8) : Option (Nat × Nat) :=
 match docR true 0 0 0 0 l with
 | none => none
 | some (n, sc, c) => if c = 0 then none else some (n, sc)
theorem mv : ∀ (w : List UInt8) (f : Bool) (n sc c st : Nat), (st = 1 ∨ (46 : UInt8) ∉ w) → c ≤ 15 →
  docR f n sc c st w = if c + w.length ≤ 15 then (digs n w).map fun m => (m, sc + st * w.length, c + w.length) else none
 | [], f, n, sc, c, st, _, hc => by simp [docR, digs, hc]
 | x :: t, f, n, sc, c, st, h, hc => by
  unfold docR digs
  by_cases hx : x = 46
  ·have gw : st = 1 := by
    rcases h with h | h
    ·exact h
    ·exact absurd (by rw [hx]; exact List.mem_cons_self ..) h
   rw [if_pos hx, if_pos (.inl (by omega))]
   have : ¬ (48 ≤ x.toNat ∧ x.toNat ≤ 57) := by rw [hx]; decide
   rw [if_neg this]; simp
  ·rw [if_neg hx]
   by_cases hd : 48 ≤ x.toNat ∧ x.toNat ≤ 57
   ·rw [if_pos hd]
    by_cases hc15 : c = 15
    ·rw [if_pos (.inr (.inr hc15)), if_neg (by simp; omega)]
    ·rw [if_neg (by omega), mv t false _ _ _ st (h.imp id fun h => fun h' => h (List.mem_cons_of_mem _ h')) (by omega)]
     rw [List.length_cons, show c + 1 + t.length = c + (t.length + 1) by omega]
     have e : sc + st + st * t.length = sc + st * (t.length + 1) := by rw [Nat.mul_add]; omega
     rw [e]
   ·rw [if_neg hd, if_pos (by omega)]; simp
theorem qp : ∀ (w : List UInt8) (f : Bool) (n sc c : Nat) (t : List UInt8), (46 : UInt8) ∉ w → c ≤ 15 →
  docR f n sc c 0 (w ++ 46 :: t) = if c + w.length ≤ 15 then (match digs n w with
   | none => none
   | some m => if (f = true ∧ w.length = 0) ∨ t.length = 0 then none else docR false m sc (c + w.length) 1 t) else none
 | [], f, n, sc, c, t, _, hc => by
  rw [List.nil_append, docR, if_pos (show (46 : UInt8) = 46 from rfl)]
  rw [show c + ([] : List UInt8).length = c from rfl, if_pos hc]
  show _ = if f = true ∧ ([] : List UInt8).length = 0 ∨ t.length = 0 then none else docR false n sc c 1 t
  by_cases h : f = true ∨ t.length = 0
  ·rw [if_pos (.inr h), if_pos (h.imp (fun h => ⟨h, rfl⟩) id)]
  ·rw [if_neg (fun h' => h (h'.elim (fun h => absurd h (by omega)) id)), if_neg (fun h' => h (h'.imp And.left id))]
 | x :: w, f, n, sc, c, t, h, hc => by
  have hx : x ≠ 46 := fun e => h (by rw [e]; exact List.mem_cons_self ..)
  simp only [List.cons_append, docR, digs]
  rw [if_neg hx]
  by_cases hd : 48 ≤ x.toNat ∧ x.toNat ≤ 57
  ·rw [if_pos hd]
   by_cases hc15 : c = 15
   ·rw [if_pos (.inr (.inr hc15)), if_neg (by simp; omega)]
   ·rw [if_neg (by omega), qp w false _ _ _ t (fun h' => h (List.mem_cons_of_mem _ h')) (by omega)]
    rw [List.length_cons, show c + 1 + w.length = c + (w.length + 1) by omega]
    simp
  ·rw [if_neg hd, if_pos (by omega)]; simp
theorem j4 (l : List UInt8) : docN l = numP l := by
 unfold docN numP
 by_cases hd : dot l < l.length
 ·have e := tI l hd
  have gy := po l
  have hh : hasDot l = true := by simp [hasDot, hd]
  rw [hh]
  obtain ⟨w, hw⟩ : ∃ w, w = whole l := ⟨_, rfl⟩
  obtain ⟨p, hp⟩ : ∃ p, p = part l := ⟨_, rfl⟩
  rw [← hw, ← hp] at e
  rw [← hw] at gy
  rw [← hw, ← hp, e, qp w true 0 0 0 p gy (by omega)]
  simp only [Nat.zero_add]
  cases hg : digs 0 w with
  | none => by_cases h1 : w.length ≤ 15 <;> by_cases h2 : 15 < w.length + p.length <;> simp [h1, h2]
  | some m =>
   simp only [true_and, if_true]
   by_cases h1 : w.length ≤ 15
   ·rw [if_pos h1]
    by_cases h2 : w.length = 0 ∨ p.length = 0
    ·rw [if_pos h2]
     by_cases h3 : 15 < w.length + p.length
     ·rw [if_pos h3]
     ·rw [if_neg h3]
      rcases h2 with h | h
      ·simp [h]
      ·by_cases h4 : w.length = 0
       ·simp [h4]
       ·rw [if_neg h4]
        cases digs m p <;> simp [h]
    ·rw [if_neg h2, mv p false m 0 _ 1 (.inl rfl) h1]
     by_cases h3 : 15 < w.length + p.length
     ·rw [if_pos h3, if_neg (by omega)]
     ·rw [if_neg h3, if_pos (by omega), if_neg (by omega)]
      cases digs m p with
      | none => simp
      | some q =>
       simp only [Option.map_some]
       rw [if_neg (by omega), if_neg (by omega)]
       simp
   ·rw [if_neg h1, if_pos (by omega)]
 ·obtain ⟨e1, e2⟩ := lJ l hd
  have hh : hasDot l = false := by simp [hasDot, hd]
  have gy := po l
  rw [e1] at gy
  rw [hh, e1, e2, mv l true 0 0 0 0 (.inr gy) (by omega)]
  simp only [Nat.zero_add, List.length_nil, Nat.add_zero, Nat.zero_mul]
  by_cases h1 : l.length ≤ 15
  ·rw [if_pos h1, if_neg (by omega)]
   cases digs 0 l with
   | none => simp
   | some m => simp
  ·rw [if_neg h1, if_pos (by omega)]
theorem sN (l : List UInt8) (n k : Nat) (h : numP l = some (n, k)) : n < 10 ^ 15 ∧ k ≤ 15 := by
 unfold numP at h
 split at h
 ·cases h
 ·rename_i h15
  cases hg : digs 0 (whole l) with
  | none => rw [hg] at h; cases h
  | some m =>
   rw [hg] at h
   have hm := lz _ _ 0 _ (by simp) hg
   simp only at h
   split at h
   ·cases h
   ·split at h
    ·cases hq : digs m (part l) with
     | none => rw [hq] at h; cases h
     | some q =>
      rw [hq] at h
      simp only at h
      split at h
      ·cases h
      ·obtain ⟨rfl, rfl⟩ : q = n ∧ (part l).length = k := by simpa using h
       have hq := lz _ _ _ _ hm hq
       exact ⟨Nat.lt_of_lt_of_le hq (Nat.pow_le_pow_right (by omega) (by omega)), by omega⟩
    ·obtain ⟨rfl, rfl⟩ : m = n ∧ 0 = k := by simpa using h
     exact ⟨Nat.lt_of_lt_of_le hm (Nat.pow_le_pow_right (by omega) (by omega)), by omega⟩
def dash (l : List UInt8) : Bool := l.head? == some 45
def undash (l : List UInt8) : List UInt8 := if dash l then l.drop 1 else l
def sInf : List UInt8 := [105, 110, 102]
def sNinf : List UInt8 := [45, 105, 110, 102]
def sNan : List UInt8 := [110, 97, 110]
def signed (s : Bool) (b : Nat) : Nat := if s then b + 2 ^ 63 else b
def getO (l : List UInt8) : Option Nat :=
 if l = sInf then some 9218868437227405312 else if l = sNinf then some 18442240474082181120 else if l = sNan then some 9221120237041090561
 else (numP (undash l)).map fun p => signed (dash l) (quoB p.1 p.2)
def lpB (y : Int) : Bool := decide (y % 4 = 0 ∧ (y % 100 ≠ 0 ∨ y % 400 = 0))
def lp (y : Int) : Int := if lpB y then 1 else 0
def dim (y m : Int) : Int := if m = 2 then 28 + lp y else if m = 4 ∨ m = 6 ∨ m = 9 ∨ m = 11 then 30 else 31
def dby (y : Int) : Int := 365 * y + (y + 3) / 4 - (y + 99) / 100 + (y + 399) / 400
def cum (y : Int) : Nat → Int
 | 0 => 0
 | 1 => 0
 | m + 2 => cum y (m + 1) + dim y ((m : Int) + 1)
theorem zC (y : Int) : 0 ≤ lp y ∧ lp y ≤ 1 := by unfold lp; split <;> omega
theorem mw (y m : Int) : 28 ≤ dim y m ∧ dim y m ≤ 31 := by
 have := zC y
 unfold dim; repeat' split
 all_goals omega
theorem Am (y : Int) (h : y % 4 = 0 ∧ (y % 100 ≠ 0 ∨ y % 400 = 0)) : lp y = 1 := by
 have : lpB y = true := decide_eq_true h
 simp [lp, this]
theorem yg (y : Int) (h : ¬ (y % 4 = 0 ∧ (y % 100 ≠ 0 ∨ y % 400 = 0))) : lp y = 0 := by
 have : lpB y = false := decide_eq_false h
 simp [lp, this]
theorem wV (y : Int) : dby (y + 1) = dby y + 365 + lp y := by
 by_cases h4 : y % 4 = 0 ∧ (y % 100 ≠ 0 ∨ y % 400 = 0)
 ·rw [Am y h4]; unfold dby; omega
 ·rw [yg y h4]; unfold dby; omega
theorem wW (q : Int) : dby (400 * q) = 146097 * q := by unfold dby; omega
theorem wU : dby 0 = 0 := by decide
theorem wX (y : Int) (h : 0 ≤ y) (h2 : y ≤ 10001) : 0 ≤ dby y ∧ dby y ≤ 3652791 := by unfold dby; omega
theorem zb (y : Int) : dby y = y * 365 + ((y - 1) / 4 - (y - 1) / 100 + (y - 1) / 400 + 1) := by unfold dby; omega
theorem mA (y : Int) (m : Nat) (h : 1 ≤ m) : cum y (m + 1) = cum y m + dim y m := by
 obtain ⟨k, rfl⟩ : ∃ k, m = k + 1 := ⟨m - 1, by omega⟩
 rw [cum]; simp
theorem wZ (y : Int) (m : Nat) : 0 ≤ cum y m ∧ cum y m ≤ 31 * m := by
 induction m with
 | zero => simp [cum]
 | succ k ih =>
  by_cases hk : 1 ≤ k
  ·rw [mA y k hk]; have := mw y k; omega
  ·obtain rfl : k = 0 := by omega
   simp [cum]
def isD_XDateMath (c : UInt8) : Bool := decide (48 ≤ c.toNat ∧ c.toNat ≤ 57)
def dg (c : UInt8) : Nat := c.toNat - 48
theorem iL (c : UInt8) : isD_XDateMath c = true ↔ 48 ≤ c.toNat ∧ c.toNat ≤ 57 := by simp [isD_XDateMath]
theorem lx (c : UInt8) : isD_XDateMath c = false ↔ c.toNat < 48 ∨ 57 < c.toNat := by rw [← Bool.not_eq_true, iL]; omega
def two2 (a b : UInt8) : Nat := 10 * dg a + dg b
def clockOk : List UInt8 → Bool
 | [a, b, p, c, d, q, e, f] => isD_XDateMath a && isD_XDateMath b && (p == 58) && isD_XDateMath c && isD_XDateMath d && (q == 58) && isD_XDateMath e && isD_XDateMath f && decide (two2 a b ≤ 23 ∧ two2 c d ≤ 59 ∧ two2 e f ≤ 59)
 | _ => false
def clockN : List UInt8 → Int
 | [a, b, _, c, d, _, e, f] => 3600 * two2 a b + 60 * two2 c d + two2 e f
 | _ => 0
def clockV (l : List UInt8) : Int := if clockOk l then clockN l else 0
def dateOk : List UInt8 → Bool
 | y1 :: y2 :: y3 :: y4 :: p :: m1 :: m2 :: q :: d1 :: d2 :: r :: t => isD_XDateMath y1 && isD_XDateMath y2 && isD_XDateMath y3 && isD_XDateMath y4 && (p == 45) && isD_XDateMath m1 && isD_XDateMath m2 && (q == 45) && isD_XDateMath d1 && isD_XDateMath d2 && (r == 95) && clockOk t &&
   decide (1 ≤ two2 m1 m2 ∧ two2 m1 m2 ≤ 12 ∧ 1 ≤ two2 d1 d2 ∧ (two2 d1 d2 : Int) ≤ dim (100 * two2 y1 y2 + two2 y3 y4 : Nat) (two2 m1 m2 : Nat))
 | _ => false
def dateN : List UInt8 → Int
 | y1 :: y2 :: y3 :: y4 :: _ :: m1 :: m2 :: _ :: d1 :: d2 :: _ :: t => (dby (100 * two2 y1 y2 + two2 y3 y4 : Nat) + ((two2 d1 d2 : Nat) - 1 : Int) + cum (100 * two2 y1 y2 + two2 y3 y4 : Nat) (two2 m1 m2)) * 86400 + clockN t
 | _ => 0
def dateV (l : List UInt8) : Int := if dateOk l then dateN l else 0
def digN (l : List UInt8) : Nat := l.foldl (fun n c => 10 * n + dg c) 0
theorem uL (l : List UInt8) (c : UInt8) : digN (l ++ [c]) = 10 * digN l + dg c := by simp [digN]
def fitsC (c f : UInt8) : Bool := if f = 48 then isD_XDateMath c else c == f
def fitsL : List UInt8 → List UInt8 → Bool
 | [], [] => true
 | c :: l, f :: r => fitsC c f && fitsL l r
 | _, _ => false
theorem nO (l r : List UInt8) (h : l.length ≠ r.length) : fitsL l r = false := by
 induction l generalizing r with
 | nil => cases r <;> simp_all [fitsL]
 | cons c l ih => cases r with
  | nil => rfl
  | cons f r => simp [fitsL, ih r (by simpa using h)]
theorem rU (l r : List UInt8) (k : Nat) (h1 : k < l.length) (h2 : k < r.length) : fitsL (l.drop k) (r.drop k) = (fitsC (l.getD k 0) (r.getD k 0) && fitsL (l.drop (k + 1)) (r.drop (k + 1))) := by
 rw [List.drop_eq_getElem_cons h1, List.drop_eq_getElem_cons h2]
 simp [fitsL, List.getD_eq_getElem?_getD, h1, h2]
theorem iQ : ∀ l : List UInt8, Op.bytesLess l l = false
 | [] => rfl
 | a :: l => by simp [Op.bytesLess, iQ l]
theorem xu : ∀ l m : List UInt8, Op.bytesLess l m = true → Op.bytesLess m l = false
 | [], [], h => by simp [Op.bytesLess] at h
 | [], _ :: _, _ => by simp [Op.bytesLess]
 | _ :: _, [], h => by simp [Op.bytesLess] at h
 | a :: l, b :: m, h => by
  simp only [Op.bytesLess, Bool.or_eq_true, decide_eq_true_eq, Bool.and_eq_true, beq_iff_eq] at h
  simp only [Op.bytesLess, Bool.or_eq_false_iff, decide_eq_false_iff_not, Bool.and_eq_false_imp, beq_iff_eq]
  rcases h with h | ⟨rfl, h⟩
  ·exact ⟨UInt8.lt_asymm h, fun e => absurd (e ▸ h) (UInt8.lt_irrefl _)⟩
  ·exact ⟨UInt8.lt_irrefl _, fun _ => xu l m h⟩
theorem qC : ∀ l m : List UInt8, Op.bytesLess l m = false → Op.bytesLess m l = false → l = m
 | [], [], _, _ => rfl
 | [], _ :: _, h, _ => by simp [Op.bytesLess] at h
 | _ :: _, [], _, h => by simp [Op.bytesLess] at h
 | a :: l, b :: m, h, h' => by
  simp only [Op.bytesLess, Bool.or_eq_false_iff, decide_eq_false_iff_not, Bool.and_eq_false_imp, beq_iff_eq] at h h'
  have e : a = b := UInt8.le_antisymm (UInt8.not_lt.1 h'.1) (UInt8.not_lt.1 h.1)
  subst e
  rw [qC l m (h.2 rfl) (h'.2 rfl)]
def bcmp (l m : List UInt8) : Int := if Op.bytesLess l m then -1 else if Op.bytesLess m l then 1 else 0
def cmpK (x y : Int × List UInt8) : Int := if x.1 < y.1 then -1 else if y.1 < x.1 then 1 else bcmp x.2 y.2
theorem zd (x y : Int × List UInt8) : -1 ≤ cmpK x y ∧ cmpK x y ≤ 1 := by
 unfold cmpK bcmp
 repeat' split
 all_goals omega
def strip : List UInt8 → List UInt8
 | [] => []
 | a :: l => if a = 0 then strip l else a :: l
def ordV (o : Nat) (l : List UInt8) : Option (Int × List UInt8) :=
 if o = 1 then some (0, l)
 else if o = 2 then (getO l).bind fun x => if isNan x then none else some (key x, [])
 else if o = 3 then (if clockOk l then some (clockV l, []) else none)
 else if o = 4 then some (((strip l).length : Nat), strip l)
 else if o = 5 then (if dateOk l then some (dateV l, []) else none)
 else none
def isV (o : Nat) (l : List UInt8) : Bool := (ordV o l).isSome
def cV (o : Nat) (l m : List UInt8) : Int := match ordV o l, ordV o m with
 | some x, some y => cmpK x y
 | _, _ => 0
def okV (o : Nat) (l m : List UInt8) : Bool := isV o l && isV o m
theorem zS (o : Nat) (l m : List UInt8) (h : okV o l m = false) : cV o l m = 0 := by
 unfold okV isV at h; unfold cV
 cases h1 : ordV o l with
 | none => rfl
 | some x => cases h2 : ordV o m with
  | none => rfl
  | some y => simp [h1, h2] at h
theorem C7 (o : Nat) (l m : List UInt8) : -1 ≤ cV o l m ∧ cV o l m ≤ 1 := by
 unfold cV
 split
 ·exact zd _ _
 ·omega
structure Bd where
 is : Bool
 op : Bool
 att : List UInt8
structure Rg where
 o : Nat
 lo : Bd
 hi : Bd
def endB (o : Nat) (x : Bd) : Bool := if x.is then isV o x.att else !x.op && decide (x.att.length = 0)
def isO (o : Nat) : Bool := decide (1 ≤ o ∧ o ≤ 5)
def mayB (r : Rg) : Bool := isO r.o && endB r.o r.lo && endB r.o r.hi
def wiB (o : Nat) (x : Bd) (b : List UInt8) (t : Int) : Bool := !x.is || decide (0 < t * cV o b x.att) || (decide (cV o b x.att = 0) && !x.op)
def inB (r : Rg) (b : List UInt8) : Bool := mayB r && isV r.o b && wiB r.o r.lo b 1 && wiB r.o r.hi b (-1)
def emptyB (r : Rg) : Bool := mayB r && r.lo.is && r.hi.is && (decide (0 < cV r.o r.lo.att r.hi.att) || (decide (cV r.o r.lo.att r.hi.att = 0) && (r.lo.op || r.hi.op)))
def yB (o : Nat) (x y : Bd) (t : Int) : Bool := y.is && (!x.is || decide (0 < t * cV o y.att x.att) || (decide (cV o y.att x.att = 0) && y.op && !x.op))
def tiB (o : Nat) (x y : Bd) (t : Int) : Bd := if yB o x y t then y else x
def okB (a b : Rg) : Bool := mayB a && mayB b && decide (a.o = b.o)
def noR : Rg := ⟨0, ⟨false, false, []⟩, ⟨false, false, []⟩⟩
def meetR (a b : Rg) : Rg := if okB a b then ⟨a.o, tiB a.o a.lo b.lo 1, tiB a.o a.hi b.hi (-1)⟩ else noR
def refInB (r : Rg) (b : List UInt8) : Bool := mayB r && isV r.o b && !(r.lo.is && (decide (cV r.o b r.lo.att < 0) || (decide (cV r.o b r.lo.att = 0) && r.lo.op))) &&
 (!r.hi.is || decide (cV r.o b r.hi.att < 0) || (decide (cV r.o b r.hi.att = 0) && !r.hi.op))
def sameBd (x y : Bd) : Bool := x.is == y.is && x.op == y.op && decide (x.att = y.att)
def sameR (a b : Rg) : Bool := decide (a.o = b.o) && sameBd a.lo b.lo && sameBd a.hi b.hi
theorem fG (o : Nat) (l m : List UInt8) : cV o l m = -1 ∨ cV o l m = 0 ∨ cV o l m = 1 := by have := C7 o l m; omega
theorem Ar (r : Rg) (b : List UInt8) : inB r b = refInB r b := by
 obtain ⟨o, ⟨li, lo, la⟩, ⟨hi, ho, ha⟩⟩ := r
 unfold inB refInB wiB
 rcases fG o b la with h1 | h1 | h1 <;> rcases fG o b ha with h2 | h2 | h2 <;> cases li <;> cases lo <;> cases hi <;> cases ho <;> simp [h1, h2]
theorem jZ (a : Option Addr) (n c : Nat) (l : List UInt8) (b : Option Addr) (m d : Nat) (k : List UInt8) (w : World) (h1 : Sl w a n c l) (h2 : Sl w b m d k) :
  Calls Tryz.prog 78 #[.slice a n c, .slice b m d] w fun e w' => e = .returned (.bool (decide (l = k))) ∧ w = w' := by
 have q1 := bv h1
 have q2 := bv h2
 have hE : ((⟨l.toArray⟩ : ByteArray) = ⟨k.toArray⟩) = (l = k) := propext ⟨fun h => by simpa using congrArg (fun s : ByteArray => s.data.toList) h, fun h => by rw [h]⟩
 by_cases h : l = k
 ·subst h
  go_enter Tryz.func78, Tryz.ntmps78
  go_wp2_with fail
  go_ret
  exact ⟨by simp, rfl⟩
 ·have h3 : ¬ ((⟨l.toArray⟩ : ByteArray) = ⟨k.toArray⟩) := by rw [hE]; exact h
  rw [decide_eq_false h]
  have H := I5 h
  clear hE h
  go_enter Tryz.func78, Tryz.ntmps78
  go_wp2_with fail
  go_ret
  exact ⟨by have := H.out; simp [this], rfl⟩
theorem ik (a : Option Addr) (n c : Nat) (l : List UInt8) (b : Option Addr) (d : Nat) (w : World) (h1 : Sl w a n c l) (h2 : Sl w b 1 d [45]) (hn : n ≤ 6000) :
  Calls Tryz.prog 59 #[.slice a n c, .slice b 1 d] w fun e w' => e = .returned (.bool (dash l)) ∧ w = w' := by
 have hl := h1.1
 cases l with
 | nil =>
  have ig : (n : Int) < 1 := by simp at hl; omega
  have gk : ¬ (1 : Int) ≤ n := by omega
  have Du : decide ((1 : Int) ≤ n) = false := by simpa using gk
  clear hl
  go_enter Tryz.func59, Tryz.ntmps59
  go_wp2_with fail
  go_ret
  exact ⟨rfl, rfl⟩
 | cons x t =>
  have ig : (1 : Int) ≤ n := by simp at hl; omega
  have na := h1.2.1
  have hs := h1.take 1 (by omega)
  obtain ⟨ad, rfl⟩ : ∃ ad, a = some ad := by
   rcases h1.2.2.2.2 with h | ⟨p, q, h, _⟩
   ·omega
   ·exact ⟨_, h⟩
  have hx : decide ([x] = [45]) = dash (x :: t) := by by_cases e : x = 45 <;> simp [dash, e]
  simp only [List.take_succ_cons, List.take_zero] at hs
  have HH := I5 hs
  clear hl hs
  go_enter Tryz.func59, Tryz.ntmps59
  go_wp2_with fail
  refine (jZ _ _ _ _ _ _ _ _ _ HH.out h2).mono ?_
  rintro e w' ⟨rfl, rfl⟩
  rw [hx]
  go_wp2_with fail
  go_ret
  exact ⟨rfl, rfl⟩
def CutP (l : List UInt8) (w : World) (e : Ending) (w' : World) : Prop :=
 ∃ a' n' c', e = .returned (.tuple #[.slice a' n' c', .bool (dash l)]) ∧ Sl w a' n' c' (undash l) ∧ w = w'
theorem qs (a : Option Addr) (n c : Nat) (l : List UInt8) (b : Option Addr) (d : Nat) (w : World) (h1 : Sl w a n c l) (h2 : Sl w b 1 d [45]) (hn : n ≤ 6000) :
  Calls Tryz.prog 163 #[.slice a n c, .slice b 1 d] w (CutP l w) := by
 have hl := I5 h1.1
 cases hd : dash l
 ·go_enter Tryz.func163, Tryz.ntmps163
  go_wp2_with fail
  refine (ik _ _ _ _ _ _ _ h1 h2 hn).mono ?_
  rintro e w' ⟨rfl, rfl⟩
  rw [hd]
  go_wp2_with fail
  go_ret2
  exact ⟨a, n, c, by rw [hd]; rfl, by unfold undash; rw [hd]; exact h1, rfl⟩
 ·have ig : 1 ≤ n := by
   rw [hl.out]
   cases l with
   | nil => cases hd
   | cons x t => simp
  have na := h1.2.1
  obtain ⟨p, q, rfl⟩ : ∃ p q, a = some ⟨p, q, none⟩ := by
   rcases h1.2.2.2.2 with h | ⟨p, q, h, _⟩
   ·omega
   ·exact ⟨p, q, h⟩
  have hs := I5 (h1.drop 1 ig)
  by_cases o7 : c = 1
  ·subst o7
   obtain rfl : n = 1 := by omega
   go_enter Tryz.func163, Tryz.ntmps163
   go_wp2_with fail
   refine (ik _ _ _ _ _ _ _ h1 h2 hn).mono ?_
   rintro e w' ⟨rfl, rfl⟩
   rw [hd]
   go_wp2_with fail
   go_ret2
   exact ⟨_, _, _, by rw [hd]; rfl, by unfold undash; rw [hd]; simpa using hs.out, rfl⟩
  ·go_enter Tryz.func163, Tryz.ntmps163
   go_wp2_with fail
   refine (ik _ _ _ _ _ _ _ h1 h2 hn).mono ?_
   rintro e w' ⟨rfl, rfl⟩
   rw [hd]
   go_wp2_with fail
   go_ret2
   exact ⟨_, _, _, by rw [hd]; rfl, by unfold undash; rw [hd]; have := hs.out; rw [if_neg o7] at this; exact this, rfl⟩
theorem lh (l : List UInt8) : Lib.bytesOf (l.map fun c => (c.toNat : Int)) = l := by
 unfold Lib.bytesOf
 rw [List.map_map]
 exact (List.map_congr_left (fun c _ => by simp)).trans (List.map_id l)
def idx (l : List UInt8) (c : UInt8) : Int := Lib.indexByte l c
theorem wP {w : World} {a : Option Addr} {n c : Nat} {l : List UInt8} (h : Sl w a n c l) (x : UInt8) :
  (Extern.BytealgIndexByte.indexByte #[.slice a n c, .int .u8 (x.toNat : Int)]).run Tryz.prog w = .ok (.int .i64 (idx l x)) w := by
 have hx : ((x.toNat : Int)).toNat.toUInt8 = x := by simp
 unfold idx
 have hl := h.1
 cases a with
 | none =>
  have hc := h.2.2.2.1 rfl
  have : l = [] := List.eq_nil_of_length_eq_zero (by have := h.2.1; omega)
  subst this
  exact Lib.run_indexByteNil w n c _
 | some ad =>
  rcases h.2.2.2.2 with h0 | ⟨b, o, e, hc⟩
  ·have : l = [] := List.eq_nil_of_length_eq_zero (by omega)
   subst this
   subst h0
   exact Lib.run_indexByteAt (P := Tryz.prog) w ad 0 c [] rfl (fun i hi => absurd hi (Nat.not_lt_zero _)) _
  ·obtain rfl := Option.some.inj e
   have hh := Lib.run_indexByteSlice (P := Tryz.prog) w b o n c (l.map fun c => (c.toNat : Int)) (by simp [hl]) (fun i hi => by rw [hc i hi]; simp [List.getD_eq_getElem?_getD, show i < l.length by omega]) (x.toNat : Int)
   rw [lh, hx] at hh
   exact hh
theorem m0 (a : Option Addr) (n c : Nat) (l : List UInt8) (x : UInt8) (w : World) (h1 : Sl w a n c l) :
  Calls Tryz.prog 196 #[.slice a n c, .int .u8 (x.toNat : Int)] w fun e w' => e = .returned (.int .i64 (idx l x)) ∧ w = w' := by
 go_enter Tryz.func196, Tryz.ntmps196
 go_wp2_with fail
 rw [run_callFunc_extern Tryz.func207 (by kernel_rfl) (by kernel_rfl) (by kernel_rfl) (e := Extern.BytealgIndexByte.indexByte) (by kernel_rfl), wP h1 x]
 simp only [Result.andThen]
 rw [Oper.upon_value]
 go_wp2_with fail
 go_ret
 exact ⟨rfl, rfl⟩
theorem jU (a : Option Addr) (n c : Nat) (l : List UInt8) (b o d : Nat) (x : UInt8) (w : World) (h1 : Sl w a n c l) (h2 : w.cell? ⟨b, o, none⟩ = some (.int .u8 (x.toNat : Int))) (_hd : 1 ≤ d) :
  Calls Tryz.prog 184 #[.slice a n c, .slice (some ⟨b, o, none⟩) 1 d] w fun e w' => e = .returned (.int .i64 (idx l x)) ∧ w = w' := by
 go_enter Tryz.func184, Tryz.ntmps184
 go_wp2_with fail
 refine (m0 _ _ _ _ x _ h1).mono ?_
 rintro e w' ⟨rfl, rfl⟩
 go_wp2_with fail
 go_ret
 exact ⟨rfl, rfl⟩
theorem Sl.drewN {w : World} {a : Option Addr} {len cap : Nat} {l : List UInt8} (h : Sl w a len cap l) (n : Nat) : Sl (w.drewN n) a len cap l := h
theorem fi (w : World) (n : Int) : (Extern.MathFloatBits.float64frombits #[.int .u64 n]).run Tryz.prog w = .ok (.float .f64 n.toNat) w := rfl
theorem pH (w : World) (n : Nat) : (Extern.MathFloatBits.float64bits #[.float .f64 n]).run Tryz.prog w = .ok (.int .u64 n) w := rfl
theorem yq (w : World) : Calls Tryz.prog 161 #[.int .i64 1] w fun e w' => e = .returned (.float .f64 9218868437227405312) ∧ w = w' := by
 go_enter Tryz.func161, Tryz.ntmps161
 go_wp2_with fail
 rw [run_callFunc_extern Tryz.func183 (by kernel_rfl) (by kernel_rfl) (by kernel_rfl) (e := Extern.MathFloatBits.float64frombits) (by kernel_rfl), fi]
 simp only [Result.andThen]
 rw [Oper.upon_value]
 go_wp2_with fail
 go_ret
 exact ⟨rfl, rfl⟩
theorem yu (w : World) : Calls Tryz.prog 161 #[.int .i64 (-1)] w fun e w' => e = .returned (.float .f64 18442240474082181120) ∧ w = w' := by
 go_enter Tryz.func161, Tryz.ntmps161
 go_wp2_with fail
 rw [run_callFunc_extern Tryz.func183 (by kernel_rfl) (by kernel_rfl) (by kernel_rfl) (e := Extern.MathFloatBits.float64frombits) (by kernel_rfl), fi]
 simp only [Result.andThen]
 rw [Oper.upon_value]
 go_wp2_with fail
 go_ret
 exact ⟨rfl, rfl⟩
theorem x7 (w : World) : Calls Tryz.prog 162 #[] w fun e w' => e = .returned (.float .f64 9221120237041090561) ∧ w = w' := by
 go_enter Tryz.func162, Tryz.ntmps162
 go_wp2_with fail
 rw [run_callFunc_extern Tryz.func183 (by kernel_rfl) (by kernel_rfl) (by kernel_rfl) (e := Extern.MathFloatBits.float64frombits) (by kernel_rfl), fi]
 simp only [Result.andThen]
 rw [Oper.upon_value]
 go_wp2_with fail
 go_ret
 exact ⟨rfl, rfl⟩
theorem nA (r : Nat) : BitVec.ofInt 64 (r : Int) = BitVec.ofNat 64 r := by simp
theorem py (n : Nat) (h : n < 18446744073709551616) : IntKind.u64.wrap (n : Int) = (n : Int) := IntWalk.u64_in _ ⟨by omega, by omega⟩
theorem sm (r : Nat) (h : r < 9223372036854775808) : bits .andNot .u64 (r : Int) 9223372036854775808 = (r : Int) := by
 have e : (BitVec.ofNat 64 r &&& ~~~ BitVec.ofNat 64 9223372036854775808).toNat = r := by
  rw [BitVec.toNat_and, BitVec.toNat_not, BitVec.toNat_ofNat, BitVec.toNat_ofNat]
  rw [Nat.mod_eq_of_lt (show r < 2 ^ 64 by simp only [Nat.reducePow]; omega)]
  rw [show 2 ^ 64 - 1 - 9223372036854775808 % 2 ^ 64 = 2 ^ 63 - 1 by decide, Nat.and_two_pow_sub_one_eq_mod]
  exact Nat.mod_eq_of_lt h
 show IntKind.u64.wrap ((BitVec.ofInt 64 (r : Int) &&& ~~~ BitVec.ofInt 64 9223372036854775808).toNat : Int) = _
 rw [nA, show (BitVec.ofInt 64 9223372036854775808) = BitVec.ofNat 64 9223372036854775808 from rfl, e]
 exact py r (by omega)
theorem vg (r : Nat) (h : r < 9223372036854775808) : bits .or .u64 (r : Int) 9223372036854775808 = ((r + 9223372036854775808 : Nat) : Int) := by
 have e : (BitVec.ofNat 64 r ||| BitVec.ofNat 64 9223372036854775808).toNat = r + 9223372036854775808 := by
  rw [BitVec.toNat_or, BitVec.toNat_ofNat, BitVec.toNat_ofNat]
  rw [Nat.mod_eq_of_lt (show r < 2 ^ 64 by simp only [Nat.reducePow]; omega)]
  rw [show 9223372036854775808 % 2 ^ 64 = 2 ^ 63 * 1 by decide, Nat.or_comm, ← Nat.two_pow_add_eq_or_of_lt (i := 63) h 1]
  omega
 show IntKind.u64.wrap ((BitVec.ofInt 64 (r : Int) ||| BitVec.ofInt 64 9223372036854775808).toNat : Int) = _
 rw [nA, show (BitVec.ofInt 64 9223372036854775808) = BitVec.ofNat 64 9223372036854775808 from rfl, e]
 exact py _ (by omega)
theorem vf : bits .and .u64 13830554455654793216 9223372036854775808 = 9223372036854775808 := by decide
theorem j6 (r : Nat) (hr : r ≤ 2047 * 2 ^ 52) (w : World) : Calls Tryz.prog 166 #[.float .f64 r, .float .f64 13830554455654793216] w fun e w' => e = .returned (.float .f64 (r + 2 ^ 63)) ∧ w = w' := by
 have hr' : r < 9223372036854775808 := by simp only [Nat.reducePow, Nat.reduceMul] at hr; omega
 have b1 := sm r hr'
 have b2 := vg r hr'
 have b3 := vf
 clear hr hr'
 go_enter Tryz.func166, Tryz.ntmps166
 go_wp2_with fail
 rw [run_callFunc_extern Tryz.func185 (by kernel_rfl) (by kernel_rfl) (by kernel_rfl) (e := Extern.MathFloatBits.float64bits) (by kernel_rfl), pH]
 simp only [Result.andThen]
 rw [Oper.upon_value]
 go_wp2_with fail
 rw [run_callFunc_extern Tryz.func185 (by kernel_rfl) (by kernel_rfl) (by kernel_rfl) (e := Extern.MathFloatBits.float64bits) (by kernel_rfl), pH]
 simp only [Result.andThen]
 rw [Oper.upon_value]
 go_wp2_with fail
 rw [run_callFunc_extern Tryz.func183 (by kernel_rfl) (by kernel_rfl) (by kernel_rfl) (e := Extern.MathFloatBits.float64frombits) (by kernel_rfl), fi]
 simp only [Result.andThen]
 rw [Oper.upon_value]
 go_wp2_with fail
 go_ret
 exact ⟨rfl, rfl⟩
def CutD (l : List UInt8) (w : World) (e : Ending) (w' : World) : Prop :=
 ∃ a1 n1 c1 a2 n2 c2, e = .returned (.tuple #[.slice a1 n1 c1, .slice a2 n2 c2, .bool (hasDot l)]) ∧ Sl w a1 n1 c1 (whole l) ∧ Sl w a2 n2 c2 (part l) ∧ Below w.heap.size w w'
theorem rZ (a : Option Addr) (n c : Nat) (l : List UInt8) (b d : Nat) (w : World) (h1 : Sl w a n c l) (h2 : w.cell? ⟨b, 0, none⟩ = some (.int .u8 46)) (hd : 1 ≤ d) (hn : n ≤ 6000) :
  Calls Tryz.prog 164 #[.slice a n c, .slice (some ⟨b, 0, none⟩) 1 d] w (CutD l w) := by
 have hl := I5 h1.1
 have hi := I5 (yv l)
 by_cases h : dot l < l.length
 ·obtain ⟨i, Cv⟩ : ∃ i, i = dot l := ⟨_, rfl⟩
  have hI := I5 (show idx l 46 = (i : Int) by rw [idx, hi.out, if_pos h, Cv])
  have jb : i < n := by rw [hl.out, Cv]; exact h
  have na := h1.2.1
  obtain ⟨p, q, rfl, _, _⟩ := h1.some (by omega)
  have hH := I5 (show hasDot l = true by simp [hasDot, h])
  have HW := I5 (show Sl w (some ⟨p, q, none⟩) i c (whole l) by unfold whole; rw [← Cv]; exact h1.take i (by omega))
  have HP := I5 (show Sl w (if c = i + 1 then some ⟨p, q, none⟩ else some ⟨p, q + (i + 1), none⟩) (n - (i + 1)) (c - (i + 1)) (part l) by unfold part; rw [← Cv]; exact h1.drop (i + 1) (by omega))
  have zF : IntKind.i64.wrap ((i : Int) + 1) = (i : Int) + 1 := IntWalk.i64_in _ ⟨by omega, by omega⟩
  have Il := I5 h1
  clear h Cv h1
  obtain ⟨a2, Gv⟩ : ∃ a2 : Option Addr, a2 = (if c = i + 1 then some ⟨p, q, none⟩ else some ⟨p, q + (i + 1), none⟩) := ⟨_, rfl⟩
  go_enter Tryz.func164, Tryz.ntmps164
  go_wp2_with fail
  refine (jU _ _ _ l _ _ _ 46 _ Il.out h2 hd).mono ?_
  rintro e w' ⟨rfl, rfl⟩
  rw [hI.out]
  go_upto_region 3 with fail
  refine aP w.heap.size w rfl (by kernel_rfl) (Below.refl _ _) ?_
  refine aa rfl (.slice (some ⟨p, q, none⟩) n c) (fun w hw => by simp [go_sem]) ?_
  refine aa rfl (.int .i64 i) (fun w hw => by simp [go_sem]) ?_
  refine aa rfl (.slice (some ⟨p, q, none⟩) i c) (fun w hw => by simp [go_sem]; intro hx; exact absurd hx (by omega)) ?_
  refine aa rfl (.slice (some ⟨p, q, none⟩) n c) (fun w hw => by simp [go_sem]) ?_
  refine aa rfl (.int .i64 i) (fun w hw => by simp [go_sem]) ?_
  refine aa rfl (.slice (some ⟨b, 0, none⟩) 1 d) (fun w hw => by simp [go_sem]) ?_
  refine aa rfl (.int .i64 1) (fun w hw => by simp [go_sem]) ?_
  refine aa rfl (.int .i64 ((i : Int) + 1)) (fun w hw => by simp [go_sem, zF]) ?_
  refine aa rfl (.slice a2 (n - (i + 1)) (c - (i + 1))) (fun w hw => by simp [go_sem]; rw [if_pos (by omega), Gv]) ?_
  refine aa rfl (.slice (some ⟨p, q, none⟩) i c) (fun w hw => by simp [go_sem]) ?_
  refine aa rfl (.slice a2 (n - (i + 1)) (c - (i + 1))) (fun w hw => by simp [go_sem]) ?_
  refine aa rfl (.bool true) (fun w hw => by simp [go_sem]) ?_
  intro w1 af
  go_wp2_with fail
  exact bodyPost_ret (v := .tuple #[.slice (some ⟨p, q, none⟩) i c, .slice a2 (n - (i + 1)) (c - (i + 1)), .bool true]) (by simp [results, Tryz.results164, go_sem]) rfl ⟨_, _, _, _, _, _, by rw [hH.out], HW.out, by rw [Gv]; exact HP.out, af⟩
 ·have hI := I5 (show idx l 46 = -1 by rw [idx, hi.out, if_neg h])
  have hH := I5 (show hasDot l = false by simp [hasDot, h])
  have HW := I5 (lJ l h)
  go_enter Tryz.func164, Tryz.ntmps164
  go_wp2_with fail
  refine (jU _ _ _ l _ _ _ 46 _ h1 h2 hd).mono ?_
  rintro e w' ⟨rfl, rfl⟩
  rw [hI.out]
  go_wp2_with fail
  exact bodyPost_ret (v := .tuple #[.slice a n c, .slice none 0 0, .bool false]) (by simp [results, Tryz.results164, go_sem]) rfl ⟨_, _, _, _, _, _, by rw [hH.out], by rw [HW.out.1]; exact h1, by rw [HW.out.2]; exact ⟨rfl, Nat.le_refl _, Nat.zero_le _, fun _ => rfl, .inl rfl⟩, Below.refl _ _⟩
end Go.Proofs.YtmmkaclmgnpplaaGreatDoor

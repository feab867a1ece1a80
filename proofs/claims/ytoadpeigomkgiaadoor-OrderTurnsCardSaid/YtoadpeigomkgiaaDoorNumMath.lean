/- Numbers out of digits: the program's way and the document's. -/
import Derived.Test.YtoadpeigomkgiaaDoorNumFlo
import Derived.Lib.Bytealg
namespace Go.Proofs.YtoadpeigomkgiaaDoor

def digs : Nat → List UInt8 → Option Nat
  | n, [] => some n
  | n, c :: t => if 48 ≤ c.toNat ∧ c.toNat ≤ 57 then digs (10 * n + (c.toNat - 48)) t else none

theorem digs_lt : ∀ (w : List UInt8) (n a m : Nat), n < 10 ^ a → digs n w = some m → m < 10 ^ (a + w.length)
  | [], n, a, m, h, e => by simp [digs] at e; subst e; simpa using h
  | c :: t, n, a, m, h, e => by
    unfold digs at e
    split at e
    · rename_i hc
      have := digs_lt t _ (a + 1) m (by rw [Nat.pow_succ]; omega) e
      rw [List.length_cons, show a + (t.length + 1) = a + 1 + t.length by omega]
      exact this
    · cases e
theorem digs_app : ∀ (w : List UInt8) (n : Nat) (t : List UInt8), digs n (w ++ t) = (digs n w).bind fun m => digs m t
  | [], n, t => by simp [digs]
  | c :: w, n, t => by
    simp only [List.cons_append, digs]
    split
    · exact digs_app w _ t
    · rfl

def dot (l : List UInt8) : Nat := l.findIdx (· == 46)
def whole (l : List UInt8) : List UInt8 := l.take (dot l)
def part (l : List UInt8) : List UInt8 := l.drop (dot l + 1)
def hasDot (l : List UInt8) : Bool := decide (dot l < l.length)

theorem dot_le (l : List UInt8) : dot l ≤ l.length := List.findIdx_le_length
theorem whole_no (l : List UInt8) : (46 : UInt8) ∉ whole l := by
  intro h
  unfold whole at h
  obtain ⟨i, hi, e⟩ := List.getElem_of_mem h
  have hi' : i < dot l := by simp at hi; omega
  have := List.not_of_lt_findIdx (p := (· == (46 : UInt8))) (xs := l) hi'
  simp only [List.getElem_take] at e
  rw [e] at this
  simp at this
theorem split_dot (l : List UInt8) (h : dot l < l.length) : l = whole l ++ 46 :: part l := by
  unfold whole part
  have h1 := List.findIdx_getElem (p := (· == (46 : UInt8))) (xs := l) (w := h)
  have h2 : l[dot l]'h = 46 := eq_of_beq h1
  rw [← h2, ← List.drop_eq_getElem_cons h, List.take_append_drop]
theorem split_no (l : List UInt8) (h : ¬ dot l < l.length) : whole l = l ∧ part l = [] := by
  have := dot_le l
  unfold whole part
  exact ⟨List.take_of_length_le (by omega), List.drop_of_length_le (by omega)⟩
theorem dot_cons (c : UInt8) (t : List UInt8) : dot (c :: t) = if c = 46 then 0 else dot t + 1 := by
  unfold dot
  rw [List.findIdx_cons]
  by_cases h : c = 46
  · simp [h]
  · have : (c == 46) = false := by simp [h]
    rw [this, if_neg h]; rfl
theorem idx_dot (l : List UInt8) : Lib.indexByte l 46 = if dot l < l.length then (dot l : Int) else -1 := by
  induction l with
  | nil => rfl
  | cons c t ih =>
    unfold Lib.indexByte
    rw [dot_cons, ih, List.length_cons]
    generalize dot t = d
    generalize t.length = m
    by_cases hc : c = 46
    · simp [hc]
    · have hb : (c == 46) = false := by simp [hc]
      rw [hb, if_neg hc]
      by_cases h : d < m
      · rw [if_pos h, if_pos (show d + 1 < m + 1 by omega)]
        have : ((d : Int) == -1) = false := by simp
        rw [this]; simp
      · rw [if_neg h, if_neg (show ¬ d + 1 < m + 1 by omega)]; simp

/-- the number and how many digits stand behind the stop -/
def numP (l : List UInt8) : Option (Nat × Nat) :=
  if 15 < (whole l).length + (part l).length then none else
  match digs 0 (whole l) with
  | none => none
  | some n =>
    if (whole l).length = 0 then none else
    if hasDot l then
      match digs n (part l) with
      | none => none
      | some m => if (part l).length = 0 then none else some (m, (part l).length)
    else some (n, 0)

/-- the document's way through the signs -/
def docR : Bool → Nat → Nat → Nat → Nat → List UInt8 → Option (Nat × Nat × Nat)
  | _, n, sc, c, _, [] => some (n, sc, c)
  | f, n, sc, c, st, x :: t =>
    if x = 46 then (if 0 < st ∨ f = true ∨ t.length = 0 then none else docR false n sc c 1 t)
    else if x.toNat < 48 ∨ 57 < x.toNat ∨ c = 15 then none
    else docR false (10 * n + (x.toNat - 48)) (sc + st) (c + 1) st t
def docN (l : List UInt8) : Option (Nat × Nat) :=
  match docR true 0 0 0 0 l with
  | none => none
  | some (n, sc, c) => if c = 0 then none else some (n, sc)

theorem docR_one : ∀ (w : List UInt8) (f : Bool) (n sc c st : Nat), (st = 1 ∨ (46 : UInt8) ∉ w) → c ≤ 15 →
    docR f n sc c st w = if c + w.length ≤ 15 then (digs n w).map fun m => (m, sc + st * w.length, c + w.length) else none
  | [], f, n, sc, c, st, _, hc => by simp [docR, digs, hc]
  | x :: t, f, n, sc, c, st, h, hc => by
    unfold docR digs
    by_cases hx : x = 46
    · have hst : st = 1 := by
        rcases h with h | h
        · exact h
        · exact absurd (by rw [hx]; exact List.mem_cons_self ..) h
      rw [if_pos hx, if_pos (.inl (by omega))]
      have : ¬ (48 ≤ x.toNat ∧ x.toNat ≤ 57) := by rw [hx]; decide
      rw [if_neg this]; simp
    · rw [if_neg hx]
      by_cases hd : 48 ≤ x.toNat ∧ x.toNat ≤ 57
      · rw [if_pos hd]
        by_cases hc15 : c = 15
        · rw [if_pos (.inr (.inr hc15)), if_neg (by simp; omega)]
        · rw [if_neg (by omega), docR_one t false _ _ _ st (h.imp id fun h => fun h' => h (List.mem_cons_of_mem _ h')) (by omega)]
          rw [List.length_cons, show c + 1 + t.length = c + (t.length + 1) by omega]
          have e : sc + st + st * t.length = sc + st * (t.length + 1) := by rw [Nat.mul_add]; omega
          rw [e]
      · rw [if_neg hd, if_pos (by omega)]; simp

theorem docR_two : ∀ (w : List UInt8) (f : Bool) (n sc c : Nat) (t : List UInt8), (46 : UInt8) ∉ w → c ≤ 15 →
    docR f n sc c 0 (w ++ 46 :: t) = if c + w.length ≤ 15 then (match digs n w with
      | none => none
      | some m => if (f = true ∧ w.length = 0) ∨ t.length = 0 then none else docR false m sc (c + w.length) 1 t) else none
  | [], f, n, sc, c, t, _, hc => by
    rw [List.nil_append, docR, if_pos (show (46 : UInt8) = 46 from rfl)]
    rw [show c + ([] : List UInt8).length = c from rfl, if_pos hc]
    show _ = if f = true ∧ ([] : List UInt8).length = 0 ∨ t.length = 0 then none else docR false n sc c 1 t
    by_cases h : f = true ∨ t.length = 0
    · rw [if_pos (.inr h), if_pos (h.imp (fun h => ⟨h, rfl⟩) id)]
    · rw [if_neg (fun h' => h (h'.elim (fun h => absurd h (by omega)) id)), if_neg (fun h' => h (h'.imp And.left id))]
  | x :: w, f, n, sc, c, t, h, hc => by
    have hx : x ≠ 46 := fun e => h (by rw [e]; exact List.mem_cons_self ..)
    simp only [List.cons_append, docR, digs]
    rw [if_neg hx]
    by_cases hd : 48 ≤ x.toNat ∧ x.toNat ≤ 57
    · rw [if_pos hd]
      by_cases hc15 : c = 15
      · rw [if_pos (.inr (.inr hc15)), if_neg (by simp; omega)]
      · rw [if_neg (by omega), docR_two w false _ _ _ t (fun h' => h (List.mem_cons_of_mem _ h')) (by omega)]
        rw [List.length_cons, show c + 1 + w.length = c + (w.length + 1) by omega]
        simp
    · rw [if_neg hd, if_pos (by omega)]; simp

theorem docN_eq (l : List UInt8) : docN l = numP l := by
  unfold docN numP
  by_cases hd : dot l < l.length
  · have e := split_dot l hd
    have hno := whole_no l
    have hh : hasDot l = true := by simp [hasDot, hd]
    rw [hh]
    obtain ⟨w, hw⟩ : ∃ w, w = whole l := ⟨_, rfl⟩
    obtain ⟨p, hp⟩ : ∃ p, p = part l := ⟨_, rfl⟩
    rw [← hw, ← hp] at e
    rw [← hw] at hno
    rw [← hw, ← hp, e, docR_two w true 0 0 0 p hno (by omega)]
    simp only [Nat.zero_add]
    cases hg : digs 0 w with
    | none => by_cases h1 : w.length ≤ 15 <;> by_cases h2 : 15 < w.length + p.length <;> simp [h1, h2]
    | some m =>
      simp only [true_and, if_true]
      by_cases h1 : w.length ≤ 15
      · rw [if_pos h1]
        by_cases h2 : w.length = 0 ∨ p.length = 0
        · rw [if_pos h2]
          by_cases h3 : 15 < w.length + p.length
          · rw [if_pos h3]
          · rw [if_neg h3]
            rcases h2 with h | h
            · simp [h]
            · by_cases h4 : w.length = 0
              · simp [h4]
              · rw [if_neg h4]
                cases digs m p <;> simp [h]
        · rw [if_neg h2, docR_one p false m 0 _ 1 (.inl rfl) h1]
          by_cases h3 : 15 < w.length + p.length
          · rw [if_pos h3, if_neg (by omega)]
          · rw [if_neg h3, if_pos (by omega), if_neg (by omega)]
            cases digs m p with
            | none => simp
            | some q =>
              simp only [Option.map_some]
              rw [if_neg (by omega), if_neg (by omega)]
              simp
      · rw [if_neg h1, if_pos (by omega)]
  · obtain ⟨e1, e2⟩ := split_no l hd
    have hh : hasDot l = false := by simp [hasDot, hd]
    have hno := whole_no l
    rw [e1] at hno
    rw [hh, e1, e2, docR_one l true 0 0 0 0 (.inr hno) (by omega)]
    simp only [Nat.zero_add, List.length_nil, Nat.add_zero, Nat.zero_mul]
    by_cases h1 : l.length ≤ 15
    · rw [if_pos h1, if_neg (by omega)]
      cases digs 0 l with
      | none => simp
      | some m => simp
    · rw [if_neg h1, if_pos (by omega)]

theorem numP_bd (l : List UInt8) (n k : Nat) (h : numP l = some (n, k)) : n < 10 ^ 15 ∧ k ≤ 15 := by
  unfold numP at h
  split at h
  · cases h
  · rename_i h15
    cases hg : digs 0 (whole l) with
    | none => rw [hg] at h; cases h
    | some m =>
      rw [hg] at h
      have hm := digs_lt _ _ 0 _ (by simp) hg
      simp only at h
      split at h
      · cases h
      · split at h
        · cases hq : digs m (part l) with
          | none => rw [hq] at h; cases h
          | some q =>
            rw [hq] at h
            simp only at h
            split at h
            · cases h
            · obtain ⟨rfl, rfl⟩ : q = n ∧ (part l).length = k := by simpa using h
              have hq := digs_lt _ _ _ _ hm hq
              exact ⟨Nat.lt_of_lt_of_le hq (Nat.pow_le_pow_right (by omega) (by omega)), by omega⟩
        · obtain ⟨rfl, rfl⟩ : m = n ∧ 0 = k := by simpa using h
          exact ⟨Nat.lt_of_lt_of_le hm (Nat.pow_le_pow_right (by omega) (by omega)), by omega⟩

def dash (l : List UInt8) : Bool := l.head? == some 45
def undash (l : List UInt8) : List UInt8 := if dash l then l.drop 1 else l
def sInf : List UInt8 := [105, 110, 102]
def sNinf : List UInt8 := [45, 105, 110, 102]
def sNan : List UInt8 := [110, 97, 110]
def signed (s : Bool) (b : Nat) : Nat := if s then b + 2 ^ 63 else b
def getO (l : List UInt8) : Option Nat :=
  if l = sInf then some 9218868437227405312 else if l = sNinf then some 18442240474082181120 else if l = sNan then some 9221120237041090561
  else (numP (undash l)).map fun p => signed (dash l) (quoB p.1 p.2)
end Go.Proofs.YtoadpeigomkgiaaDoor

/- orders: what is reckoned, in plain words. -/
import Derived.Test.YtoadpeigomkgiaaDoorNumMath
import Derived.Test.YtoadpeigomkgiaaDoorDateMath
namespace Go.Proofs.YtoadpeigomkgiaaDoor
open Go.RowKit

theorem u8_lt_irrefl (a : UInt8) : (a < a) = False := by simp
theorem bl_irrefl : ∀ l : List UInt8, Op.bytesLess l l = false
  | [] => rfl
  | a :: l => by simp [Op.bytesLess, bl_irrefl l]
theorem bl_asymm : ∀ l m : List UInt8, Op.bytesLess l m = true → Op.bytesLess m l = false
  | [], [], h => by simp [Op.bytesLess] at h
  | [], _ :: _, _ => by simp [Op.bytesLess]
  | _ :: _, [], h => by simp [Op.bytesLess] at h
  | a :: l, b :: m, h => by
    simp only [Op.bytesLess, Bool.or_eq_true, decide_eq_true_eq, Bool.and_eq_true, beq_iff_eq] at h
    simp only [Op.bytesLess, Bool.or_eq_false_iff, decide_eq_false_iff_not, Bool.and_eq_false_imp, beq_iff_eq]
    rcases h with h | ⟨rfl, h⟩
    · exact ⟨UInt8.lt_asymm h, fun e => absurd (e ▸ h) (UInt8.lt_irrefl _)⟩
    · exact ⟨UInt8.lt_irrefl _, fun _ => bl_asymm l m h⟩
theorem bl_total : ∀ l m : List UInt8, Op.bytesLess l m = false → Op.bytesLess m l = false → l = m
  | [], [], _, _ => rfl
  | [], _ :: _, h, _ => by simp [Op.bytesLess] at h
  | _ :: _, [], _, h => by simp [Op.bytesLess] at h
  | a :: l, b :: m, h, h' => by
    simp only [Op.bytesLess, Bool.or_eq_false_iff, decide_eq_false_iff_not, Bool.and_eq_false_imp, beq_iff_eq] at h h'
    have e : a = b := UInt8.le_antisymm (UInt8.not_lt.1 h'.1) (UInt8.not_lt.1 h.1)
    subst e
    rw [bl_total l m (h.2 rfl) (h'.2 rfl)]
theorem bl_trans : ∀ l m n : List UInt8, Op.bytesLess l m = true → Op.bytesLess m n = true → Op.bytesLess l n = true
  | [], [], _, h, _ => by simp [Op.bytesLess] at h
  | _, _ :: _, [], _, h => by simp [Op.bytesLess] at h
  | [], _ :: _, _ :: _, _, _ => by simp [Op.bytesLess]
  | _ :: _, [], _, h, _ => by simp [Op.bytesLess] at h
  | a :: l, b :: m, c :: n, h, h' => by
    simp only [Op.bytesLess, Bool.or_eq_true, decide_eq_true_eq, Bool.and_eq_true, beq_iff_eq] at h h' ⊢
    rcases h with h | ⟨rfl, h⟩ <;> rcases h' with h' | ⟨rfl, h'⟩
    · exact .inl (UInt8.lt_trans h h')
    · exact .inl h
    · exact .inl h'
    · exact .inr ⟨rfl, bl_trans l m n h h'⟩

/-- how bytes stand -/
def bcmp (l m : List UInt8) : Int := if Op.bytesLess l m then -1 else if Op.bytesLess m l then 1 else 0
/-- how a pair stands: the number first, then the bytes -/
def cmpK (x y : Int × List UInt8) : Int := if x.1 < y.1 then -1 else if y.1 < x.1 then 1 else bcmp x.2 y.2
def leK (x y : Int × List UInt8) : Prop := x.1 < y.1 ∨ (x.1 = y.1 ∧ Op.bytesLess y.2 x.2 = false)

theorem leK_iff (x y : Int × List UInt8) : cmpK x y ≤ 0 ↔ leK x y := by
  unfold cmpK leK bcmp
  by_cases h1 : x.1 < y.1
  · simp [h1]
  · by_cases h2 : y.1 < x.1
    · simp [h1, h2]; omega
    · have e : x.1 = y.1 := by omega
      rw [if_neg h1, if_neg h2]
      cases h3 : Op.bytesLess x.2 y.2
      · cases h4 : Op.bytesLess y.2 x.2 <;> simp [e]
      · simp [e, bl_asymm _ _ h3]
theorem cmpK_neg (x y : Int × List UInt8) : cmpK y x = -cmpK x y := by
  unfold cmpK bcmp
  by_cases h1 : x.1 < y.1
  · rw [if_neg (by omega), if_pos h1, if_pos h1]; rfl
  · by_cases h2 : y.1 < x.1
    · rw [if_pos h2, if_neg h1, if_pos h2]
    · rw [if_neg h2, if_neg h1, if_neg h1, if_neg h2]
      cases h3 : Op.bytesLess x.2 y.2
      · cases h4 : Op.bytesLess y.2 x.2 <;> simp
      · simp [bl_asymm _ _ h3]
theorem leK_trans (x y z : Int × List UInt8) (h : leK x y) (h' : leK y z) : leK x z := by
  unfold leK at *
  rcases h with h | ⟨e, h⟩ <;> rcases h' with h' | ⟨e', h'⟩
  · exact .inl (by omega)
  · exact .inl (by omega)
  · exact .inl (by omega)
  · refine .inr ⟨by omega, ?_⟩
    cases hc : Op.bytesLess z.2 x.2
    · rfl
    · exfalso
      cases hb : Op.bytesLess y.2 z.2
      · rw [bl_total _ _ hb h', hc] at h; cases h
      · rw [bl_trans _ _ _ hb hc] at h; cases h
theorem cmpK_trans (x y z : Int × List UInt8) (h : cmpK x y ≤ 0) (h' : cmpK y z ≤ 0) : cmpK x z ≤ 0 :=
  (leK_iff _ _).2 (leK_trans _ _ _ ((leK_iff _ _).1 h) ((leK_iff _ _).1 h'))
theorem cmpK_bd (x y : Int × List UInt8) : -1 ≤ cmpK x y ∧ cmpK x y ≤ 1 := by
  unfold cmpK bcmp
  repeat' split
  all_goals omega
theorem cmpK_self (x : Int × List UInt8) : cmpK x x = 0 := by have := cmpK_neg x x; omega

/-- without noughts ahead -/
def strip : List UInt8 → List UInt8
  | [] => []
  | a :: l => if a = 0 then strip l else a :: l

/-- an order's value of bytes -/
def ordV (o : Nat) (l : List UInt8) : Option (Int × List UInt8) :=
  if o = 1 then some (0, l)
  else if o = 2 then (getO l).bind fun x => if isNan x then none else some (key x, [])
  else if o = 3 then (if clockOk l then some (clockV l, []) else none)
  else if o = 4 then some (((strip l).length : Nat), strip l)
  else if o = 5 then (if dateOk l then some (dateV l, []) else none)
  else none
def isV (o : Nat) (l : List UInt8) : Bool := (ordV o l).isSome
def cV (o : Nat) (l m : List UInt8) : Int := match ordV o l, ordV o m with
  | some x, some y => cmpK x y
  | _, _ => 0
def okV (o : Nat) (l m : List UInt8) : Bool := isV o l && isV o m
theorem cV_no (o : Nat) (l m : List UInt8) (h : okV o l m = false) : cV o l m = 0 := by
  unfold okV isV at h; unfold cV
  cases h1 : ordV o l with
  | none => rfl
  | some x => cases h2 : ordV o m with
    | none => rfl
    | some y => simp [h1, h2] at h
theorem cV_neg (o : Nat) (l m : List UInt8) : cV o m l = - cV o l m := by
  unfold cV
  cases h1 : ordV o l <;> cases h2 : ordV o m <;> first | rfl | exact cmpK_neg _ _
theorem cV_self (o : Nat) (l : List UInt8) : cV o l l = 0 := by have := cV_neg o l l; omega
theorem cV_bd (o : Nat) (l m : List UInt8) : -1 ≤ cV o l m ∧ cV o l m ≤ 1 := by
  unfold cV
  split
  · exact cmpK_bd _ _
  · omega
theorem cV_trans (o : Nat) (l m n : List UInt8) (hm : isV o m = true) (h : cV o l m ≤ 0) (h' : cV o m n ≤ 0) (hl : isV o l = true) (hn : isV o n = true) : cV o l n ≤ 0 := by
  unfold isV at *
  obtain ⟨x, hx⟩ := Option.isSome_iff_exists.1 hl
  obtain ⟨y, hy⟩ := Option.isSome_iff_exists.1 hm
  obtain ⟨z, hz⟩ := Option.isSome_iff_exists.1 hn
  unfold cV at *
  rw [hx, hy] at h; rw [hy, hz] at h'; rw [hx, hz]
  exact cmpK_trans _ _ _ h h'
end Go.Proofs.YtoadpeigomkgiaaDoor

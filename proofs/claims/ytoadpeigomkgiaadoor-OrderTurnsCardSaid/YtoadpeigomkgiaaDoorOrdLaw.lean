/- ranges: the laws, in plain words. -/
import Derived.Test.YtoadpeigomkgiaaDoorOrdMath
namespace Go.Proofs.YtoadpeigomkgiaaDoor

structure Bd where
  is : Bool
  op : Bool
  att : List UInt8
structure Rg where
  o : Nat
  lo : Bd
  hi : Bd

def endB (o : Nat) (x : Bd) : Bool := if x.is then isV o x.att else !x.op && decide (x.att.length = 0)
def isO (o : Nat) : Bool := decide (1 ≤ o ∧ o ≤ 5)
def mayB (r : Rg) : Bool := isO r.o && endB r.o r.lo && endB r.o r.hi
def wiB (o : Nat) (x : Bd) (b : List UInt8) (t : Int) : Bool := !x.is || decide (0 < t * cV o b x.att) || (decide (cV o b x.att = 0) && !x.op)
def inB (r : Rg) (b : List UInt8) : Bool := mayB r && isV r.o b && wiB r.o r.lo b 1 && wiB r.o r.hi b (-1)
def emptyB (r : Rg) : Bool := mayB r && r.lo.is && r.hi.is && (decide (0 < cV r.o r.lo.att r.hi.att) || (decide (cV r.o r.lo.att r.hi.att = 0) && (r.lo.op || r.hi.op)))
/-- tighter: is it the second one? -/
def yB (o : Nat) (x y : Bd) (t : Int) : Bool := y.is && (!x.is || decide (0 < t * cV o y.att x.att) || (decide (cV o y.att x.att = 0) && y.op && !x.op))
def tiB (o : Nat) (x y : Bd) (t : Int) : Bd := if yB o x y t then y else x
def insB (o : Nat) (x y : Bd) (t : Int) : Bool := !y.is || (x.is && (decide (0 < t * cV o x.att y.att) || (decide (cV o x.att y.att = 0) && (x.op || !y.op))))
def okB (a b : Rg) : Bool := mayB a && mayB b && decide (a.o = b.o)
def withinB (a b : Rg) : Bool := okB a b && (emptyB a || insB a.o a.lo b.lo 1 && insB a.o a.hi b.hi (-1))
def noR : Rg := ⟨0, ⟨false, false, []⟩, ⟨false, false, []⟩⟩
def meetR (a b : Rg) : Rg := if okB a b then ⟨a.o, tiB a.o a.lo b.lo 1, tiB a.o a.hi b.hi (-1)⟩ else noR
/-- the document's -/
def refInB (r : Rg) (b : List UInt8) : Bool := mayB r && isV r.o b && !(r.lo.is && (decide (cV r.o b r.lo.att < 0) || (decide (cV r.o b r.lo.att = 0) && r.lo.op))) &&
  (!r.hi.is || decide (cV r.o b r.hi.att < 0) || (decide (cV r.o b r.hi.att = 0) && !r.hi.op))
def refYB (o : Nat) (x y : Bd) (lower : Bool) : Bool := !x.is || (y.is && (if cV o x.att y.att = 0 then y.op && !x.op else !(decide (0 < cV o x.att y.att) == lower)))
def refEnd (o : Nat) (x y : Bd) (lower : Bool) : Bd := if refYB o x y lower then y else x
def refMeet (a b : Rg) : Rg := if okB a b then ⟨a.o, refEnd a.o a.lo b.lo true, refEnd a.o a.hi b.hi false⟩ else noR
def sameBd (x y : Bd) : Bool := x.is == y.is && x.op == y.op && decide (x.att = y.att)
def sameR (a b : Rg) : Bool := decide (a.o = b.o) && sameBd a.lo b.lo && sameBd a.hi b.hi

theorem cV_three (o : Nat) (l m : List UInt8) : cV o l m = -1 ∨ cV o l m = 0 ∨ cV o l m = 1 := by have := cV_bd o l m; omega

/-- the order of three values -/
theorem tri (o : Nat) (b x y : List UInt8) (hb : isV o b = true) (hx : isV o x = true) (hy : isV o y = true) :
    (cV o b y ≤ 0 → cV o y x ≤ 0 → cV o b x ≤ 0) ∧ (0 ≤ cV o y x → 0 ≤ cV o b y → 0 ≤ cV o b x) ∧ (cV o b x ≤ 0 → 0 ≤ cV o y x → cV o b y ≤ 0) ∧
    (cV o y x ≤ 0 → 0 ≤ cV o b x → 0 ≤ cV o b y) ∧ (0 ≤ cV o b y → cV o b x ≤ 0 → cV o y x ≤ 0) ∧ (0 ≤ cV o b x → cV o b y ≤ 0 → 0 ≤ cV o y x) := by
  have a1 := cV_trans o b y x hy; have a2 := cV_trans o x y b hy; have a3 := cV_trans o b x y hx; have a4 := cV_trans o y x b hx
  have a5 := cV_trans o y b x hb; have a6 := cV_trans o x b y hb
  have n1 := cV_neg o b y; have n2 := cV_neg o y x; have n3 := cV_neg o b x
  refine ⟨fun h h' => a1 h h' hb hx, fun h h' => ?_, fun h h' => a3 h (by omega) hb hy, fun h h' => ?_, fun h h' => a5 (by omega) h' hy hx, fun h h' => ?_⟩
  · have := a2 (by omega) (by omega) hx hb; omega
  · have := a4 h (by omega) hy hb; omega
  · have := a6 (by omega) h' hx hy; omega

theorem tight_in (o : Nat) (x y : Bd) (b : List UInt8) (t : Int) (ht : t = 1 ∨ t = -1) (hx : endB o x = true) (hy : endB o y = true) (hb : isV o b = true) :
    wiB o (tiB o x y t) b t = (wiB o x b t && wiB o y b t) := by
  obtain ⟨xi, xo, xa⟩ := x
  obtain ⟨yi, yo, ya⟩ := y
  unfold tiB yB wiB endB at *
  cases xi <;> cases yi <;> simp only [Bool.not_true, Bool.not_false, Bool.false_and, Bool.true_and, Bool.true_or, Bool.false_or, Bool.false_eq_true, if_false, if_true, Bool.and_true] at hx hy ⊢
  have T := tri o b xa ya hb hx hy
  rcases cV_three o b xa with h1 | h1 | h1 <;> rcases cV_three o b ya with h2 | h2 | h2 <;> rcases cV_three o ya xa with h3 | h3 | h3 <;> rw [h1, h2, h3] at T <;> (first | (exfalso; omega) | (rcases ht with rfl | rfl <;> cases xo <;> cases yo <;> simp [h1, h2, h3]))

theorem end_tight (o : Nat) (x y : Bd) (t : Int) (hx : endB o x = true) (hy : endB o y = true) : endB o (tiB o x y t) = true := by
  unfold tiB; split <;> assumption

theorem in_ref (r : Rg) (b : List UInt8) : inB r b = refInB r b := by
  obtain ⟨o, ⟨li, lo, la⟩, ⟨hi, ho, ha⟩⟩ := r
  unfold inB refInB wiB
  rcases cV_three o b la with h1 | h1 | h1 <;> rcases cV_three o b ha with h2 | h2 | h2 <;> cases li <;> cases lo <;> cases hi <;> cases ho <;> simp [h1, h2]

theorem empty_in (r : Rg) (b : List UInt8) (h : emptyB r = true) : inB r b = false := by
  obtain ⟨o, ⟨li, lo, la⟩, ⟨hi, ho, ha⟩⟩ := r
  unfold emptyB at h
  simp only [Bool.and_eq_true, Bool.or_eq_true, decide_eq_true_eq] at h
  obtain ⟨⟨⟨hm, rfl⟩, rfl⟩, h⟩ := h
  unfold mayB endB at hm
  simp only [if_true, Bool.and_eq_true] at hm
  unfold inB wiB
  cases hb : isV o b
  · simp
  · have T := tri o b la ha hb hm.1.2 hm.2
    have n := cV_neg o la ha
    rcases cV_three o b la with h1 | h1 | h1 <;> rcases cV_three o b ha with h2 | h2 | h2 <;> rw [h1, h2] at T <;> simp [h1, h2] <;> (first | (exfalso; omega) | (intros; rcases h with h | ⟨h, h'⟩ <;> (first | (exfalso; omega) | (rcases h' with h' | h' <;> simp_all))))

theorem ref_same (o : Nat) (x y : Bd) (t : Int) (lower : Bool) (ht : (t = 1 ∧ lower = true) ∨ (t = -1 ∧ lower = false)) (hx : endB o x = true) (hy : endB o y = true) :
    sameBd (tiB o x y t) (refEnd o x y lower) = true := by
  obtain ⟨xi, xo, xa⟩ := x
  obtain ⟨yi, yo, ya⟩ := y
  have n := cV_neg o xa ya
  unfold tiB yB refEnd refYB endB at *
  cases xi <;> cases yi <;> simp only [Bool.not_true, Bool.not_false, Bool.false_and, Bool.true_and, Bool.true_or, Bool.false_or, Bool.false_eq_true, if_false, if_true, Bool.and_true] at hx hy ⊢ <;>
    (try simp only [Bool.and_eq_true, Bool.not_eq_true', decide_eq_true_eq] at hx hy)
  · obtain ⟨rfl, hx⟩ := hx; obtain ⟨rfl, hy⟩ := hy
    have e1 : xa = [] := List.eq_nil_of_length_eq_zero hx
    have e2 : ya = [] := List.eq_nil_of_length_eq_zero hy
    subst e1; subst e2
    simp [sameBd]
  · simp [sameBd]
  · simp [sameBd]
  · rcases cV_three o xa ya with h1 | h1 | h1 <;> rw [h1] at n <;> rcases ht with ⟨rfl, rfl⟩ | ⟨rfl, rfl⟩ <;> cases xo <;> cases yo <;> simp [n, h1, sameBd]

theorem ins_same (o : Nat) (x y : Bd) (t : Int) (lower : Bool) (ht : (t = 1 ∧ lower = true) ∨ (t = -1 ∧ lower = false)) (hx : endB o x = true) (hy : endB o y = true) :
    insB o x y t = sameBd (refEnd o x y lower) x := by
  obtain ⟨xi, xo, xa⟩ := x
  obtain ⟨yi, yo, ya⟩ := y
  have hne : cV o xa ya ≠ 0 → decide (ya = xa) = false := fun h => by
    rw [decide_eq_false]; rintro rfl; exact h (cV_self o _)
  unfold insB refEnd refYB endB at *
  cases xi <;> cases yi <;> simp only [Bool.not_true, Bool.not_false, Bool.false_and, Bool.true_and, Bool.true_or, Bool.false_or, Bool.false_eq_true, if_false, if_true] at hx hy ⊢ <;>
    (try simp only [Bool.and_eq_true, Bool.not_eq_true', decide_eq_true_eq] at hx hy)
  · obtain ⟨rfl, hx⟩ := hx; obtain ⟨rfl, hy⟩ := hy
    have e1 : xa = [] := List.eq_nil_of_length_eq_zero hx
    have e2 : ya = [] := List.eq_nil_of_length_eq_zero hy
    subst e1; subst e2
    simp [sameBd]
  · simp [sameBd]
  · simp [sameBd]
  · rcases cV_three o xa ya with h1 | h1 | h1 <;> rw [h1] at hne <;> rcases ht with ⟨rfl, rfl⟩ | ⟨rfl, rfl⟩ <;> cases xo <;> cases yo <;> simp [h1, sameBd] <;> simpa using hne

theorem ins_wi (o : Nat) (x y : Bd) (b : List UInt8) (t : Int) (ht : t = 1 ∨ t = -1) (hx : endB o x = true) (hy : endB o y = true) (hb : isV o b = true) (h : insB o x y t = true) (hw : wiB o x b t = true) :
    wiB o y b t = true := by
  obtain ⟨xi, xo, xa⟩ := x
  obtain ⟨yi, yo, ya⟩ := y
  unfold insB wiB endB at *
  cases xi <;> cases yi <;> simp only [Bool.not_true, Bool.not_false, Bool.false_and, Bool.true_and, Bool.true_or, Bool.false_or, Bool.false_eq_true, if_false, if_true] at hx hy h hw ⊢
  have T := tri o b xa ya hb hx hy
  have n := cV_neg o ya xa
  rcases cV_three o b xa with h1 | h1 | h1 <;> rcases cV_three o b ya with h2 | h2 | h2 <;> rcases cV_three o ya xa with h3 | h3 | h3 <;> rw [h1, h2, h3] at T <;> rw [h3] at n <;> (first | (exfalso; omega) | (rcases ht with rfl | rfl <;> cases xo <;> cases yo <;> simp [h1, h2, n] at h hw ⊢))

theorem ins_self (o : Nat) (x : Bd) (t : Int) : insB o x x t = true := by
  unfold insB
  rw [cV_self]
  cases x.is <;> cases x.op <;> simp

theorem ti_comm (o : Nat) (x y : Bd) (t : Int) (ht : t = 1 ∨ t = -1) (hx : endB o x = true) (hy : endB o y = true) :
    (tiB o x y t).is = (tiB o y x t).is ∧ (tiB o x y t).op = (tiB o y x t).op ∧ ((tiB o x y t).is = true → cV o (tiB o x y t).att (tiB o y x t).att = 0) := by
  obtain ⟨xi, xo, xa⟩ := x
  obtain ⟨yi, yo, ya⟩ := y
  have n := cV_neg o xa ya
  have s1 := cV_self o xa
  have s2 := cV_self o ya
  unfold tiB yB endB at *
  cases xi <;> cases yi <;> simp only [Bool.not_true, Bool.not_false, Bool.false_and, Bool.true_and, Bool.true_or, Bool.false_or, Bool.false_eq_true, if_false, if_true, Bool.and_true] at hx hy ⊢ <;>
    (try simp only [Bool.and_eq_true, Bool.not_eq_true', decide_eq_true_eq] at hx hy)
  · obtain ⟨rfl, hx⟩ := hx; obtain ⟨rfl, hy⟩ := hy
    simp
  · simp [s2]
  · simp [s1]
  · rcases cV_three o xa ya with h1 | h1 | h1 <;> rw [h1] at n <;> rcases ht with rfl | rfl <;> cases xo <;> cases yo <;> simp [n, h1, s1, s2]

theorem cV_congr (o : Nat) (l l' m m' : List UInt8) (hl : isV o l = true) (hl' : isV o l' = true) (hm : isV o m = true) (hm' : isV o m' = true) (h : cV o l l' = 0) (h' : cV o m m' = 0) : cV o l m = cV o l' m' := by
  have T1 := tri o l m l' hl hm hl'
  have T2 := tri o l' m m' hl' hm hm'
  have n1 := cV_neg o l' m
  have n2 := cV_neg o m m'
  have b1 := cV_bd o l m; have b2 := cV_bd o l' m; have b3 := cV_bd o l' m'
  omega

theorem may_meet (a b : Rg) (h : okB a b = true) : mayB (meetR a b) = true := by
  unfold meetR; rw [if_pos h]
  unfold okB at h
  simp only [Bool.and_eq_true, decide_eq_true_eq] at h
  obtain ⟨⟨h1, h2⟩, h3⟩ := h
  unfold mayB at *
  simp only [Bool.and_eq_true] at *
  rw [← h3] at h2
  exact ⟨⟨h1.1.1, end_tight _ _ _ _ h1.1.2 h2.1.2⟩, end_tight _ _ _ _ h1.2 h2.2⟩
theorem mayB_no (b : Bd) : mayB ⟨0, b, b⟩ = false := rfl
theorem may_noR : mayB noR = false := rfl
theorem okB_parts {a b : Rg} (h : okB a b = true) : mayB a = true ∧ mayB b = true ∧ a.o = b.o ∧ endB a.o a.lo = true ∧ endB a.o a.hi = true ∧ endB a.o b.lo = true ∧ endB a.o b.hi = true := by
  unfold okB at h
  simp only [Bool.and_eq_true, decide_eq_true_eq] at h
  obtain ⟨⟨h1, h2⟩, h3⟩ := h
  refine ⟨h1, h2, h3, ?_⟩
  unfold mayB at *
  simp only [Bool.and_eq_true] at *
  rw [← h3] at h2
  exact ⟨h1.1.2, h1.2, h2.1.2, h2.2⟩
theorem in_meet (a b : Rg) (l : List UInt8) (h : okB a b = true) : inB (meetR a b) l = (inB a l && inB b l) := by
  have hm := may_meet a b h
  obtain ⟨h1, h2, h3, e1, e2, e3, e4⟩ := okB_parts h
  unfold inB
  rw [hm, h1, h2, ← h3]
  unfold meetR
  rw [if_pos h]
  cases hb : isV a.o l
  · simp
  · simp only [Bool.true_and, tight_in _ _ _ _ _ (.inl rfl) e1 e3 hb, tight_in _ _ _ _ _ (.inr rfl) e2 e4 hb]
    cases wiB a.o a.lo l 1 <;> cases wiB a.o b.lo l 1 <;> cases wiB a.o a.hi l (-1) <;> cases wiB a.o b.hi l (-1) <;> rfl
theorem same_meet (a b : Rg) : sameR (meetR a b) (refMeet a b) = true := by
  unfold meetR refMeet
  cases h : okB a b
  · rfl
  · obtain ⟨h1, h2, h3, e1, e2, e3, e4⟩ := okB_parts h
    rw [if_pos rfl, if_pos rfl]
    unfold sameR
    simp only [decide_true, Bool.true_and, ref_same _ _ _ _ _ (.inl ⟨rfl, rfl⟩) e1 e3, ref_same _ _ _ _ _ (.inr ⟨rfl, rfl⟩) e2 e4]
theorem within_no (a b : Rg) (h : okB a b = false) : withinB a b = false := by unfold withinB; rw [h]; rfl
theorem within_ref (a b : Rg) (h : okB a b = true) : withinB a b = (emptyB a || sameR (refMeet a b) a) := by
  obtain ⟨h1, h2, h3, e1, e2, e3, e4⟩ := okB_parts h
  unfold withinB refMeet
  rw [h, if_pos rfl, Bool.true_and, ins_same _ _ _ _ _ (.inl ⟨rfl, rfl⟩) e1 e3, ins_same _ _ _ _ _ (.inr ⟨rfl, rfl⟩) e2 e4]
  unfold sameR
  simp
theorem within_in (a b : Rg) (l : List UInt8) (h : withinB a b = true) (hi : inB a l = true) : inB b l = true := by
  unfold withinB at h
  rw [Bool.and_eq_true] at h
  obtain ⟨ho, h⟩ := h
  obtain ⟨h1, h2, h3, e1, e2, e3, e4⟩ := okB_parts ho
  cases he : emptyB a
  · rw [he, Bool.false_or, Bool.and_eq_true] at h
    unfold inB at *
    rw [h2, ← h3]
    simp only [Bool.and_eq_true] at hi ⊢
    exact ⟨⟨⟨trivial, hi.1.1.2⟩, ins_wi _ _ _ _ _ (.inl rfl) e1 e3 hi.1.1.2 h.1 hi.1.2⟩, ins_wi _ _ _ _ _ (.inr rfl) e2 e4 hi.1.1.2 h.2 hi.2⟩
  · rw [empty_in a l he] at hi; cases hi
theorem within_self (a : Rg) (h : mayB a = true) : withinB a a = true := by
  unfold withinB okB
  simp [h, ins_self]
theorem okB_comm (a b : Rg) : okB a b = okB b a := by
  unfold okB
  rw [Bool.and_comm (mayB a)]
  congr 1
  exact decide_eq_decide.2 ⟨Eq.symm, Eq.symm⟩
theorem in_turn (a b : Rg) (l : List UInt8) : inB (meetR a b) l = inB (meetR b a) l := by
  cases h : okB a b
  · have h' := okB_comm a b
    unfold meetR
    rw [← h', h]
    rfl
  · rw [in_meet a b l h, in_meet b a l (okB_comm a b ▸ h), Bool.and_comm]
theorem empty_turn (a b : Rg) : emptyB (meetR a b) = emptyB (meetR b a) := by
  cases h : okB a b
  · have h' := okB_comm a b
    unfold meetR
    rw [← h', h]
    rfl
  · have h' : okB b a = true := okB_comm a b ▸ h
    obtain ⟨h1, h2, h3, e1, e2, e3, e4⟩ := okB_parts h
    obtain ⟨l1, l2, l3⟩ := ti_comm a.o a.lo b.lo 1 (.inl rfl) e1 e3
    obtain ⟨r1, r2, r3⟩ := ti_comm a.o a.hi b.hi (-1) (.inr rfl) e2 e4
    have f1 := end_tight a.o a.lo b.lo 1 e1 e3; have f2 := end_tight a.o b.lo a.lo 1 e3 e1
    have f3 := end_tight a.o a.hi b.hi (-1) e2 e4; have f4 := end_tight a.o b.hi a.hi (-1) e4 e2
    unfold emptyB
    rw [may_meet a b h, may_meet b a h']
    unfold meetR
    rw [if_pos h, if_pos h', ← h3]
    simp only [← l1, ← r1, ← l2, ← r2]
    cases hl : (tiB a.o a.lo b.lo 1).is
    · rfl
    · cases hr : (tiB a.o a.hi b.hi (-1)).is
      · rfl
      · unfold endB at f1 f2 f3 f4
        rw [if_pos hl] at f1; rw [if_pos (l1 ▸ hl)] at f2; rw [if_pos hr] at f3; rw [if_pos (r1 ▸ hr)] at f4
        rw [cV_congr a.o _ _ _ _ f1 f2 f3 f4 (l3 hl) (r3 hr)]
def allR (o : Nat) : Rg := ⟨o, ⟨false, false, []⟩, ⟨false, false, []⟩⟩
theorem all_in (o : Nat) (l : List UInt8) : inB (allR o) l = (mayB (allR o) && isV o l) := by
  unfold inB allR wiB; simp
theorem may_all (o : Nat) : mayB (allR o) = isO o := by unfold mayB allR endB; simp
theorem all_within (a : Rg) : withinB a (allR a.o) = mayB a := by
  unfold withinB okB
  rw [may_all]
  cases h : mayB a
  · rfl
  · have : isO a.o = true := by unfold mayB at h; simp only [Bool.and_eq_true] at h; exact h.1.1
    rw [this]
    unfold insB allR
    simp
end Go.Proofs.YtoadpeigomkgiaaDoor

/- Windows and lists of canceled ones in plain words: the text of a date, the trees that are put, what the document reads. -/
import Derived.Test.YticjhogofoffmaaDoorCrC
namespace Go.Proofs.YticjhogofoffmaaDoor
open Go.RowKit
set_option linter.unusedSimpArgs false
set_option linter.unusedVariables false

theorem year_of (t : Int) (h0 : 0 ≤ t) : ∃ y : Nat, dby y ≤ t ∧ t < dby ((y : Int) + 1) := by
  have : ∀ k : Nat, t < dby k → ∃ y : Nat, dby y ≤ t ∧ t < dby ((y : Int) + 1) := by
    intro k
    induction k with
    | zero => intro h; rw [show ((0 : Nat) : Int) = 0 from rfl, dby_zero] at h; omega
    | succ k ih =>
      intro h
      by_cases h' : t < dby k
      · exact ih h'
      · exact ⟨k, by omega, by simpa using h⟩
  refine this (t.toNat + 1) ?_
  unfold dby
  omega
theorem month_of (y x : Int) (h0 : 0 ≤ x) (h : x < cum y 13) : ∃ m : Nat, 1 ≤ m ∧ m ≤ 12 ∧ cum y m ≤ x ∧ x < cum y (m + 1) := by
  have : ∀ k : Nat, 1 ≤ k → k ≤ 13 → x < cum y k → ∃ m : Nat, 1 ≤ m ∧ m ≤ 12 ∧ cum y m ≤ x ∧ x < cum y (m + 1) := by
    intro k
    induction k with
    | zero => intro h; omega
    | succ k ih =>
      intro h1 h2 h3
      by_cases hk : k = 0
      · subst hk
        rw [show cum y (0 + 1) = 0 from rfl] at h3
        omega
      · by_cases h' : x < cum y k
        · exact ih (by omega) (by omega) h'
        · exact ⟨k, by omega, by omega, by omega, h3⟩
  exact this 13 (by omega) (by omega) h
/-- each number within the bounds has a date -/
theorem date_there (n : Int) (h0 : 0 ≤ n) (h1 : n < 315569520000) : ∃ l, dateOk l = true ∧ dateV l = n := by
  obtain ⟨y, hy1, hy2⟩ := year_of (n / 86400) (by omega)
  have hd := dby_succ y
  obtain ⟨m, hm1, hm2, hm3, hm4⟩ := month_of y (n / 86400 - dby y) (by omega) (by rw [cum_13]; omega)
  rw [cum_succ _ _ hm1] at hm4
  have hy : y ≤ 9999 := by
    by_cases h : y ≤ 9999
    · exact h
    · have := dby_mono 10000 y (by omega)
      rw [dby_max] at this
      omega
  have hF : Fld (fmtD y m (n / 86400 - dby y - cum y m + 1).toNat (n % 86400).toNat) y m (n / 86400 - dby y - cum y m + 1).toNat (n % 86400).toNat :=
    ⟨rfl, hy, hm1, hm2, by omega, by omega, by omega⟩
  obtain ⟨e1, e2⟩ := date_fmt _ _ _ _ hF
  refine ⟨_, e1, ?_⟩
  unfold dateV
  rw [if_pos e1, e2]
  omega
theorem date_one {l l' : List UInt8} (h : dateOk l = true) (h' : dateOk l' = true) (e : dateV l = dateV l') : l = l' := by
  obtain ⟨y, m, d, r, hF, e1⟩ := date_of l h
  obtain ⟨y', m', d', r', hF', e1'⟩ := date_of l' h'
  obtain ⟨rfl, rfl, rfl, rfl⟩ := numD_inj l l' y m d r y' m' d' r' hF hF' (by unfold numD; rw [← e1, ← e1', e])
  rw [hF.1, hF'.1]
theorem dateV_range {l : List UInt8} (h : dateOk l = true) : 0 ≤ dateV l ∧ dateV l < 315569520000 := by
  obtain ⟨y, m, d, r, hF, e1⟩ := date_of l h
  obtain ⟨_, h1, h2, h3, h4, h5, h6⟩ := hF
  have hb := dby_bd y (by omega) (by omega)
  have hc := cum_bd y m
  have hs := dby_succ y
  have hm := dby_mono ((y : Int) + 1) 10000 (by omega)
  rw [dby_max] at hm
  have h13 : cum y m + dim y m ≤ 365 + lp y := by
    rcases cum_le y m (by omega) with h | h
    · rw [if_neg (by omega)] at h
      exact h
    · omega
  omega
/-- the text of a number's date -/
noncomputable def dateL (n : Int) : List UInt8 := open Classical in if h : ∃ l, dateOk l = true ∧ dateV l = n then h.choose else []
theorem dateL_ok (n : Int) (h0 : 0 ≤ n) (h1 : n < 315569520000) : dateOk (dateL n) = true ∧ dateV (dateL n) = n := by
  have h := date_there n h0 h1
  unfold dateL
  rw [dif_pos h]
  exact h.choose_spec
theorem dateL_of {l : List UInt8} (h : dateOk l = true) : dateL (dateV l) = l := by
  have hr := dateV_range h
  have := dateL_ok (dateV l) hr.1 hr.2
  exact date_one this.1 h this.2
theorem dateL_len (n : Int) (h0 : 0 ≤ n) (h1 : n < 315569520000) : (dateL n).length = 19 := by
  have := (dateL_ok n h0 h1).1
  by_cases h : (dateL n).length = 19
  · exact h
  · rw [dateOk_len _ h] at this
    cases this

/-- an atom; a list -/
def at1 (l : List UInt8) : Sx := .mk false false [] l []
def li (ks : List Sx) : Sx := .mk true false [] [] ks
def atomB (k : Sx) (l : List UInt8) : Bool := !k.l && (!k.h && (k.da == l))
def headL (s : Sx) (l : List UInt8) : Bool := s.l && (match s.ks with | [] => false | k :: _ => atomB k l)
theorem headB_eq (s : Sx) (t : ByteArray) (l : List UInt8) (h : t.toList = l) : headB s t = headL s l := by
  subst h
  unfold headB headL
  cases s.ks <;> rfl
theorem isB_eq (s : Sx) (t : ByteArray) (l : List UInt8) (h : t.toList = l) : isB s t = atomB s l := by
  subst h
  rfl
theorem atomB_clean {k : Sx} {l : List UInt8} (hc : k.clean = true) (h : atomB k l = true) : k = at1 l := by
  obtain ⟨a, b, c, d, ks⟩ := k
  obtain ⟨h1, h2, h3⟩ := clean_parts hc
  simp only [atomB, Sx.l, Sx.h, Sx.da, Bool.and_eq_true, Bool.not_eq_true', beq_iff_eq] at h
  obtain ⟨rfl, rfl, rfl⟩ := h
  obtain ⟨rfl, h5⟩ := h2 rfl
  rw [h5 rfl]
  rfl
theorem headL_clean {s : Sx} {l : List UInt8} (hc : s.clean = true) (h : headL s l = true) : ∃ r, s = li (at1 l :: r) ∧ ∀ k ∈ r, k.clean = true := by
  obtain ⟨a, b, c, d, ks⟩ := s
  obtain ⟨h1, h2, h3⟩ := clean_parts hc
  cases ks with
  | nil => simp [headL, Sx.ks] at h
  | cons k r =>
    simp only [headL, Sx.l, Sx.ks, Bool.and_eq_true] at h
    obtain ⟨rfl, h⟩ := h
    obtain ⟨rfl, rfl, rfl⟩ := h1 rfl
    rw [atomB_clean (h3 k (by simp)) h]
    exact ⟨r, rfl, fun k hk => h3 k (by simp [hk])⟩
theorem headL_li (l : List UInt8) (r : List Sx) (l' : List UInt8) : headL (li (at1 l :: r)) l' = (l == l') := by simp [headL, li, at1, atomB, Sx.l, Sx.h, Sx.da, Sx.ks]
theorem atomB_at1 (l l' : List UInt8) : atomB (at1 l) l' = (l == l') := by simp [atomB, at1, Sx.l, Sx.h, Sx.da]

structure W4 where
  p : Bool
  f : Int
  q : Bool
  t : Int
def W4.may (x : W4) : Bool := winMay x.p x.f x.q x.t
def W4.nil : W4 := ⟨false, 0, false, 0⟩
def nbL : List UInt8 := [110, 111, 116, 45, 98, 101, 102, 111, 114, 101]
def naL : List UInt8 := [110, 111, 116, 45, 97, 102, 116, 101, 114]
def vaL : List UInt8 := [118, 97, 108, 105, 100]
noncomputable def endS (w : List UInt8) (n : Int) : Sx := li [at1 w, at1 (dateL n)]
noncomputable def winS (x : W4) : Sx := li (at1 vaL :: ((if x.p then [endS nbL x.f] else []) ++ (if x.q then [endS naL x.t] else [])))

/-- what the program takes for a window: each part of two values tells an end -/
def winStep (x : W4) (k : Sx) : W4 :=
  match k.ks with
  | [a, b] => if a.da = nbL then ⟨dateOk b.da, dateV b.da, x.q, x.t⟩ else if a.da = naL then ⟨x.p, x.f, dateOk b.da, dateV b.da⟩ else x
  | _ => x
def winFold (s : Sx) : W4 := s.ks.tail.foldl winStep W4.nil
noncomputable def winGet (s : Sx) : Option W4 := if (winFold s).may && (winS (winFold s)).same s then some (winFold s) else none

theorem winMay_iff (x : W4) : x.may = true ↔ ((x.p = true ∧ 0 ≤ x.f ∧ x.f < 315569520000) ∨ (x.p = false ∧ x.f = 0)) ∧ ((x.q = true ∧ 0 ≤ x.t ∧ x.t < 315569520000) ∨ (x.q = false ∧ x.t = 0)) := by
  obtain ⟨p, f, q, t⟩ := x
  unfold W4.may winMay sideB
  cases p <;> cases q <;> simp
theorem step_end_nb (x : W4) (n : Int) (h0 : 0 ≤ n) (h1 : n < 315569520000) : winStep x (endS nbL n) = ⟨true, n, x.q, x.t⟩ := by
  obtain ⟨e1, e2⟩ := dateL_ok n h0 h1
  simp only [winStep, endS, li, at1, Sx.ks, Sx.da, if_true, e1, e2]
theorem step_end_na (x : W4) (n : Int) (h0 : 0 ≤ n) (h1 : n < 315569520000) : winStep x (endS naL n) = ⟨x.p, x.f, true, n⟩ := by
  obtain ⟨e1, e2⟩ := dateL_ok n h0 h1
  simp only [winStep, endS, li, at1, Sx.ks, Sx.da, if_true, e1, e2]
  rw [if_neg (by decide)]
theorem winFold_winS (x : W4) (h : x.may = true) : winFold (winS x) = x := by
  have hm := (winMay_iff x).1 h
  obtain ⟨p, f, q, t⟩ := x
  dsimp only at hm
  unfold winFold winS
  simp only [li, Sx.ks, List.tail_cons]
  obtain ⟨h1, h2⟩ := hm
  rcases h1 with ⟨rfl, h1, h1'⟩ | ⟨rfl, rfl⟩ <;> rcases h2 with ⟨rfl, h2, h2'⟩ | ⟨rfl, rfl⟩ <;>
    simp [W4.nil, step_end_nb, step_end_na, *]
theorem winGet_iff (s : Sx) (x : W4) : winGet s = some x ↔ x.may = true ∧ s = winS x := by
  unfold winGet
  constructor
  · intro h
    split at h
    · rename_i hc
      rw [Bool.and_eq_true] at hc
      cases h
      exact ⟨hc.1, ((Sx.same_iff _ _).1 hc.2).symm⟩
    · cases h
  · rintro ⟨h1, rfl⟩
    rw [winFold_winS x h1, if_pos (by rw [h1, Sx.same_refl]; rfl)]
theorem winS_inj {x y : W4} (hx : x.may = true) (hy : y.may = true) (h : winS x = winS y) : x = y := by
  have h1 := (winGet_iff (winS x) x).2 ⟨hx, rfl⟩
  rw [(winGet_iff (winS x) y).2 ⟨hy, h⟩] at h1
  exact (Option.some.inj h1).symm

/-- an end, as the document reads it -/
def endB (k : Sx) (w : List UInt8) : Bool := headL k w && (match k.ks with | [_, x] => !x.l && (!x.h && dateOk x.da) | _ => false)
def endN (k : Sx) (w : List UInt8) : Int := if endB k w then (match k.ks with | [_, x] => dateV x.da | _ => 0) else 0
/-- an end that may stand ahead -/
def endTake (l : List Sx) (w : List UInt8) : Bool × Int × List Sx := match l with
  | [] => (false, 0, [])
  | k :: r => if endB k w then (true, endN k w, r) else (false, 0, k :: r)
def refWin (s : Sx) : Option W4 :=
  if headL s vaL then
    let x := endTake s.ks.tail nbL
    let y := endTake x.2.2 naL
    match y.2.2 with
    | [] => some ⟨x.1, x.2.1, y.1, y.2.1⟩
    | _ => none
  else none
theorem endB_clean {k : Sx} {w : List UInt8} (hc : k.clean = true) (h : endB k w = true) : k = endS w (endN k w) ∧ 0 ≤ endN k w ∧ endN k w < 315569520000 := by
  have h' := h
  unfold endB at h
  rw [Bool.and_eq_true] at h
  obtain ⟨r, rfl, hr⟩ := headL_clean hc h.1
  have h2 := h.2
  unfold endN
  rw [if_pos h']
  rcases r with _ | ⟨x, _ | ⟨y, r⟩⟩
  · simp [li, Sx.ks] at h2
  · simp only [li, Sx.ks, Bool.and_eq_true, Bool.not_eq_true'] at h2 ⊢
    obtain ⟨h3, h4, h5⟩ := h2
    have hx : x = at1 x.da := atomB_clean (hr x (by simp)) (by simp [atomB, h3, h4])
    refine ⟨?_, dateV_range h5⟩
    unfold endS
    rw [dateL_of h5, ← hx]
    rfl
  · simp [li, Sx.ks] at h2
theorem endB_endS (w : List UInt8) (n : Int) (h0 : 0 ≤ n) (h1 : n < 315569520000) : endB (endS w n) w = true ∧ endN (endS w n) w = n := by
  obtain ⟨e1, e2⟩ := dateL_ok n h0 h1
  have h : endB (endS w n) w = true := by
    unfold endB endS
    rw [headL_li]
    simp [li, at1, Sx.ks, Sx.l, Sx.h, Sx.da, e1]
  refine ⟨h, ?_⟩
  unfold endN
  rw [if_pos h]
  exact e2
theorem endB_not (n : Int) : endB (endS naL n) nbL = false := by
  unfold endB endS
  rw [headL_li]
  rfl
theorem refWin_iff (s : Sx) (hc : s.clean = true) (x : W4) : refWin s = some x ↔ x.may = true ∧ s = winS x := by
  constructor
  · intro h
    unfold refWin at h
    split at h
    · rename_i hh
      obtain ⟨r, rfl, hr⟩ := headL_clean hc hh
      simp only [li, Sx.ks, List.tail_cons] at h
      have key : ∀ (w : List UInt8) (l : List Sx), (∀ k ∈ l, k.clean = true) → l = (if (endTake l w).1 then [endS w (endTake l w).2.1] else []) ++ (endTake l w).2.2 ∧ (∀ k ∈ (endTake l w).2.2, k.clean = true) ∧
          (((endTake l w).1 = true ∧ 0 ≤ (endTake l w).2.1 ∧ (endTake l w).2.1 < 315569520000) ∨ ((endTake l w).1 = false ∧ (endTake l w).2.1 = 0)) := by
        intro w l hl
        cases l with
        | nil => exact ⟨rfl, (fun k hk => by cases hk), .inr ⟨rfl, rfl⟩⟩
        | cons k t =>
          unfold endTake
          by_cases hk : endB k w = true
          · obtain ⟨e1, e2, e3⟩ := endB_clean (hl k (by simp)) hk
            simp only [hk, if_true]
            exact ⟨by rw [← e1]; rfl, fun k hk => hl k (by simp [hk]), .inl ⟨by trivial, e2, e3⟩⟩
          · rw [Bool.not_eq_true] at hk
            simp only [hk, Bool.false_eq_true, if_false]
            exact ⟨rfl, hl, .inr ⟨by trivial, by trivial⟩⟩
      obtain ⟨k1, k2, k3⟩ := key nbL r hr
      obtain ⟨l1, l2, l3⟩ := key naL _ k2
      split at h
      · rename_i he
        cases h
        refine ⟨(winMay_iff _).2 ⟨k3, l3⟩, ?_⟩
        unfold winS
        dsimp only
        rw [he, List.append_nil] at l1
        rw [← l1, ← k1]
      · cases h
    · cases h
  · rintro ⟨h, rfl⟩
    have hm := (winMay_iff x).1 h
    obtain ⟨p, f, q, t⟩ := x
    dsimp only at hm
    unfold refWin
    rw [if_pos (by unfold winS; rw [headL_li]; rfl)]
    unfold winS
    simp only [li, Sx.ks, List.tail_cons]
    obtain ⟨h1, h2⟩ := hm
    rcases h1 with ⟨rfl, h1, h1'⟩ | ⟨rfl, rfl⟩ <;> rcases h2 with ⟨rfl, h2, h2'⟩ | ⟨rfl, rfl⟩
    · obtain ⟨e1, e2⟩ := endB_endS nbL f h1 h1'
      obtain ⟨e3, e4⟩ := endB_endS naL t h2 h2'
      simp [endTake, e1, e2, e3, e4]
    · obtain ⟨e1, e2⟩ := endB_endS nbL f h1 h1'
      simp [endTake, e1, e2]
    · obtain ⟨e3, e4⟩ := endB_endS naL t h2 h2'
      simp [endTake, e3, e4, endB_not]
    · rfl
/-- on values that are clean the program and the document read the same window -/
theorem win_agree (s : Sx) (hc : s.clean = true) : refWin s = winGet s := by
  cases h : refWin s with
  | none =>
    cases h' : winGet s with
    | none => rfl
    | some x => rw [(refWin_iff s hc x).2 ((winGet_iff s x).1 h')] at h; cases h
  | some x => rw [(winGet_iff s x).2 ((refWin_iff s hc x).1 h)]
end Go.Proofs.YticjhogofoffmaaDoor

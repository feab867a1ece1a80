/- Lists of canceled ones in plain words: the tree that is put, what the program takes out of a value, what the document reads. -/
import Derived.Test.YticjhogofoffmaaDoorCrH
namespace Go.Proofs.YticjhogofoffmaaDoor
open Go.RowKit
set_option linter.unusedSimpArgs false
set_option linter.unusedVariables false

def haL : List UInt8 := [104, 97, 115, 104]
def shL : List UInt8 := [115, 104, 97, 53, 49, 50]
def pkL : List UInt8 := [112, 117, 98, 108, 105, 99, 45, 107, 101, 121]
def edL : List UInt8 := [101, 100, 50, 53, 53, 49, 57]
def crL : List UInt8 := [99, 114, 108]
def isL : List UInt8 := [105, 115, 115, 117, 101, 114]
theorem keyS_true (l : List UInt8) : keyS true l = li [at1 haL, at1 shL, at1 l] := rfl
theorem keyS_false (l : List UInt8) : keyS false l = li [at1 pkL, li [at1 edL, at1 l]] := rfl

/-- the principal that may stand in a value -/
def keyTry (k : Sx) : Option (Bool × List UInt8) :=
  match k.ks with
  | [_, _, x] => some (true, x.da)
  | [_, y] => (match y.ks with | [_, x] => some (false, x.da) | _ => none)
  | _ => none
def keyGet (k : Sx) : Option (Bool × List UInt8) :=
  match keyTry k with
  | some (s, l) => if keyMay s l.length && k.same (keyS s l) then some (s, l) else none
  | none => none
theorem keyTry_keyS (s : Bool) (l : List UInt8) : keyTry (keyS s l) = some (s, l) := by cases s <;> rfl
theorem keyGet_iff (k : Sx) (s : Bool) (l : List UInt8) : keyGet k = some (s, l) ↔ keyMay s l.length = true ∧ k = keyS s l := by
  constructor
  · intro h
    unfold keyGet at h
    split at h
    · rename_i s' l' e
      split at h
      · rename_i hc
        rw [Bool.and_eq_true] at hc
        cases h
        exact ⟨hc.1, (Sx.same_iff _ _).1 hc.2⟩
      · cases h
    · cases h
  · rintro ⟨h, rfl⟩
    unfold keyGet
    rw [keyTry_keyS]
    simp [h, Sx.same_refl]
def plainB (x : Sx) (n : Nat) : Bool := !x.l && (!x.h && (x.da.length == n))
def hashB (k : Sx) : Bool := match k.ks with | [_, y, z] => atomB y shL && plainB z 64 | _ => false
def lastB (y : Sx) : Bool := match y.ks with | [_, z] => plainB z 32 | _ => false
def pubB (k : Sx) : Bool := match k.ks with | [_, y] => headL y edL && lastB y | _ => false
/-- what the document reads as a principal -/
def refKey (k : Sx) : Option (Bool × List UInt8) :=
  if headL k haL && hashB k then some (true, (k.ks.getD 2 Sx.nil).da)
  else if headL k pkL && pubB k then some (false, ((k.ks.getD 1 Sx.nil).ks.getD 1 Sx.nil).da)
  else none
theorem plainB_clean {x : Sx} {n : Nat} (hc : x.clean = true) (h : plainB x n = true) : x = at1 x.da ∧ x.da.length = n := by
  simp only [plainB, Bool.and_eq_true, Bool.not_eq_true', beq_iff_eq] at h
  exact ⟨atomB_clean hc (by simp [atomB, h.1, h.2.1]), h.2.2⟩
theorem refKey_iff (k : Sx) (hc : k.clean = true) (s : Bool) (l : List UInt8) : refKey k = some (s, l) ↔ keyMay s l.length = true ∧ k = keyS s l := by
  constructor
  · intro h
    unfold refKey at h
    split at h
    · rename_i hh
      rw [Bool.and_eq_true] at hh
      obtain ⟨r, rfl, hr⟩ := headL_clean hc hh.1
      have h2 := hh.2
      rcases r with _ | ⟨y, _ | ⟨z, _ | ⟨u, r⟩⟩⟩ <;> simp only [hashB, li, Sx.ks, Bool.and_eq_true, Bool.false_eq_true] at h2
      obtain ⟨h3, h4⟩ := h2
      obtain rfl := atomB_clean (hr y (by simp)) h3
      obtain ⟨e1, e2⟩ := plainB_clean (hr z (by simp)) h4
      simp only [li, Sx.ks, List.getD_cons_succ, List.getD_cons_zero] at h
      cases h
      refine ⟨by simp [keyMay, e2], ?_⟩
      rw [keyS_true, ← e1]
    · split at h
      · rename_i hh
        rw [Bool.and_eq_true] at hh
        obtain ⟨r, rfl, hr⟩ := headL_clean hc hh.1
        have h2 := hh.2
        rcases r with _ | ⟨y, _ | ⟨z, r⟩⟩ <;> simp only [pubB, li, Sx.ks, Bool.and_eq_true, Bool.false_eq_true] at h2
        obtain ⟨h3, h4⟩ := h2
        obtain ⟨r2, rfl, hr2⟩ := headL_clean (hr y (by simp)) h3
        rcases r2 with _ | ⟨z, _ | ⟨u, r⟩⟩ <;> simp only [lastB, li, Sx.ks, Bool.false_eq_true] at h4
        obtain ⟨e1, e2⟩ := plainB_clean (hr2 z (by simp)) h4
        simp only [li, Sx.ks, List.getD_cons_succ, List.getD_cons_zero] at h
        cases h
        refine ⟨by simp [keyMay, e2], ?_⟩
        rw [keyS_false, ← e1]
      · cases h
  · rintro ⟨h, rfl⟩
    cases s
    · have h32 : (l.length == 32) = true := h
      unfold refKey
      rw [keyS_false, headL_li]
      rw [show (pkL == haL) = false from rfl, Bool.false_and]
      simp only [Bool.false_eq_true, if_false]
      rw [headL_li, if_pos (by
        simp only [pubB, lastB, li, Sx.ks]
        rw [show Sx.mk true false [] [] [at1 edL, at1 l] = li [at1 edL, at1 l] from rfl, headL_li]
        simp [plainB, at1, Sx.l, Sx.h, Sx.da, h32])]
      rfl
    · have h64 : (l.length == 64) = true := h
      unfold refKey
      rw [keyS_true, headL_li, if_pos (by
        simp only [hashB, li, Sx.ks, atomB_at1]
        simp [plainB, at1, Sx.l, Sx.h, Sx.da, h64])]
      rfl
theorem key_agree (k : Sx) (hc : k.clean = true) : refKey k = keyGet k := by
  cases h : refKey k with
  | none =>
    cases h' : keyGet k with
    | none => rfl
    | some x => rw [(refKey_iff k hc x.1 x.2).2 ((keyGet_iff k x.1 x.2).1 h')] at h; cases h
  | some x => rw [(keyGet_iff k x.1 x.2).2 ((refKey_iff k hc x.1 x.2).1 h)]

/-- a list of canceled ones -/
structure Cr where
  s : Bool
  l : List UInt8
  ls : List (List UInt8)
  x : W4
def Cr.may (c : Cr) : Bool := keyMay c.s c.l.length && (sumsOk c.ls && c.x.may)
noncomputable def Cr.tree (c : Cr) : Sx := li ([at1 crL, li [at1 isL, keyS c.s c.l], li (sumsK c.ls)] ++ if c.x.p || c.x.q then [winS c.x] else [])

theorem wideL_no {ks : List Sx} {m : Nat} (h : ∀ k ∈ ks, k.wide m = false) : Sx.wideL ks m = false := by
  induction ks with
  | nil => rfl
  | cons a r ih => simp only [Sx.wideL]; rw [h a (by simp), ih (fun k hk => h k (by simp [hk]))]; rfl
theorem wide_li {ks : List Sx} {m : Nat} (hm : m ≤ 60) (hl : ks.length ≤ 700) (h : ∀ k ∈ ks, k.wide (m + 1) = false) : (li ks).wide m = false := by
  unfold li
  rw [wide_def, wideL_no h, decide_eq_false (by omega), decide_eq_false (by omega)]
  rfl
theorem wide_at {l : List UInt8} {m : Nat} (hm : m ≤ 60) (hl : l.length ≤ 5000) : (at1 l).wide m = false := by
  unfold at1
  rw [wide_def, decide_eq_false (by omega), decide_eq_false (by simp), decide_eq_false (by simp), decide_eq_false (by omega)]
  rfl
theorem wide_keyS (s : Bool) (l : List UInt8) (m : Nat) (hm : m ≤ 50) (hl : l.length ≤ 5000) : (keyS s l).wide m = false := by
  cases s
  · rw [keyS_false]
    refine wide_li (by omega) (by simp) (fun k hk => ?_)
    simp only [List.mem_cons, List.not_mem_nil, or_false] at hk
    rcases hk with rfl | rfl
    · exact wide_at (by omega) (by decide)
    · refine wide_li (by omega) (by simp) (fun k hk => ?_)
      simp only [List.mem_cons, List.not_mem_nil, or_false] at hk
      rcases hk with rfl | rfl
      · exact wide_at (by omega) (by decide)
      · exact wide_at (by omega) hl
  · rw [keyS_true]
    refine wide_li (by omega) (by simp) (fun k hk => ?_)
    simp only [List.mem_cons, List.not_mem_nil, or_false] at hk
    rcases hk with rfl | rfl | rfl
    · exact wide_at (by omega) (by decide)
    · exact wide_at (by omega) (by decide)
    · exact wide_at (by omega) hl
/-- bounds of a tree: clean, at most n values, at most d deep, at most f bytes -/
structure Bd (t : Sx) (n d f : Nat) : Prop where
  clean : t.clean = true
  nodes : t.nodes ≤ n
  deep : t.deep ≤ d
  form : t.form.length ≤ f
structure BdL (ts : List Sx) (n d f : Nat) : Prop where
  clean : Sx.cleanL ts = true
  nodes : Sx.nodesL ts ≤ n
  deep : Sx.deepL ts ≤ d
  form : (Sx.formL ts).length ≤ f
theorem BdL.nil : BdL [] 0 0 0 := ⟨rfl, Nat.le_refl _, Nat.le_refl _, Nat.le_refl _⟩
theorem BdL.cons {t : Sx} {ts : List Sx} {n d f n2 d2 f2 : Nat} (h : Bd t n d f) (h2 : BdL ts n2 d2 f2) : BdL (t :: ts) (n + n2) (max d d2) (f + f2) := by
  refine ⟨?_, ?_, ?_, ?_⟩
  · simp [Sx.cleanL, h.clean, h2.clean]
  · simp only [Sx.nodesL]; have := h.nodes; have := h2.nodes; omega
  · simp only [Sx.deepL]; have := h.deep; have := h2.deep; omega
  · simp only [Sx.formL, List.length_append]; have := h.form; have := h2.form; omega
theorem BdL.append {ts us : List Sx} {n d f n2 d2 f2 : Nat} (h : BdL ts n d f) (h2 : BdL us n2 d2 f2) : BdL (ts ++ us) (n + n2) (max d d2) (f + f2) := by
  induction ts generalizing n d f with
  | nil => exact ⟨h2.clean, by have := h2.nodes; simp; omega, by have := h2.deep; simp; omega, by have := h2.form; simp; omega⟩
  | cons t ts ih =>
    have hc := h.clean
    have hn := h.nodes
    have hd := h.deep
    have hf := h.form
    simp only [Sx.cleanL, Bool.and_eq_true] at hc
    simp only [Sx.nodesL] at hn
    simp only [Sx.deepL] at hd
    simp only [Sx.formL, List.length_append] at hf
    have := ih (n := Sx.nodesL ts) (d := Sx.deepL ts) (f := (Sx.formL ts).length) ⟨hc.2, Nat.le_refl _, Nat.le_refl _, Nat.le_refl _⟩
    refine ⟨?_, ?_, ?_, ?_⟩
    · simp [Sx.cleanL, hc.1, this.clean]
    · have := this.nodes; simp only [List.cons_append, Sx.nodesL]; omega
    · have := this.deep; simp only [List.cons_append, Sx.deepL]; omega
    · have := this.form; simp only [List.cons_append, Sx.formL, List.length_append]; omega
theorem BdL.li {ts : List Sx} {n d f : Nat} (h : BdL ts n d f) : Bd (li ts) (n + 1) (d + 1) (f + 2) := by
  refine ⟨?_, ?_, ?_, ?_⟩
  · unfold Proofs.YticjhogofoffmaaDoor.li; rw [clean_def, h.clean]; rfl
  · have := h.nodes; unfold Proofs.YticjhogofoffmaaDoor.li; simp only [Sx.nodes]; omega
  · have := h.deep; unfold Proofs.YticjhogofoffmaaDoor.li; simp only [Sx.deep, if_true]; omega
  · have := h.form; unfold Proofs.YticjhogofoffmaaDoor.li; rw [form_def]; simp; omega
theorem bd_at (l : List UInt8) (h : l.length ≤ 100000) : Bd (at1 l) 1 0 (l.length + 20) := by
  refine ⟨by rfl, by simp [at1, Sx.nodes, Sx.nodesL], by simp [at1, Sx.deep], ?_⟩
  have := textL_len l (by omega)
  unfold at1
  rw [form_def]
  simpa using this
theorem Bd.mono {t : Sx} {n d f n2 d2 f2 : Nat} (h : Bd t n d f) (h1 : n ≤ n2) (h2 : d ≤ d2) (h3 : f ≤ f2) : Bd t n2 d2 f2 := ⟨h.clean, Nat.le_trans h.nodes h1, Nat.le_trans h.deep h2, Nat.le_trans h.form h3⟩
theorem BdL.mono {t : List Sx} {n d f n2 d2 f2 : Nat} (h : BdL t n d f) (h1 : n ≤ n2) (h2 : d ≤ d2) (h3 : f ≤ f2) : BdL t n2 d2 f2 := ⟨h.clean, Nat.le_trans h.nodes h1, Nat.le_trans h.deep h2, Nat.le_trans h.form h3⟩
theorem Bd.may {t : Sx} {n d f : Nat} (h : Bd t n d f) (h1 : n ≤ 512) (h2 : d ≤ 16) (h3 : f ≤ 4096) : t.may = true := by
  unfold Sx.may
  rw [h.clean, decide_eq_true (Nat.le_trans h.nodes h1), decide_eq_true (Nat.le_trans h.deep h2), decide_eq_true (Nat.le_trans h.form h3)]
  rfl
theorem bd_keyS (s : Bool) (l : List UInt8) (h : keyMay s l.length = true) : Bd (keyS s l) 5 2 150 := by
  cases s
  · have h32 : l.length = 32 := by simpa [keyMay] using h
    rw [keyS_false]
    exact ((BdL.cons (bd_at pkL (by decide)) (BdL.cons ((BdL.cons (bd_at edL (by decide)) (BdL.cons (bd_at l (by omega)) BdL.nil)).li) BdL.nil)).li).mono (by omega) (by omega) (by rw [h32]; decide)
  · have h64 : l.length = 64 := by simpa [keyMay] using h
    rw [keyS_true]
    exact ((BdL.cons (bd_at haL (by decide)) (BdL.cons (bd_at shL (by decide)) (BdL.cons (bd_at l (by omega)) BdL.nil))).li).mono (by omega) (by omega) (by rw [h64]; decide)
theorem bdL_sums (ls : List (List UInt8)) (h : ls.all (fun l => keyMay true l.length) = true) : BdL (ls.map (keyS true)) (5 * ls.length) 2 (150 * ls.length) := by
  induction ls with
  | nil => exact BdL.nil.mono (by simp) (by omega) (by simp)
  | cons l r ih =>
    simp only [List.all_cons, Bool.and_eq_true] at h
    exact (BdL.cons (bd_keyS true l h.1) (ih h.2)).mono (by simp; omega) (by omega) (by simp; omega)
theorem bd_end (w : List UInt8) (n : Int) (hw : w.length ≤ 20) (h0 : 0 ≤ n) (h1 : n < 315569520000) : Bd (endS w n) 3 1 90 := by
  have := dateL_len n h0 h1
  unfold endS
  exact ((BdL.cons (bd_at w (by omega)) (BdL.cons (bd_at (dateL n) (by omega)) BdL.nil)).li).mono (by omega) (by omega) (by omega)
theorem bd_win (x : W4) (h : x.may = true) : Bd (winS x) 8 2 220 := by
  have hm := (winMay_iff x).1 h
  obtain ⟨p, f, q, t⟩ := x
  dsimp only at hm
  obtain ⟨h1, h2⟩ := hm
  unfold winS
  have e1 : BdL (if p then [endS nbL f] else []) 3 1 90 := by
    rcases h1 with ⟨rfl, h1, h1'⟩ | ⟨rfl, rfl⟩
    · exact BdL.cons (bd_end nbL f (by decide) h1 h1') BdL.nil
    · exact BdL.nil.mono (by omega) (by omega) (by omega)
  have e2 : BdL (if q then [endS naL t] else []) 3 1 90 := by
    rcases h2 with ⟨rfl, h2, h2'⟩ | ⟨rfl, rfl⟩
    · exact BdL.cons (bd_end naL t (by decide) h2 h2') BdL.nil
    · exact BdL.nil.mono (by omega) (by omega) (by omega)
  exact ((BdL.cons (bd_at vaL (by decide)) (e1.append e2)).li).mono (by omega) (by omega) (by decide)
theorem wide_win (x : W4) (h : x.may = true) (m : Nat) (hm : m ≤ 50) : (winS x).wide m = false := by
  have hw := (winMay_iff x).1 h
  obtain ⟨p, f, q, t⟩ := x
  dsimp only at hw
  have hend : ∀ (w : List UInt8) (n : Int), w.length ≤ 20 → 0 ≤ n → n < 315569520000 → (endS w n).wide (m + 1) = false := by
    intro w n h0 h1 h2
    have := dateL_len n h1 h2
    unfold endS
    refine wide_li (by omega) (by simp) (fun k hk => ?_)
    simp only [List.mem_cons, List.not_mem_nil, or_false] at hk
    rcases hk with rfl | rfl
    · exact wide_at (by omega) (by omega)
    · exact wide_at (by omega) (by omega)
  unfold winS
  refine wide_li (by omega) (by cases p <;> cases q <;> simp) (fun k hk => ?_)
  simp only [List.mem_cons, List.mem_append] at hk
  rcases hk with rfl | hk | hk
  · exact wide_at (by omega) (by decide)
  · rcases hw.1 with ⟨rfl, h1, h2⟩ | ⟨rfl, rfl⟩
    · simp only [if_true, List.mem_cons, List.not_mem_nil, or_false] at hk
      rw [hk]
      exact hend _ _ (by decide) h1 h2
    · simp at hk
  · rcases hw.2 with ⟨rfl, h1, h2⟩ | ⟨rfl, rfl⟩
    · simp only [if_true, List.mem_cons, List.not_mem_nil, or_false] at hk
      rw [hk]
      exact hend _ _ (by decide) h1 h2
    · simp at hk
theorem sumsOk_iff (ls : List (List UInt8)) : sumsOk ls = true ↔ ls.length ≤ 16 ∧ ls.all (fun l => keyMay true l.length) = true := by
  unfold sumsOk
  rw [Bool.and_eq_true, decide_eq_true_eq]
theorem Cr.may_tree (c : Cr) (h : c.may = true) : c.tree.may = true ∧ c.tree.wide 0 = false := by
  obtain ⟨s, l, ls, x⟩ := c
  simp only [Cr.may, Bool.and_eq_true] at h
  obtain ⟨h1, h2, h3⟩ := h
  obtain ⟨h4, h5⟩ := (sumsOk_iff ls).1 h2
  have hlen : l.length ≤ 64 := by cases s <;> (simp [keyMay] at h1; omega)
  have hall : ∀ k ∈ ls, k.length = 64 := fun k hk => by have := List.all_eq_true.1 h5 k hk; simpa [keyMay] using this
  have e1 : BdL [at1 crL, li [at1 isL, keyS s l], li (sumsK ls)] (5 * ls.length + 10) 4 (150 * ls.length + 250) := by
    refine (BdL.cons (bd_at crL (by decide)) (BdL.cons ((BdL.cons (bd_at isL (by decide)) (BdL.cons (bd_keyS s l h1) BdL.nil)).li) (BdL.cons ((BdL.cons (bd_at caL (by decide)) (bdL_sums ls h5)).li) BdL.nil))).mono (by omega) (by omega) ?_
    have a1 : crL.length = 3 := rfl
    have a2 : isL.length = 6 := rfl
    have a3 : caL.length = 8 := rfl
    omega
  have e2 : BdL (if x.p || x.q then [winS x] else []) 8 2 220 := by
    split
    · exact BdL.cons (bd_win x h3) BdL.nil
    · exact BdL.nil.mono (by omega) (by omega) (by omega)
  refine ⟨((e1.append e2).li).may (by omega) (by omega) (by omega), ?_⟩
  unfold Cr.tree
  refine wide_li (by omega) (by dsimp only; split <;> simp) (fun k hk => ?_)
  simp only [List.mem_append, List.mem_cons, List.not_mem_nil, or_false] at hk
  rcases hk with (rfl | rfl | rfl) | hk
  · exact wide_at (by omega) (by decide)
  · refine wide_li (by omega) (by simp) (fun k hk => ?_)
    simp only [List.mem_cons, List.not_mem_nil, or_false] at hk
    rcases hk with rfl | rfl
    · exact wide_at (by omega) (by decide)
    · exact wide_keyS s l _ (by omega) (by omega)
  · refine wide_li (by omega) (by simp [sumsK]; omega) (fun k hk => ?_)
    simp only [sumsK, List.mem_cons, List.mem_map] at hk
    rcases hk with rfl | ⟨z, hz, rfl⟩
    · exact wide_at (by omega) (by decide)
    · exact wide_keyS true z _ (by omega) (by have := hall z hz; omega)
  · split at hk
    · simp only [List.mem_cons, List.not_mem_nil, or_false] at hk
      rw [hk]
      exact wide_win x h3 _ (by omega)
    · simp at hk
/-- what the program takes for a list of canceled ones -/
def keyOr (k : Sx) : Bool × List UInt8 := (keyGet k).getD (false, [])
noncomputable def crlTry (v : Sx) : Cr := ⟨(keyOr ((v.ks.getD 1 Sx.nil).ks.getD 1 Sx.nil)).1, (keyOr ((v.ks.getD 1 Sx.nil).ks.getD 1 Sx.nil)).2, (v.ks.getD 2 Sx.nil).ks.tail.map (fun k => (keyOr k).2), if 3 < v.ks.length then (winGet (v.ks.getD 3 Sx.nil)).getD W4.nil else W4.nil⟩
def crlShape (v : Sx) : Bool := decide (3 ≤ v.ks.length) && (decide ((v.ks.getD 1 Sx.nil).ks.length = 2) && (decide (0 < (v.ks.getD 2 Sx.nil).ks.length) && v.may))
noncomputable def crlGet (v : Sx) : Option Cr := if crlShape v && ((crlTry v).may && v.same (crlTry v).tree) then some (crlTry v) else none
theorem W4.ends_not (x : W4) (h : x.may = true) (h' : ¬ (x.p || x.q) = true) : x = W4.nil := by
  have := (winMay_iff x).1 h
  obtain ⟨p, f, q, t⟩ := x
  dsimp only at this h'
  cases p <;> cases q <;> simp at h'
  simp at this
  obtain ⟨rfl, rfl⟩ := this
  rfl
theorem crlTry_tree (c : Cr) (h : c.may = true) : crlShape c.tree = true ∧ crlTry c.tree = c := by
  have hm := (c.may_tree h).1
  obtain ⟨s, l, ls, x⟩ := c
  simp only [Cr.may, Bool.and_eq_true] at h
  obtain ⟨h1, h2, h3⟩ := h
  obtain ⟨h4, h5⟩ := (sumsOk_iff ls).1 h2
  have hk : keyOr (keyS s l) = (s, l) := by unfold keyOr; rw [(keyGet_iff _ _ _).2 ⟨h1, rfl⟩]; rfl
  have hs : ls.map ((fun k => (keyOr k).2) ∘ keyS true) = ls := by
    have : ls.map ((fun k => (keyOr k).2) ∘ keyS true) = ls.map id := List.map_congr_left fun z hz => by
      have hz' := List.all_eq_true.1 h5 z hz
      simp only [Function.comp, keyOr]
      rw [(keyGet_iff _ _ _).2 ⟨hz', rfl⟩]
      rfl
    rw [this, List.map_id]
  refine ⟨?_, ?_⟩
  · unfold crlShape
    rw [hm]
    unfold Cr.tree
    simp [li, Sx.ks, sumsK]
  · unfold crlTry Cr.tree
    by_cases hw : (x.p || x.q) = true
    · simp [li, Sx.ks, sumsK, hk, hs, hw, (winGet_iff (winS x) x).2 ⟨h3, rfl⟩]
    · have hx := x.ends_not h3 hw
      simp only [li, Sx.ks, sumsK, hw, if_false]
      simp [hk, hs, hx, Sx.ks]
theorem crlGet_iff (v : Sx) (c : Cr) : crlGet v = some c ↔ c.may = true ∧ v = c.tree := by
  unfold crlGet
  constructor
  · intro h
    split at h
    · rename_i hc
      simp only [Bool.and_eq_true] at hc
      cases h
      exact ⟨hc.2.1, (Sx.same_iff _ _).1 hc.2.2⟩
    · cases h
  · rintro ⟨h, rfl⟩
    obtain ⟨e1, e2⟩ := crlTry_tree c h
    rw [e2, if_pos (by rw [e1, h, Sx.same_refl]; rfl)]
theorem li_ks (r : List Sx) : (li r).ks = r := rfl
/-- what the document reads -/
def refEnds (l : List Sx) : Option W4 := match l with
  | [] => some W4.nil
  | [k] => (match refWin k with | some x => if x.p || x.q then some x else none | none => none)
  | _ => none
def refOf (k : Sx) (w : List UInt8) : Bool := headL k w && decide (k.ks.length = 2)
def refSums : List Sx → Option (List (List UInt8))
  | [] => some []
  | k :: r => match refKey k with
    | some (true, l) => (refSums r).map (l :: ·)
    | _ => none
def refCrl (v : Sx) : Option Cr :=
  if v.may && (headL v crL && decide (3 ≤ v.ks.length)) then
    if refOf (v.ks.getD 1 Sx.nil) isL then
      match refKey ((v.ks.getD 1 Sx.nil).ks.getD 1 Sx.nil), refEnds (v.ks.drop 3) with
      | some (s, l), some x => if headL (v.ks.getD 2 Sx.nil) caL && decide ((v.ks.getD 2 Sx.nil).ks.length ≤ 17) then (refSums (v.ks.getD 2 Sx.nil).ks.tail).map (fun ls => ⟨s, l, ls, x⟩) else none
      | _, _ => none
    else none
  else none
theorem refSums_iff (ks : List Sx) (hc : ∀ k ∈ ks, k.clean = true) (ls : List (List UInt8)) : refSums ks = some ls ↔ ls.all (fun l => keyMay true l.length) = true ∧ ks = ls.map (keyS true) := by
  induction ks generalizing ls with
  | nil => cases ls <;> simp [refSums]
  | cons k r ih =>
    have hk := refKey_iff k (hc k (by simp))
    have ih := ih (fun k hk => hc k (by simp [hk]))
    constructor
    · intro h
      simp only [refSums] at h
      split at h
      · rename_i l e
        obtain ⟨ls', e', rfl⟩ := Option.map_eq_some_iff.1 h
        obtain ⟨h1, h2⟩ := (ih ls').1 e'
        obtain ⟨h3, h4⟩ := (hk true l).1 e
        simp [h1, h3, ← h2, h4]
      · cases h
    · rintro ⟨h1, h2⟩
      cases ls with
      | nil => cases h2
      | cons l ls =>
        simp only [List.all_cons, Bool.and_eq_true] at h1
        simp only [List.map_cons, List.cons.injEq] at h2
        simp only [refSums]
        rw [(hk true l).2 ⟨h1.1, h2.1⟩, (ih ls).2 ⟨h1.2, h2.2⟩]
        rfl
theorem may_clean {v : Sx} (h : v.may = true) : v.clean = true := by
  unfold Sx.may at h
  simp only [Bool.and_eq_true] at h
  exact h.1.1.1
theorem refCrl_iff (v : Sx) (c : Cr) : refCrl v = some c ↔ c.may = true ∧ v = c.tree := by
  constructor
  · intro h
    unfold refCrl at h
    split at h
    · rename_i hh
      simp only [Bool.and_eq_true, decide_eq_true_eq] at hh
      obtain ⟨hm, hd, hl⟩ := hh
      obtain ⟨r, rfl, hr⟩ := headL_clean (may_clean hm) hd
      rcases r with _ | ⟨k1, _ | ⟨k2, r⟩⟩
      · simp [li_ks] at hl
      · simp [li_ks] at hl
      · simp only [li_ks, List.getD_cons_succ, List.getD_cons_zero, List.drop_succ_cons, List.drop_zero] at h
        split at h
        · rename_i ho
          unfold refOf at ho
          simp only [Bool.and_eq_true, decide_eq_true_eq] at ho
          obtain ⟨r1, rfl, hr1⟩ := headL_clean (hr k1 (by simp)) ho.1
          rcases r1 with _ | ⟨x1, _ | ⟨x2, r1⟩⟩
          · simp [li_ks] at ho
          · try simp only [li_ks, List.getD_cons_succ, List.getD_cons_zero] at h
            split at h
            · rename_i s l x e1 e2
              obtain ⟨g1, rfl⟩ := (refKey_iff x1 (hr1 x1 (by simp)) s l).1 e1
              split at h
              · rename_i hcn
                simp only [Bool.and_eq_true, decide_eq_true_eq] at hcn
                obtain ⟨r2, rfl, hr2⟩ := headL_clean (hr k2 (by simp)) hcn.1
                obtain ⟨ls, e3, rfl⟩ := Option.map_eq_some_iff.1 h
                simp only [li_ks, List.tail_cons] at e3
                obtain ⟨g2, rfl⟩ := (refSums_iff r2 hr2 ls).1 e3
                have g3 : ls.length ≤ 16 := by have := hcn.2; simp [li_ks] at this; omega
                have g4 : x.may = true ∧ r = if x.p || x.q then [winS x] else [] := by
                  rcases r with _ | ⟨k, _ | ⟨k', r⟩⟩
                  · simp only [refEnds] at e2
                    cases e2
                    exact ⟨rfl, rfl⟩
                  · simp only [refEnds] at e2
                    split at e2
                    · rename_i x' e4
                      split at e2
                      · rename_i hpq
                        cases e2
                        obtain ⟨g5, rfl⟩ := (refWin_iff k (hr k (by simp)) x).1 e4
                        rw [if_pos hpq]
                        exact ⟨g5, rfl⟩
                      · cases e2
                    · cases e2
                  · simp [refEnds] at e2
                refine ⟨?_, ?_⟩
                · simp only [Cr.may]
                  rw [g1, (sumsOk_iff ls).2 ⟨g3, g2⟩, g4.1]
                  rfl
                · unfold Cr.tree sumsK
                  rw [g4.2]
                  rfl
              · cases h
            · cases h
          · simp [li_ks] at ho
        · cases h
    · cases h
  · rintro ⟨h, rfl⟩
    have hm := (c.may_tree h).1
    have hcl := may_clean hm
    obtain ⟨s, l, ls, x⟩ := c
    simp only [Cr.may, Bool.and_eq_true] at h
    obtain ⟨h1, h2, h3⟩ := h
    obtain ⟨h4, h5⟩ := (sumsOk_iff ls).1 h2
    have hkc : (keyS s l).clean = true := (bd_keyS s l h1).clean
    have hsc : ∀ k ∈ ls.map (keyS true), k.clean = true := fun k hk => by
      obtain ⟨z, hz, rfl⟩ := List.mem_map.1 hk
      exact (bd_keyS true z (List.all_eq_true.1 h5 z hz)).clean
    have e1 := (refKey_iff (keyS s l) hkc s l).2 ⟨h1, rfl⟩
    have e3 := (refSums_iff (ls.map (keyS true)) hsc ls).2 ⟨h5, rfl⟩
    have e2 : refEnds (if x.p || x.q then [winS x] else []) = some x := by
      by_cases hw : (x.p || x.q) = true
      · rw [if_pos hw]
        simp only [refEnds]
        rw [(refWin_iff (winS x) (bd_win x h3).clean x).2 ⟨h3, rfl⟩]
        simp only [hw, if_true]
      · rw [if_neg hw, x.ends_not h3 hw]
        rfl
    unfold refCrl
    rw [if_pos (by rw [hm]; unfold Cr.tree; simp [headL_li, li, Sx.ks, headL, atomB, at1, Sx.l, Sx.h, Sx.da])]
    unfold Cr.tree
    simp only [li, Sx.ks, List.cons_append, List.nil_append, List.getD_cons_succ, List.getD_cons_zero, List.drop_succ_cons, List.drop_zero]
    rw [if_pos (by simp [refOf, headL, atomB, at1, Sx.l, Sx.h, Sx.da, Sx.ks])]
    simp only [e1, e2, sumsK, List.tail_cons, e3, Option.map_some]
    rw [if_pos (by simp [headL, atomB, at1, Sx.l, Sx.h, Sx.da, Sx.ks]; omega)]
theorem crl_agree (v : Sx) : refCrl v = crlGet v := by
  cases h : refCrl v with
  | none =>
    cases h' : crlGet v with
    | none => rfl
    | some x => rw [(refCrl_iff v x).2 ((crlGet_iff v x).1 h')] at h; cases h
  | some x => rw [(crlGet_iff v x).2 ((refCrl_iff v x).1 h)]
end Go.Proofs.YticjhogofoffmaaDoor

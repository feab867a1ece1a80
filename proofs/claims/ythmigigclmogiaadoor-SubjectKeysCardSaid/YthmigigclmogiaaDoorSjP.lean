/- Subjects' values: plain. -/
import Derived.Test.YthmigigclmogiaaDoorSj8
namespace Go.Proofs.YthmigigclmogiaaDoor
open Go.RowKit
set_option linter.unusedSimpArgs false
set_option linter.unusedVariables false

def nmL : List UInt8 := [110, 97, 109, 101]
def knL : List UInt8 := [107, 45, 111, 102, 45, 110]
mutual
def Sj.value : Sj → Sx
  | .mk kd s da ns k ks => if kd = 3 then li (at1 knL :: at1 (numL k) :: at1 (numL (ks.length : Int)) :: Sj.valueL ks) else if kd = 1 then keyS s da else li (at1 nmL :: keyS s da :: ns.map at1)
def Sj.valueL : List Sj → List Sx
  | [] => []
  | x :: r => x.value :: Sj.valueL r
end
theorem value_def (kd : Nat) (s : Bool) (da : List UInt8) (ns : List (List UInt8)) (k : Int) (ks : List Sj) : (Sj.mk kd s da ns k ks).value = (if kd = 3 then li (at1 knL :: at1 (numL k) :: at1 (numL (ks.length : Int)) :: Sj.valueL ks) else if kd = 1 then keyS s da else li (at1 nmL :: keyS s da :: ns.map at1)) := by simp only [Sj.value]
theorem valueL_map (ks : List Sj) : Sj.valueL ks = ks.map Sj.value := by
  induction ks with
  | nil => rfl
  | cons x r ih => simp only [Sj.valueL, List.map_cons, ih]
def Sj.may (s : Sj) : Bool := s.right 1 && s.value.may
theorem pl_yes {s : Bool} {da : List UInt8} {k : Int} {ks : List Sj} (h : pl s da k ks = true) : k = 0 ∧ ks = [] ∧ keyMay s da.length = true := by
  unfold pl at h
  simp only [Bool.and_eq_true, beq_iff_eq] at h
  exact ⟨h.1, List.eq_nil_of_length_eq_zero h.2.1, h.2.2⟩
theorem keyMay_len {s : Bool} {n : Nat} (h : keyMay s n = true) : n ≤ 64 := by
  unfold keyMay at h
  split at h <;> simp at h <;> omega
theorem right_cases {kd : Nat} {s : Bool} {da : List UInt8} {ns : List (List UInt8)} {k : Int} {ks : List Sj} {d : Nat} (h : (Sj.mk kd s da ns k ks).right d = true) :
    (kd = 1 ∧ k = 0 ∧ ks = [] ∧ ns = [] ∧ keyMay s da.length = true) ∨ (kd = 2 ∧ k = 0 ∧ ks = [] ∧ 0 < ns.length ∧ ns.length ≤ 8 ∧ keyMay s da.length = true) ∨
    (kd = 3 ∧ s = false ∧ da = [] ∧ ns = [] ∧ 1 ≤ k ∧ k ≤ ks.length ∧ ks.length ≤ 8 ∧ d ≤ 3 ∧ ∀ x ∈ ks, x.right (d + 1) = true) := by
  rw [right_def] at h
  split at h
  · rename_i hk
    simp only [Bool.and_eq_true, beq_iff_eq] at h
    obtain ⟨h1, h2, h3⟩ := pl_yes h.1
    exact .inl ⟨hk, h1, h2, List.eq_nil_of_length_eq_zero h.2, h3⟩
  · split at h
    · rename_i _ hk
      simp only [Bool.and_eq_true, decide_eq_true_eq] at h
      obtain ⟨h1, h2, h3⟩ := pl_yes h.1
      exact .inr (.inl ⟨hk, h1, h2, h.2.1, h.2.2.1, h3⟩)
    · split at h
      · rename_i _ _ hk
        rw [wrongL_any] at h
        simp only [badJ, Bool.and_eq_true, Bool.not_eq_true', Bool.or_eq_false_iff, decide_eq_false_iff_not, List.any_eq_false, Bool.not_eq_true, Bool.not_eq_false'] at h
        obtain ⟨⟨h1, h2, h3, h4, h5, h6⟩, h7⟩ := h
        exact .inr (.inr ⟨hk, h2, List.eq_nil_of_length_eq_zero (by omega), List.eq_nil_of_length_eq_zero (by omega), by omega, by omega, by omega, by omega, fun x hx => by simpa using h7 x hx⟩)
      · cases h
theorem keyS_inj {s t : Bool} {l m : List UInt8} (h : keyS s l = keyS t m) : s = t ∧ l = m := by
  cases s <;> cases t <;> simp only [keyS_true, keyS_false, li, at1, Sx.mk.injEq, List.cons.injEq] at h
  · exact ⟨rfl, by simpa using h⟩
  · simp at h
  · simp at h
  · exact ⟨rfl, by simpa using h⟩
theorem keyS_not (s : Bool) (l : List UInt8) (hd : List UInt8) (r : List Sx) (h : hd = nmL ∨ hd = knL) : keyS s l ≠ li (at1 hd :: r) := by
  intro e
  cases s <;> simp only [keyS_true, keyS_false, li, at1, Sx.mk.injEq, List.cons.injEq] at e <;> rcases h with rfl | rfl <;> exact absurd e.2.2.2.2.1.2.2.2.1 (by decide)
theorem at1_inj {a b : List (List UInt8)} (h : a.map at1 = b.map at1) : a = b := by
  induction a generalizing b with
  | nil => cases b with
    | nil => rfl
    | cons y s => cases h
  | cons x r ih => cases b with
    | nil => cases h
    | cons y s =>
      simp only [List.map_cons, List.cons.injEq, at1, Sx.mk.injEq] at h
      rw [h.1.2.2.2.1, ih h.2]
theorem value_inj (s : Sj) : ∀ (t : Sj) (d e : Nat), s.right d = true → t.right e = true → s.value = t.value → s = t := by
  induction s using Sj.ind with
  | h kd s da ns k ks ih =>
    intro t d e h1 h2 hv
    obtain ⟨kd2, s2, da2, ns2, k2, ks2⟩ := t
    rw [value_def, value_def] at hv
    rcases right_cases h1 with ⟨rfl, rfl, rfl, rfl, _⟩ | ⟨rfl, rfl, rfl, _, _, _⟩ | ⟨rfl, rfl, rfl, rfl, hk1, hk2, _, _, hks⟩ <;>
      rcases right_cases h2 with ⟨rfl, rfl, rfl, rfl, _⟩ | ⟨rfl, rfl, rfl, _, _, _⟩ | ⟨rfl, rfl, rfl, rfl, hk3, hk4, _, _, hks2⟩
    · obtain ⟨rfl, rfl⟩ := keyS_inj (by simpa using hv)
      rfl
    · exact absurd (by simpa using hv) (keyS_not s da nmL _ (.inl rfl))
    · exact absurd (by simpa using hv) (keyS_not s da knL _ (.inr rfl))
    · exact absurd (by simpa using hv.symm) (keyS_not s2 da2 nmL _ (.inl rfl))
    · have hv' : li (at1 nmL :: keyS s da :: ns.map at1) = li (at1 nmL :: keyS s2 da2 :: ns2.map at1) := by simpa using hv
      simp only [li, Sx.mk.injEq, List.cons.injEq] at hv'
      obtain ⟨rfl, rfl⟩ := keyS_inj hv'.2.2.2.2.2.1
      rw [at1_inj hv'.2.2.2.2.2.2]
    · exfalso
      have hv' : li (at1 nmL :: keyS s da :: ns.map at1) = li (at1 knL :: at1 (numL k2) :: at1 (numL (ks2.length : Int)) :: Sj.valueL ks2) := by simpa using hv
      simp only [li, at1, Sx.mk.injEq, List.cons.injEq] at hv'
      exact absurd hv'.2.2.2.2.1.2.2.2.1 (by decide)
    · exact absurd (by simpa using hv.symm) (keyS_not s2 da2 knL _ (.inr rfl))
    · exfalso
      have hv' : li (at1 knL :: at1 (numL k) :: at1 (numL (ks.length : Int)) :: Sj.valueL ks) = li (at1 nmL :: keyS s2 da2 :: ns2.map at1) := by simpa using hv
      simp only [li, at1, Sx.mk.injEq, List.cons.injEq] at hv'
      exact absurd hv'.2.2.2.2.1.2.2.2.1 (by decide)
    · have hv' : li (at1 knL :: at1 (numL k) :: at1 (numL (ks.length : Int)) :: Sj.valueL ks) = li (at1 knL :: at1 (numL k2) :: at1 (numL (ks2.length : Int)) :: Sj.valueL ks2) := by simpa using hv
      simp only [li, at1, Sx.mk.injEq, List.cons.injEq, true_and, and_true] at hv'
      obtain ⟨hn, hl, hks'⟩ := hv'
      obtain ⟨n, rfl⟩ : ∃ n : Nat, k = n := ⟨k.toNat, by omega⟩
      obtain ⟨m, rfl⟩ : ∃ m : Nat, k2 = m := ⟨k2.toNat, by omega⟩
      obtain rfl := numL_inj hn
      have hll := numL_inj hl
      have : ks = ks2 := by
        rw [valueL_map, valueL_map] at hks'
        refine List.ext_getElem hll (fun i hi hi2 => ?_)
        refine ih _ (List.getElem_mem hi) _ (d + 1) (e + 1) (hks _ (List.getElem_mem hi)) (hks2 _ (List.getElem_mem hi2)) ?_
        have h5 : (ks.map Sj.value)[i]'(by simpa using hi) = (ks2.map Sj.value)[i]'(by simpa using hi2) := by simp only [hks']
        simpa using h5
      rw [this]
theorem keyS_wide (s : Bool) (l : List UInt8) (q : Nat) (hl : l.length ≤ 5000) (hq : q ≤ 50) : (keyS s l).wide q = false := by
  cases s <;> simp only [keyS_true, keyS_false, li, at1, wide_def, Sx.wideL, haL, shL, pkL, edL] <;> simp <;> omega
theorem wideK_no {ks : List Sx} {m : Nat} (h : ∀ k ∈ ks, k.wide m = false) : Sx.wideL ks m = false := by
  induction ks with
  | nil => rfl
  | cons x r ih => simp only [Sx.wideL]; rw [h x List.mem_cons_self, ih (fun k hk => h k (List.mem_cons_of_mem _ hk))]; rfl
theorem at1_wide (l : List UInt8) (q : Nat) (hl : l.length ≤ 5000) (hq : q ≤ 60) : (at1 l).wide q = false := by
  simp only [at1, wide_def, Sx.wideL]; simp; omega
theorem li_wide {ks : List Sx} {q : Nat} (hq : q ≤ 60) (hl : ks.length ≤ 700) (h : ∀ k ∈ ks, k.wide (q + 1) = false) : (li ks).wide q = false := by
  unfold li
  rw [wide_def, wideK_no h]
  simp
  omega
theorem value_wide (s : Sj) : ∀ (d m q : Nat), s.right d = true → s.great m = false → q ≤ 20 + d → d ≤ 4 → s.value.wide q = false := by
  induction s using Sj.ind with
  | h kd s da ns k ks ih =>
    intro d m q h1 h2 hq hd
    obtain ⟨g1, g2, g3, g4, g5, g6⟩ := greatJ_no h2
    rw [value_def]
    rcases right_cases h1 with ⟨rfl, rfl, rfl, rfl, _⟩ | ⟨rfl, rfl, rfl, _, _, _⟩ | ⟨rfl, rfl, rfl, rfl, hk1, hk2, hk3, hk4, hks⟩
    · simp only [show ¬ (1 = 3) by decide, if_false, if_true]
      exact keyS_wide _ _ _ (by omega) (by omega)
    · simp only [show ¬ (2 = 3) by decide, show ¬ (2 = 1) by decide, if_false]
      refine li_wide (by omega) (by simp; omega) (fun x hx => ?_)
      simp only [List.mem_cons, List.mem_map] at hx
      rcases hx with rfl | rfl | ⟨l, hl, rfl⟩
      · exact at1_wide _ _ (by decide) (by omega)
      · exact keyS_wide _ _ _ (by omega) (by omega)
      · exact at1_wide _ _ (g5 l hl) (by omega)
    · simp only [if_true]
      rw [valueL_map]
      refine li_wide (by omega) (by simp; omega) (fun x hx => ?_)
      simp only [List.mem_cons, List.mem_map] at hx
      rcases hx with rfl | rfl | rfl | ⟨y, hy, rfl⟩
      · exact at1_wide _ _ (by decide) (by omega)
      · exact at1_wide _ _ (by have := numL_len k (by omega); omega) (by omega)
      · exact at1_wide _ _ (by have := numL_len (ks.length : Int) (by omega); omega) (by omega)
      · exact ih y hy (d + 1) (m + 1) (q + 1) (hks y hy) (greatL_no g6 y hy) (by omega) (by omega)
end Go.Proofs.YthmigigclmogiaaDoor

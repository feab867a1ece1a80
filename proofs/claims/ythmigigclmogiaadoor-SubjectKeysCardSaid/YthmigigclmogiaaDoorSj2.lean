/- Subjects: what the functions compute, in plain words. -/
import Derived.Test.YthmigigclmogiaaDoorSj
namespace Go.Proofs.YthmigigclmogiaaDoor
open Go.RowKit
set_option linter.unusedSimpArgs false
set_option linter.unusedVariables false

mutual
def Sj.same : Sj → Sj → Bool
  | .mk kd s da ns k ks, .mk kd2 s2 da2 ns2 k2 ks2 => kd == kd2 && (k == k2 && ((s == s2 && da == da2) && (ns == ns2 && Sj.sameL ks ks2)))
def Sj.sameL : List Sj → List Sj → Bool
  | [], [] => true
  | a :: r, b :: s => a.same b && Sj.sameL r s
  | _, _ => false
end
mutual
def Sj.great : Sj → Nat → Bool
  | .mk _ _ da ns _ ks, at_ => decide (6 < at_) || (decide (12 < ks.length) || (decide (12 < ns.length) || (decide (200 < da.length) || (ns.any (fun n => decide (5000 < n.length)) || Sj.greatL ks (at_ + 1)))))
def Sj.greatL : List Sj → Nat → Bool
  | [], _ => false
  | k :: r, at_ => k.great at_ || Sj.greatL r at_
end
mutual
def Sj.keys : Sj → List (Bool × List UInt8)
  | .mk kd s da _ _ ks => (if kd = 1 ∨ kd = 2 then [(s, da)] else []) ++ Sj.keysL ks
def Sj.keysL : List Sj → List (Bool × List UInt8)
  | [] => []
  | k :: r => k.keys ++ Sj.keysL r
end
theorem Sj.same_iff (s : Sj) : ∀ t, s.same t = true ↔ s = t := by
  induction s using Sj.ind with
  | h kd s da ns k ks ih =>
    intro t
    obtain ⟨kd2, s2, da2, ns2, k2, ks2⟩ := t
    have key : Sj.sameL ks ks2 = true ↔ ks = ks2 := by
      induction ks generalizing ks2 with
      | nil => cases ks2 <;> simp [Sj.sameL]
      | cons x r ihr =>
        cases ks2 with
        | nil => simp [Sj.sameL]
        | cons y s =>
          simp only [Sj.sameL, Bool.and_eq_true, ih x List.mem_cons_self y, ihr (fun k hk => ih k (List.mem_cons_of_mem _ hk)) s, List.cons.injEq]
    simp only [Sj.same, Bool.and_eq_true, beq_iff_eq, key, Sj.mk.injEq]
    constructor
    · rintro ⟨rfl, rfl, ⟨rfl, rfl⟩, rfl, rfl⟩; exact ⟨rfl, rfl, rfl, rfl, rfl, rfl⟩
    · rintro ⟨rfl, rfl, rfl, rfl, rfl, rfl⟩; exact ⟨rfl, rfl, ⟨rfl, rfl⟩, rfl, rfl⟩
theorem Sj.same_refl (s : Sj) : s.same s = true := (s.same_iff s).2 rfl
theorem Sj.sameL_len {a b : List Sj} (h : a.length ≠ b.length) : Sj.sameL a b = false := by
  induction a generalizing b with
  | nil => cases b with
    | nil => exact absurd rfl h
    | cons y s => rfl
  | cons x r ih => cases b with
    | nil => rfl
    | cons y s => simp only [Sj.sameL]; rw [ih (fun e => h (by simp [e]))]; simp
theorem Sj.sameL_snoc {a b : List Sj} (k : Nat) (h : k < a.length) (h' : k < b.length) : Sj.sameL (a.take (k + 1)) (b.take (k + 1)) = (Sj.sameL (a.take k) (b.take k) && a[k].same b[k]) := by
  induction a generalizing b k with
  | nil => simp at h
  | cons x r ih =>
    cases b with
    | nil => simp at h'
    | cons y s =>
      cases k with
      | zero => simp [Sj.sameL]
      | succ k => simp only [List.take_succ_cons, Sj.sameL, List.getElem_cons_succ]; rw [ih k (by simpa using h) (by simpa using h'), Bool.and_assoc]
theorem Sj.sameL_no {a b : List Sj} (k : Nat) (h : k < a.length) (h' : k < b.length) (hk : a[k].same b[k] = false) : Sj.sameL a b = false := by
  induction a generalizing b k with
  | nil => simp at h
  | cons x r ih =>
    cases b with
    | nil => simp at h'
    | cons y s =>
      cases k with
      | zero => simp only [List.getElem_cons_zero] at hk; simp [Sj.sameL, hk]
      | succ k => simp only [Sj.sameL, ih k (by simpa using h) (by simpa using h') (by simpa using hk), Bool.and_false]
theorem Sj.greatL_snoc (ks : List Sj) (m k : Nat) (h : k < ks.length) : Sj.greatL (ks.take (k + 1)) m = (Sj.greatL (ks.take k) m || ks[k].great m) := by
  induction ks generalizing k with
  | nil => simp at h
  | cons x r ih =>
    cases k with
    | zero => simp [Sj.greatL]
    | succ k => simp only [List.take_succ_cons, Sj.greatL, List.getElem_cons_succ]; rw [ih k (by simpa using h), Bool.or_assoc]
theorem Sj.greatL_yes {ks : List Sj} {k : Sj} {m : Nat} (h : k ∈ ks) (hk : k.great m = true) : Sj.greatL ks m = true := by
  induction ks with
  | nil => cases h
  | cons x r ih =>
    rcases List.mem_cons.1 h with rfl | h
    · simp [Sj.greatL, hk]
    · simp [Sj.greatL, ih h]
theorem Sj.keysL_snoc (ks : List Sj) (k : Nat) (h : k < ks.length) : Sj.keysL (ks.take (k + 1)) = Sj.keysL (ks.take k) ++ ks[k].keys := by
  induction ks generalizing k with
  | nil => simp at h
  | cons x r ih =>
    cases k with
    | zero => simp [Sj.keysL]
    | succ k => simp only [List.take_succ_cons, Sj.keysL, List.getElem_cons_succ]; rw [ih k (by simpa using h), List.append_assoc]
theorem great_def (kd : Nat) (s : Bool) (da : List UInt8) (ns : List (List UInt8)) (k : Int) (ks : List Sj) (m : Nat) : (Sj.mk kd s da ns k ks).great m = (decide (6 < m) || (decide (12 < ks.length) || (decide (12 < ns.length) || (decide (200 < da.length) || (ns.any (fun n => decide (5000 < n.length)) || Sj.greatL ks (m + 1)))))) := by simp only [Sj.great]
theorem sameJ_def (kd : Nat) (s : Bool) (da : List UInt8) (ns : List (List UInt8)) (k : Int) (ks : List Sj) (kd2 : Nat) (s2 : Bool) (da2 : List UInt8) (ns2 : List (List UInt8)) (k2 : Int) (ks2 : List Sj) :
    (Sj.mk kd s da ns k ks).same (.mk kd2 s2 da2 ns2 k2 ks2) = (kd == kd2 && (k == k2 && ((s == s2 && da == da2) && (ns == ns2 && Sj.sameL ks ks2)))) := by simp only [Sj.same]
theorem anyB_snoc (p : List UInt8 → Bool) (ls : List (List UInt8)) (k : Nat) (h : k < ls.length) : (ls.take (k + 1)).any p = ((ls.take k).any p || p ls[k]) := by
  rw [List.take_succ_eq_append_getElem h, List.any_append]
  simp
/-- the names are the same, as far as k -/
theorem names_snoc {a b : List (List UInt8)} (k : Nat) (h : k < a.length) (h' : k < b.length) : (a.take (k + 1) == b.take (k + 1)) = ((a.take k == b.take k) && (a[k] == b[k])) := by
  rw [List.take_succ_eq_append_getElem h, List.take_succ_eq_append_getElem h', Bool.eq_iff_iff]
  simp only [Bool.and_eq_true, beq_iff_eq]
  constructor
  · intro e
    have := List.append_inj e (by simp; omega)
    exact ⟨this.1, by simpa using this.2⟩
  · rintro ⟨e1, e2⟩; rw [e1, e2]
end Go.Proofs.YthmigigclmogiaaDoor

/- Notation: what a value is printed as. -/
import Derived.Test.YtkbblhioncecmaaDoorNtS
namespace Go.Proofs.YtkbblhioncecmaaDoor
open Go.RowKit
set_option linter.unusedVariables false
set_option linter.unusedSimpArgs false

mutual
/-- a value's advanced form -/
def Sx.adv : Sx → List UInt8
  | .mk l h hi da ks => if l then [40] ++ Sx.advL ks ++ [41] else (if h then [91] ++ plainL hi ++ [93] else []) ++ plainL da
/-- values, parted by blanks -/
def Sx.advL : List Sx → List UInt8
  | [] => []
  | k :: r => k.adv ++ Sx.advR r
/-- further values, a blank ahead of each -/
def Sx.advR : List Sx → List UInt8
  | [] => []
  | k :: r => [32] ++ k.adv ++ Sx.advR r
end
theorem Sx.advR_append (a b : List Sx) : Sx.advR (a ++ b) = Sx.advR a ++ Sx.advR b := by
  induction a with
  | nil => rfl
  | cons k a ih => simp only [List.cons_append, Sx.advR, ih, List.append_assoc]
theorem Sx.advL_snoc (ks : List Sx) (k : Nat) (h : k < ks.length) : Sx.advL (ks.take (k + 1)) = Sx.advL (ks.take k) ++ (if 0 < k then [32] else []) ++ (ks[k]'h).adv := by
  cases ks with
  | nil => cases h
  | cons x r =>
    cases k with
    | zero => simp [Sx.advL, Sx.advR]
    | succ k =>
      have h' : k < r.length := by simpa using h
      rw [List.take_succ_cons, List.take_succ_cons]
      simp only [Sx.advL, List.getElem_cons_succ]
      rw [List.take_add_one, List.getElem?_eq_getElem h', Sx.advR_append]
      simp [Sx.advR]
theorem plainL_len (l : List UInt8) : (plainL l).length ≤ 2 * l.length + 6 := by
  have h1 := quote_len l
  have h2 := hexL_len l
  have h3 := b64_len l
  unfold plainL
  split
  · omega
  · split
    · split
      · simp only [List.length_append, List.length_cons, List.length_nil]; omega
      · simp only [List.length_append, List.length_cons, List.length_nil]; omega
    · unfold quoteL
      simp only [List.length_append, List.length_cons, List.length_nil]
      omega
theorem textL_ge (l : List UInt8) : l.length + 1 ≤ (textL l).length := by
  unfold textL
  simp only [List.length_append, List.length_cons]
  omega
theorem advR_len : ∀ (ks : List Sx), (∀ k ∈ ks, k.adv.length + 1 ≤ 8 * k.form.length) → (Sx.advR ks).length ≤ 8 * (Sx.formL ks).length
  | [], _ => by simp [Sx.advR]
  | k :: r, h => by
    have h1 := h k (List.mem_cons_self ..)
    have h2 := advR_len r (fun x hx => h x (List.mem_cons_of_mem _ hx))
    simp only [Sx.advR, Sx.formL, List.length_append, List.length_cons, List.length_nil]
    omega
theorem advL_len (ks : List Sx) (h : ∀ k ∈ ks, k.adv.length + 1 ≤ 8 * k.form.length) : (Sx.advL ks).length ≤ 8 * (Sx.formL ks).length := by
  cases ks with
  | nil => simp [Sx.advL]
  | cons k r =>
    have h1 := h k (List.mem_cons_self ..)
    have h2 := advR_len r (fun x hx => h x (List.mem_cons_of_mem _ hx))
    simp only [Sx.advL, Sx.formL, List.length_append]
    omega
theorem adv_len (s : Sx) : s.adv.length + 1 ≤ 8 * s.form.length := by
  induction s using Sx.ind with
  | h l hh hi da ks ih =>
    unfold Sx.adv Sx.form
    cases l with
    | true =>
      have := advL_len ks ih
      simp only [if_true, List.length_append, List.length_cons, List.length_nil]
      omega
    | false =>
      have h1 := plainL_len hi
      have h2 := plainL_len da
      have h3 := textL_ge hi
      have h4 := textL_ge da
      cases hh with
      | true =>
        simp
        omega
      | false =>
        simp
        omega
end Go.Proofs.YtkbblhioncecmaaDoor

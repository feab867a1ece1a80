/- Advanced forms in plain words: the places behind what is read. -/
import Derived.Test.YtkbblhioncecmaaDoorNtE
namespace Go.Proofs.YtkbblhioncecmaaDoor
open Go.RowKit
set_option linter.unusedSimpArgs false
set_option linter.unusedVariables false

theorem drop_head (f : UInt8 → Bool) : ∀ (r : List UInt8) (h : (r.takeWhile f).length < r.length), f (r[(r.takeWhile f).length]'h) = false
  | [], h => by simp at h
  | c :: r, h => by
    cases hf : f c with
    | true =>
      have e : (c :: r).takeWhile f = c :: r.takeWhile f := List.takeWhile_cons_of_pos hf
      have h' : (r.takeWhile f).length < r.length := by rw [e] at h; simpa using h
      have := drop_head f r h'
      simp only [e, List.length_cons, List.getElem_cons_succ]
      exact this
    | false =>
      have e : (c :: r).takeWhile f = [] := List.takeWhile_cons_of_neg (by rw [hf]; simp)
      simp only [e, List.length_nil, List.getElem_cons_zero]
      exact hf
theorem skipN_idem (l : List UInt8) (p : Nat) : skipN l (skipN l p) = skipN l p := by
  rcases Nat.lt_or_ge (skipN l p) l.length with h | h
  · refine skipN_other h ?_
    have h2 : ((l.drop p).takeWhile blankB).length < (l.drop p).length := by
      unfold skipN at h
      simp
      omega
    have := drop_head blankB (l.drop p) h2
    rw [List.getElem_drop] at this
    exact this
  · exact skipN_end h
theorem nLen_place {l : List UInt8} {p : Nat} (h : (nLen l p).e = 0) : p < (nLen l p).p ∧ (nLen l p).p ≤ l.length := by
  unfold nLen at h ⊢
  rcases lenR_cases l p 4096 with ⟨h1, e1⟩ | ⟨h1, h2, e1⟩ | ⟨h1, e1⟩ | ⟨k, N, hk, hpk, hmk, ht, e1⟩
  · simp [e1, BR.err] at h
  · simp [e1, BR.err] at h
  · simp [e1, BR.err] at h
  · simp only [e1, ne_eq, not_true, if_false, Int.toNat_natCast] at h ⊢
    split at h
    · simp [BR.err] at h
    · split at h
      · simp [BR.err] at h
      · split at h
        · simp [BR.err] at h
        · rename_i h1 h2 h3
          rw [if_neg h1, if_neg h2, if_neg h3]
          dsimp only
          omega
theorem pre_e {y : List UInt8} {R : BR} (h : (R.pre y).e = 0) : R.e = 0 ∧ (R.pre y).p = R.p := by
  unfold BR.pre at h ⊢
  split at h
  · rename_i h1
    rw [if_pos h1]
    exact ⟨h1, rfl⟩
  · rename_i h1
    exact absurd h h1
theorem nQuo_place (l : List UInt8) : ∀ f p, (nQuo l f p).e = 0 → p < (nQuo l f p).p ∧ (nQuo l f p).p ≤ l.length
  | 0, p, h => by simp [nQuo, BR.err] at h
  | f + 1, p, h => by
    unfold nQuo at h ⊢
    by_cases h1 : l.length ≤ p
    · rw [if_pos h1] at h; simp [BR.err] at h
    · rw [if_neg h1] at h ⊢
      by_cases h2 : l.getD p 0 = 34
      · rw [if_pos h2]; dsimp only; omega
      · rw [if_neg h2] at h ⊢
        by_cases h3 : l.getD p 0 ≠ 92
        · rw [if_pos h3] at h ⊢
          obtain ⟨h4, h5⟩ := pre_e h
          rw [h5]
          have := nQuo_place l f (p + 1) h4
          omega
        · rw [if_neg h3] at h ⊢
          by_cases h6 : (nEsc l (p + 1)).e ≠ 0
          · rw [if_pos h6] at h; exact absurd h h6
          · rw [if_neg h6] at h ⊢
            obtain ⟨h4, h5⟩ := pre_e h
            rw [h5]
            have := nQuo_place l f _ h4
            have := nEsc_place l (p + 1) (by omega)
            omega
theorem nHex_place {l : List UInt8} {p : Nat} (hp : p ≤ l.length) (h : (nHex l p).e = 0) : p < (nHex l p).p ∧ (nHex l p).p ≤ l.length := by
  have hl := nSome_len hexC 35 (l.drop p) p
  unfold nHex at h ⊢
  dsimp only at h ⊢
  generalize nSome hexC 35 (l.drop p) p = x at *
  rw [List.length_drop] at hl
  split at h
  · rename_i h1; exact absurd h h1
  · rename_i h1
    rw [if_neg h1]
    have := hl.2.2.1 (by omega)
    cases hu : unhex x.b with
    | none => rw [hu] at h; simp [BR.err] at h
    | some b => dsimp only; omega
theorem nB64_place {l : List UInt8} {p : Nat} {en : UInt8} (hp : p ≤ l.length) (h : (nB64 l p en).e = 0) : p < (nB64 l p en).p ∧ (nB64 l p en).p ≤ l.length := by
  have hl := nSome_len b64C en (l.drop p) p
  unfold nB64 at h ⊢
  dsimp only at h ⊢
  generalize nSome b64C en (l.drop p) p = x at *
  rw [List.length_drop] at hl
  split at h
  · rename_i h1; exact absurd h h1
  · rename_i h1
    rw [if_neg h1]
    have := hl.2.2.1 (by omega)
    cases hu : unb64 x.b with
    | none => rw [hu] at h; simp [BR.err] at h
    | some b => dsimp only; omega
theorem nPlain_place {l : List UInt8} {p : Nat} (h : (nPlain l p).e = 0) : p < (nPlain l p).p ∧ (nPlain l p).p ≤ l.length := by
  unfold nPlain at h ⊢
  by_cases h1 : l.length ≤ p
  · rw [if_pos h1] at h; simp [BR.err] at h
  · rw [if_neg h1] at h ⊢
    split at h
    · rename_i h2; rw [if_pos h2]; exact nLen_place h
    · rename_i h2; rw [if_neg h2]
      split at h
      · rename_i h3; rw [if_pos h3]
        have := nQuo_place l (l.length + 1) (p + 1) h
        unfold nQuote
        omega
      · rename_i h3; rw [if_neg h3]
        split at h
        · rename_i h4; rw [if_pos h4]
          have := nHex_place (by omega) h
          omega
        · rename_i h4; rw [if_neg h4]
          split at h
          · rename_i h5; rw [if_pos h5]
            have := nB64_place (by omega) h
            omega
          · rename_i h5; rw [if_neg h5]
            split at h
            · rename_i h6
              rw [if_pos h6]
              have e : (l.drop p) = l[p] :: l.drop (p + 1) := List.drop_eq_getElem_cons (by omega)
              have e2 : l.getD p 0 = l[p] := by rw [List.getD_eq_getElem?_getD, List.getElem?_eq_getElem (by omega)]; rfl
              rw [e2] at h6
              have := (List.takeWhile_sublist (l := l.drop p) signB).length_le
              rw [List.length_drop] at this
              dsimp only
              refine ⟨?_, by omega⟩
              rw [e, List.takeWhile_cons_of_pos h6, List.length_cons]
              omega
            · simp [BR.err] at h
theorem Nt_place {l : List UInt8} {m : Option (List Sx)} {p lv n : Nat} {r : RV} (h : Nt l m p lv n r) (he : r.e = 0) (hp : p ≤ l.length) : p < r.p ∧ r.p ≤ l.length ∧ (n ≤ 512 → r.n ≤ 512) ∧ n ≤ r.n := by
  induction h with
  | short h1 => simp [RV.err] at he
  | bad h1 h2 => simp [RV.err] at he
  | long h1 h2 h3 => simp [RV.err] at he
  | @hint p lv n h1 h2 h3 =>
    have := skipN_le hp
    unfold nHint at he ⊢
    dsimp only at he ⊢
    split at he
    · rename_i h4; exact absurd he h4
    · rename_i h4
      rw [if_neg h4]
      split at he
      · simp [RV.err] at he
      · rename_i h5
        rw [if_neg h5]
        split at he
        · simp [RV.err] at he
        · rename_i h6
          rw [if_neg h6]
          split at he
          · rename_i h7; exact absurd he h7
          · rename_i h7
            rw [if_neg h7]
            dsimp only
            have a1 := skipN_le (l := l) (p := skipN l p + 1) (by omega)
            have a2 := nPlain_place (l := l) (p := skipN l (skipN l p + 1)) (by omega)
            have a3 := skipN_le (l := l) (p := (nPlain l (skipN l (skipN l p + 1))).p) (by omega)
            have a4 := skipN_le (l := l) (p := skipN l (nPlain l (skipN l (skipN l p + 1))).p + 1) (by omega)
            have a5 := nPlain_place (l := l) (p := skipN l (skipN l (nPlain l (skipN l (skipN l p + 1))).p + 1)) (by omega)
            exact ⟨by omega, by omega, fun _ => h3, by omega⟩
  | @atom p lv n h1 h2 h3 h4 h5 =>
    have := skipN_le hp
    unfold nAtom at he ⊢
    dsimp only at he ⊢
    split at he
    · rename_i h6; exact absurd he h6
    · rename_i h6
      rw [if_neg h6]
      have a1 := nPlain_place (l := l) (p := skipN l p) (by omega)
      dsimp only
      exact ⟨by omega, by omega, fun _ => h5, by omega⟩
  | list h1 h2 h3 h4 h5 ih =>
    have := skipN_le hp
    have := ih he (by omega)
    exact ⟨by omega, by omega, fun _ => this.2.2.1 h3, by omega⟩
  | close h1 h2 =>
    have := skipN_le hp
    dsimp only
    exact ⟨by omega, by omega, fun h => h, Nat.le_refl _⟩
  | fail h1 h2 h3 ih => exact absurd he h3
  | more h1 h2 h3 h4 h5 ih1 ih2 =>
    have := skipN_le hp
    have a1 := ih1 h4 (by omega)
    have a2 := ih2 he (by omega)
    exact ⟨by omega, by omega, fun h => a2.2.2.1 (a1.2.2.1 h), by omega⟩
end Go.Proofs.YtkbblhioncecmaaDoor

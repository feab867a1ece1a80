/- Notation in plain words: what is canonical is advanced; what is printed is read as it was. -/
import Derived.Test.YtkbblhioncecmaaDoorNv1
import Derived.Test.YtkbblhioncecmaaDoorNtN
namespace Go.Proofs.YtkbblhioncecmaaDoor
open Go.RowKit
set_option linter.unusedSimpArgs false
set_option linter.unusedVariables false

theorem lenR_dig {l : List UInt8} {p M : Nat} (h : (lenR l p M).2.2 = 0) : p < l.length ∧ isD (l.getD p 0) := by
  unfold lenR at h
  rw [if_neg (by omega)] at h
  split at h
  · simp at h
  · rename_i h1
    split at h
    · simp at h
    · rename_i h2
      simp only [Int.toNat_natCast] at h2
      exact ⟨by omega, Classical.not_not.1 h2⟩
theorem rB_n {l b : List UInt8} {p q : Nat} (h : rBytes l p = (b, q, 0)) : nLen l p = ⟨b, q, 0⟩ ∧ p < l.length ∧ isD (l.getD p 0) := by
  unfold rBytes at h
  dsimp only at h
  split at h
  · cases h
  · split at h
    · rename_i h1 h2
      rcases lenR_cases l p 4096 with ⟨h3, e1⟩ | ⟨h3, h4, e1⟩ | ⟨h3, e1⟩ | ⟨k, N, hk, hpk, hmk, ht, e1⟩ <;> rw [e1] at h h1 h2 <;> simp at h h2
    · rename_i h1 h2
      have h0 : (lenR l p 4096).2.2 = 0 := by simpa using h2
      have hd := lenR_dig h0
      refine ⟨?_, hd⟩
      unfold nLen
      dsimp only
      rw [if_neg (by simpa using h0)]
      split at h
      · cases h
      · rename_i h3
        rw [if_neg h3]
        split at h
        · cases h
        · rename_i h4
          rw [if_neg h4]
          split at h
          · cases h
          · rename_i h5
            rw [if_neg h5]
            injection h with e1 e2
            injection e2 with e2 e3
            rw [e1, e2]
theorem isD_numB {c : UInt8} (h : isD c) : numB c = true := by unfold isD at h; unfold numB; simp; exact h
theorem isD_blank {c : UInt8} (h : isD c) : blankB c = false := by
  unfold isD at h
  unfold blankB
  have : c ≠ 32 := fun e => by subst e; revert h; decide
  simp [this]
  omega
theorem isD_sign {c : UInt8} (h : isD c) : signB c = true := by unfold signB; simp [isD_numB h]
theorem rB_plain {l b : List UInt8} {p q : Nat} (h : rBytes l p = (b, q, 0)) : nPlain l p = ⟨b, q, 0⟩ ∧ skipN l p = p ∧ p < l.length ∧ isD (l.getD p 0) := by
  obtain ⟨h1, h2, h3⟩ := rB_n h
  have e : l[p] = l.getD p 0 := by rw [List.getD_eq_getElem?_getD, List.getElem?_eq_getElem h2]; rfl
  refine ⟨?_, skipN_other h2 (by rw [e]; exact isD_blank h3), h2, h3⟩
  unfold nPlain
  rw [if_neg (by omega), if_pos (isD_numB h3), h1]
theorem skip_at {l : List UInt8} {p : Nat} {c : UInt8} (h : p < l.length) (hc : l.getD p 0 = c) (hb : blankB c = false) : skipN l p = p :=
  skipN_other h (by rw [show l[p] = l.getD p 0 from by rw [List.getD_eq_getElem?_getD, List.getElem?_eq_getElem h]; rfl, hc]; exact hb)
theorem Nt_short' {l : List UInt8} {p lv m : Nat} {r : RV} (h : Nt l none p lv m r) (he : r.e = 0) : skipN l p < l.length := by
  rcases Nat.lt_or_ge (skipN l p) l.length with h1 | h1
  · exact h1
  · have := h.det (.short h1)
    rw [this] at he
    simp [RV.err] at he
theorem St_Nt {l : List UInt8} {m : Option (List Sx)} {p lv n : Nat} {r : RV} (h : St l m p lv n r) (he : r.e = 0) : Nt l m p lv n r ∧ (m = none → skipN l p = p) := by
  induction h with
  | short | bad | long => simp [RV.err] at he
  | @atom p lv n h1 h2 h3 h4 =>
    unfold rAtom at he ⊢
    split at he
    · rename_i h5
      obtain ⟨⟨b1, q1, e1⟩, hr1⟩ : ∃ x, x = rBytes l (p + 1) := ⟨_, rfl⟩
      rw [if_pos h5]
      simp only [← hr1] at he ⊢
      split at he
      · simp only [RV.err] at he; rename_i h; exact absurd he h
      · rename_i h6
        obtain rfl : e1 = 0 := by simpa using h6
        rw [if_neg (by simp)]
        split at he
        · simp [RV.err] at he
        · rename_i h7
          rw [if_neg h7]
          split at he
          · simp [RV.err] at he
          · rename_i h8
            rw [if_neg h8]
            obtain ⟨⟨b2, q2, e2⟩, hr2⟩ : ∃ x, x = rBytes l (q1 + 1) := ⟨_, rfl⟩
            simp only [← hr2] at he ⊢
            split at he
            · simp only [RV.err] at he; rename_i h; exact absurd he h
            · rename_i h9
              obtain rfl : e2 = 0 := by simpa using h9
              rw [if_neg (by simp)]
              obtain ⟨k1, k2, _, _⟩ := rB_plain hr1.symm
              obtain ⟨k3, k4, _, _⟩ := rB_plain hr2.symm
              have k5 : skipN l p = p := skip_at h1 h5 (by decide)
              have h8' : l.getD q1 0 = 93 := Classical.not_not.1 h8
              have k6 : skipN l q1 = q1 := skip_at (by omega) h8' (by decide)
              refine ⟨?_, fun _ => k5⟩
              have := Nt.hint (l := l) (p := p) (lv := lv) (n := n) (by rw [k5]; exact h1) (by rw [k5]; exact h5) h4
              unfold nHint at this
              dsimp only at this
              rw [k5, k2, k1] at this
              dsimp only at this
              rw [k6, if_neg (by simp), if_neg h7, if_neg h8, k4, k3] at this
              dsimp only at this
              rwa [if_neg (by simp)] at this
    · rename_i h5
      obtain ⟨⟨b1, q1, e1⟩, hr1⟩ : ∃ x, x = rBytes l p := ⟨_, rfl⟩
      rw [if_neg h5]
      simp only [← hr1] at he ⊢
      split at he
      · simp only [RV.err] at he; rename_i h; exact absurd he h
      · rename_i h6
        obtain rfl : e1 = 0 := by simpa using h6
        rw [if_neg (by simp)]
        obtain ⟨k1, k2, k3, k4⟩ := rB_plain hr1.symm
        refine ⟨?_, fun _ => k2⟩
        have := Nt.atom (l := l) (p := p) (lv := lv) (n := n) (by rw [k2]; exact h1) (by rw [k2]; unfold begB; rw [isD_sign k4]; simp) (by rw [k2]; exact h3) (by rw [k2]; exact h5) h4
        unfold nAtom at this
        dsimp only at this
        rw [k2, k1] at this
        dsimp only at this
        rwa [if_neg (by simp)] at this
  | @list p lv n r h1 h2 h3 h4 h5 ih =>
    have k := skip_at h1 h2 (by decide)
    exact ⟨.list (by rw [k]; exact h1) (by rw [k]; exact h2) h3 h4 (by rw [k]; exact (ih he).1), fun _ => k⟩
  | @close p lv n acc h1 h2 =>
    have k := skip_at h1 h2 (by decide)
    have := Nt.close (l := l) (p := p) (lv := lv) (n := n) (acc := acc) (by rw [k]; exact h1) (by rw [k]; exact h2)
    rw [k] at this
    exact ⟨this, fun h => by cases h⟩
  | fail h1 h2 h3 ih => exact absurd he h3
  | @more p lv n acc r r' h1 h2 h3 h4 ih1 ih2 =>
    obtain ⟨k1, k2⟩ := ih1 h3
    have k := k2 rfl
    have hlt : p < l.length := by
      have := Nt_short' k1 h3
      rwa [k] at this
    refine ⟨Nt.more (by rw [k]; exact hlt) (by rw [k]; exact fun e => h1 ⟨hlt, e⟩) (by rw [k]; exact k1) h3 (ih2 he).1, fun h => by cases h⟩
/-- what is canonical is advanced -/
theorem got_adv {l : List UInt8} {s : Sx} {p : Nat} (h : Got l s p 0) (hl : l.length ≤ 16384) : GotN (Nt l none 0 1 0) l s 0 0 := by
  have hm := (got_ok h).2.1
  rcases h with ⟨_, _, _, h⟩ | ⟨h1, r, hr, ⟨h2, _, _, h3⟩ | ⟨_, _, _, _, h3⟩ | ⟨h2, h3, h4, h5, _⟩⟩
  · cases h
  · exact absurd h3.symm h2
  · cases h3
  · subst h4
    have hn := (St_Nt hr h2).1
    have hp := (Nt_place hn h2 (Nat.zero_le _)).2.1
    exact .inr ⟨hl, r, hn, .inr (.inr (.inr ⟨h2, by rw [skipN_end h3]; exact h3, hm, rfl, rfl, rfl⟩))⟩
end Go.Proofs.YtkbblhioncecmaaDoor

/- A length that is written is read: plain. -/
import Derived.Test.YtcflgoddfakepaaDoorGetLen
import Derived.Test.YtcflgoddfakepaaDoorTab
namespace Go.Proofs.YtcflgoddfakepaaDoor
open Go.RowKit

def valA (a : Nat) (w : List UInt8) : Nat := w.foldl (fun a c => 10 * a + (c.toNat - 48)) a
theorem valA_nil (a : Nat) : valA a [] = a := by unfold valA; rw [List.foldl_nil]
theorem valA_cons (a : Nat) (c : UInt8) (t : List UInt8) : valA a (c :: t) = valA (10 * a + (c.toNat - 48)) t := by unfold valA; rw [List.foldl_cons]
theorem valA_ge (w : List UInt8) : ∀ (a : Nat), a ≤ valA a w := by
  induction w with
  | nil => intro a; rw [valA_nil]; exact Nat.le_refl _
  | cons c t ih => intro a; rw [valA_cons]; exact Nat.le_trans (show a ≤ 10 * a + (c.toNat - 48) by omega) (ih _)
theorem valA_snoc (w : List UInt8) (a : Nat) (c : UInt8) : valA a (w ++ [c]) = 10 * valA a w + (c.toNat - 48) := by
  unfold valA; rw [List.foldl_append, List.foldl_cons, List.foldl_nil]
theorem lenScan_app (M : Nat) (r : List UInt8) (w : List UInt8) : ∀ (a : Nat), (∀ c ∈ w, isD c) → a ≤ M → lenScan M a (w ++ r) = if M < valA a w then none else (lenScan M (valA a w) r).map fun p => (p.1, p.2 + w.length) := by
  induction w with
  | nil =>
    intro a _ ha
    rw [List.nil_append, valA_nil, if_neg (by omega)]
    cases lenScan M a r <;> simp
  | cons c t ih =>
    intro a h ha
    have hc := h c (List.mem_cons_self ..)
    rw [List.cons_append, lenScan, if_pos hc, valA_cons]
    by_cases ho : M < 10 * a + (c.toNat - 48)
    · have := valA_ge t (10 * a + (c.toNat - 48))
      rw [if_pos ho, if_pos (by omega)]
    · rw [if_neg ho, ih _ (fun d hd => h d (List.mem_cons_of_mem _ hd)) (by omega)]
      split
      · rfl
      · generalize lenScan M (valA (10 * a + (c.toNat - 48)) t) r = z
        cases z with
        | none => rfl
        | some p => simp only [Option.map_some, List.length_cons]; rw [Nat.add_assoc]

theorem dec_facts : ∀ (u : Nat), (∀ c ∈ Lib.decDigits u, isD c) ∧ valA 0 (Lib.decDigits u) = u ∧ (0 < u → (Lib.decDigits u).getD 0 0 ≠ 48) ∧ 0 < (Lib.decDigits u).length := by
  intro u
  induction u using Nat.strongRecOn with
  | _ u ih =>
    rw [Lib.decDigits]
    split
    · rename_i h
      have e : (UInt8.ofNat (48 + u)).toNat = 48 + u := by simp; omega
      refine ⟨fun c hc => ?_, ?_, fun h0 => ?_, by simp⟩
      · rw [List.mem_singleton.1 hc]; unfold isD; rw [e]; omega
      · rw [valA_cons, valA_nil, e]; omega
      · show UInt8.ofNat (48 + u) ≠ 48
        intro h2
        have := congrArg UInt8.toNat h2
        rw [e] at this
        simp at this; omega
    · rename_i h
      obtain ⟨i1, i2, i3, i4⟩ := ih (u / 10) (by omega)
      have e : (UInt8.ofNat (48 + u % 10)).toNat = 48 + u % 10 := by simp; omega
      refine ⟨fun c hc => ?_, ?_, fun _ => ?_, by simp⟩
      · rcases List.mem_append.1 hc with hc | hc
        · exact i1 c hc
        · rw [List.mem_singleton.1 hc]; unfold isD; rw [e]; omega
      · rw [valA_snoc, i2, e]; omega
      · have := i3 (by omega)
        rw [List.getD_eq_getElem?_getD, List.getElem?_append_left i4, ← List.getD_eq_getElem?_getD]; exact this

theorem back_len (n : Int) (h0 : 0 ≤ n) (t : List UInt8) (ht : ∀ c r, t = c :: r → ¬ isD c) (M : Nat) (hM : n.toNat ≤ M) : lenR (numL n ++ t) 0 M = (n, ((numL n).length : Int), 0) := by
  obtain ⟨d1, d2, d3, d4⟩ := dec_facts n.toNat
  unfold numL at *
  obtain ⟨L, hL⟩ : ∃ L, L = Lib.decDigits n.toNat := ⟨_, rfl⟩
  rw [← hL] at d1 d2 d3 d4 ⊢
  have hg : (L ++ t).getD 0 0 = L.getD 0 0 := by simp [List.getD_eq_getElem?_getD, List.getElem?_append_left d4]
  have hd : isD (L.getD 0 0) := d1 _ (by simp [List.getD_eq_getElem?_getD, List.getElem?_eq_getElem d4])
  unfold lenR
  rw [if_neg (by omega), if_neg (by rw [List.length_append]; omega), Int.toNat_zero, hg, if_neg (fun h => h hd)]
  by_cases hn : n = 0
  · subst hn
    have : L = [48] := by rw [hL, Lib.decDigits]; rfl
    subst this
    rfl
  · have h1 := d3 (by omega)
    rw [if_neg h1, List.drop_zero, lenScan_app M t L 0 d1 (Nat.zero_le _), d2, if_neg (by omega)]
    have : lenScan M n.toNat t = some (n.toNat, 0) := by
      cases t with
      | nil => rfl
      | cons c r => unfold lenScan; rw [if_neg (ht c r rfl)]
    rw [this]
    simp; omega
end Go.Proofs.YtcflgoddfakepaaDoor

/- Rows of slices of bytes: sources and targets of appends; a row turned round. -/
import Derived.Test.YticjhogofoffmaaDoorCr9
namespace Go.Proofs.YticjhogofoffmaaDoor
open Go.RowKit
set_option linter.unusedSimpArgs false
set_option linter.unusedVariables false

theorem infoSl : (Tryd.prog.info? 22).map (fun i => (i.zero, i.size, i.bytes)) = some (some (.slice none 0 0), 1, 24) := by kernel_rfl
/-- 'append(out, l...)' of slices of bytes -/
theorem wp_append_Z {o : Oper} {a : Act} {w : World} {B n : Nat} {v : Value} {xs : List Value} {K : Act → World → Prop} {Q : Exit → Act → World → Prop} (s x : Operand)
    (ho : o.op = .call { callee := .builtin .append, args := #[s, x], argTypes := #[25, 25] })
    (hs : a.eval s = v) (h : OwnG w B 1 v n xs) {m : Nat} {news : List Value} {xv : Value} (hx : a.eval x = xv) (hsrc : Src Tryd.prog 1 25 xv m news w) (hn : n + m ≤ 1000000) (hB : B ≤ w.heap.size)
    (hk : ∀ v' w', OwnG w' B 1 v' (n + m) (xs ++ news) → w.grownBy w' v.ownBlock → (∀ k, v'.ownBlock = some k → v.ownBlock = some k ∨ w.heap.size ≤ k) → K (a.put o.dst v') w') : o.wp Tryd.prog a w K Q := by
  obtain ⟨i0, hi, hi2⟩ := Option.map_eq_some_iff.1 infoSl
  simp only [Prod.mk.injEq] at hi2
  obtain ⟨hz0, hz1, hz2⟩ := hi2
  exact wp_append_G s x 25 25 ho 22 i0 (.slice none 0 0) 24 Tryd.underlying25 hi hz0 hz1 hz2 rfl (by decide) hs h _ hx m news hsrc (by unfold maxLen; omega) (by omega) hB hk

/-- m values of a row from the k-th on -/
def vZ (Z : Nat → S3) (k m : Nat) : List Value := (List.range m).map fun i => (Z (k + i)).val
theorem vZ_len (Z : Nat → S3) (k m : Nat) : (vZ Z k m).length = m := by simp [vZ]
theorem vZ_get (Z : Nat → S3) (k m i : Nat) (h : i < m) : (vZ Z k m)[i]? = some (Z (k + i)).val := by simp [vZ, h]
theorem RowS.src {w : World} {b o n c : Nat} {Z : Nat → S3} {ls : List (List UInt8)} (h : RowS w (some ⟨b, o, none⟩) n c Z ls) (k m cc : Nat) (hk : k + m ≤ n) : Src Tryd.prog 1 25 (.slice (some ⟨b, o + k, none⟩) m cc) m (vZ Z k m) w := by
  refine Src.ofSlice _ Tryd.underlying25 ⟨b, o + k, none⟩ m cc _ (by rw [vZ_len]; omega) (fun j u hu => ?_) (fun u hu => ?_)
  · have hj : j < m := by rw [← vZ_len Z k m]; exact (List.getElem?_eq_some_iff.1 hu).1
    rw [vZ_get Z k m j hj] at hu
    obtain rfl := Option.some.inj hu
    rw [Addr.add_mid]
    obtain ⟨b', o', e, hc⟩ := h.cell (i := k + j) (by omega)
    cases e
    rw [Nat.add_assoc]
    exact hc
  · obtain ⟨i, _, rfl⟩ := List.mem_map.1 hu
    rfl
theorem OwnG.rowS {w : World} {B n : Nat} {v : Value} {xs : List Value} (h : OwnG w B 1 v n xs) (Z : Nat → S3) (ls : List (List UInt8)) (hx : ∀ i, i < n → xs[i]? = some (Z i).val) (hn : n = ls.length)
    (hs : ∀ i (hi : i < ls.length), Sl w (Z i).a (Z i).n (Z i).c ls[i]) : ∃ a c, v = .slice a n c ∧ RowS w a n c Z ls := by
  rcases h.2 with ⟨rfl, rfl⟩ | ⟨g, o, cap, rfl, h3, h4, h5, h6, h7, h8⟩
  · exact ⟨none, 0, rfl, Nat.le_refl _, Nat.zero_le _, fun _ => rfl, hn, .inl rfl, hs⟩
  · exact ⟨_, _, rfl, h5, h6, (fun h => by cases h), hn, .inr ⟨g, o, rfl, fun i hi => h8 i _ (hx i hi)⟩, hs⟩

/-- the row turned by k, and its k-th value once more -/
def zT (Z : Nat → S3) (n k i : Nat) : S3 := if i < n - k then Z (k + i) else if i < n then Z (i - (n - k)) else Z k
def lT (ls : List (List UInt8)) (k : Nat) : List (List UInt8) := ls.drop k ++ (ls.take k ++ [ls.getD k []])
theorem xs_get (Z : Nat → S3) (n k : Nat) (hk : k < n) (i : Nat) (hi : i < n - k + k + 1) : (([] ++ vZ Z k (n - k)) ++ vZ Z 0 k ++ vZ Z k 1)[i]? = some (zT Z n k i).val := by
  rw [List.nil_append, List.append_assoc]
  unfold zT
  by_cases h1 : i < n - k
  · rw [List.getElem?_append_left (by rw [vZ_len]; exact h1), vZ_get _ _ _ _ h1, if_pos h1]
  · rw [List.getElem?_append_right (by rw [vZ_len]; omega), vZ_len, if_neg h1]
    by_cases h2 : i < n
    · rw [List.getElem?_append_left (by rw [vZ_len]; omega), vZ_get _ _ _ _ (by omega), if_pos h2, Nat.zero_add]
    · rw [List.getElem?_append_right (by rw [vZ_len]; omega), vZ_len, if_neg h2, vZ_get _ _ _ _ (by omega), show k + (i - (n - k) - k) = k by omega]
theorem lT_len (ls : List (List UInt8)) (k : Nat) (h : k < ls.length) : (lT ls k).length = ls.length - k + k + 1 := by
  simp [lT]
  omega
theorem lT_get (ls : List (List UInt8)) (k : Nat) (h : k < ls.length) (i : Nat) (hi : i < (lT ls k).length) : ∃ j, ∃ hj : j < ls.length, (lT ls k)[i] = ls[j] ∧ ∀ Z, zT Z ls.length k i = Z j := by
  have hlen := lT_len ls k h
  by_cases h1 : i < ls.length - k
  · refine ⟨k + i, by omega, ?_, fun Z => by unfold zT; rw [if_pos h1]⟩
    simp only [lT]
    rw [List.getElem_append_left (by simp; omega), List.getElem_drop]
  · by_cases h2 : i < ls.length
    · refine ⟨i - (ls.length - k), by omega, ?_, fun Z => by unfold zT; rw [if_neg h1, if_pos h2]⟩
      simp only [lT]
      rw [List.getElem_append_right (by simp; omega), List.getElem_append_left (by simp; omega), List.getElem_take]
      simp
    · refine ⟨k, h, ?_, fun Z => by unfold zT; rw [if_neg h1, if_neg h2]⟩
      simp only [lT]
      rw [List.getElem_append_right (by simp; omega), List.getElem_append_right (by simp; omega)]
      simp [List.getD, List.getElem?_eq_getElem h]
theorem lT_any (p : List UInt8 → Bool) (ls : List (List UInt8)) (k : Nat) (h : k < ls.length) : (lT ls k).any p = ls.any p := by
  have e : ls.getD k [] = ls[k] := by simp [List.getD, List.getElem?_eq_getElem h]
  unfold lT
  rw [e, Bool.eq_iff_iff]
  simp only [List.any_append, List.any_cons, List.any_nil, Bool.or_false, Bool.or_eq_true]
  constructor
  · rintro (h1 | h1 | h1)
    · obtain ⟨x, hx, hp⟩ := List.any_eq_true.1 h1
      exact List.any_eq_true.2 ⟨x, List.mem_of_mem_drop hx, hp⟩
    · obtain ⟨x, hx, hp⟩ := List.any_eq_true.1 h1
      exact List.any_eq_true.2 ⟨x, List.mem_of_mem_take hx, hp⟩
    · exact List.any_eq_true.2 ⟨_, List.getElem_mem h, h1⟩
  · intro h1
    rw [← List.take_append_drop k ls, List.any_append, Bool.or_eq_true] at h1
    rcases h1 with h1 | h1
    · exact .inr (.inl h1)
    · exact .inl h1
theorem RowS.turned {w : World} {B : Nat} {v : Value} {a : Option Addr} {n c : Nat} {Z : Nat → S3} {ls : List (List UInt8)} (hr : RowS w a n c Z ls) (k : Nat) (hk : k < n) (h : OwnG w B 1 v (0 + (n - k) + k + 1) (([] ++ vZ Z k (n - k)) ++ vZ Z 0 k ++ vZ Z k 1)) :
    ∃ a' c', v = .slice a' (0 + (n - k) + k + 1) c' ∧ RowS w a' (0 + (n - k) + k + 1) c' (zT Z n k) (lT ls k) := by
  obtain ⟨h1, h2, h3, h4, h5, h6⟩ := hr
  subst h4
  refine OwnG.rowS h (zT Z ls.length k) (lT ls k) (fun i hi => xs_get Z _ k hk i (by omega)) (by rw [lT_len ls k hk]; omega) (fun i hi => ?_)
  obtain ⟨j, hj, e1, e2⟩ := lT_get ls k hk i hi
  rw [e1, e2]
  exact h6 j hj
end Go.Proofs.YticjhogofoffmaaDoor

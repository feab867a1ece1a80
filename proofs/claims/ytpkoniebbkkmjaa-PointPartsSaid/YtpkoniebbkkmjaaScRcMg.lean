/- scalar: the document's Reduce, May, MulAdd: what they compute. -/
import Derived.Test.YtpkoniebbkkmjaaScR3Mg
import Derived.Test.YtpkoniebbkkmjaaSc5Mg
namespace Go.Proofs.Ytpkoniebbkkmjaa
open Go.RowKit

theorem digs_small (N k i : Nat) : (digs N k).getD i 0 < 65536 := by
  by_cases h : i < k
  · rw [digs_get _ _ _ h]; exact dig_lt _ _
  · simp [digs, h]
theorem dNs_digs (N k : Nat) : dNs (digs N k) = N % 65536 ^ k := by rw [digs, dNs_map, fval_of_dig]
theorem dNs_bytes (l : List UInt8) (n : Nat) (h : n = l.length) : dNs (digs (leNat l) ((n + 1) / 2)) = leNat l := by
  rw [dNs_digs]
  refine Nat.mod_eq_of_lt (Nat.lt_of_lt_of_le (leNat_lt l) ?_)
  rw [show (65536 : Nat) = 256 ^ 2 by rfl, ← Nat.pow_mul]
  exact Nat.pow_le_pow_right (by omega) (by omega)

set_option maxRecDepth 100000 in
set_option maxHeartbeats 4000000 in
theorem refReduce_any (a : Option Addr) (n c : Nat) (l : List UInt8) (w : World) (hn1 : n < 100000) (h : Sl w a n c l) :
    Calls Try.prog 54 #[.slice a n c] w (RetSl (leBytes (leNat l % LL) 32) w) := by
  have HD := Lib.hid (refDigits_any a n c l w hn1 h)
  have HE := Lib.hid (dNs_bytes l n h.1)
  have HS := Lib.hid (fun i => digs_small (leNat l) ((n + 1) / 2) i)
  obtain ⟨D, hD⟩ : ∃ D, D = digs (leNat l) ((n + 1) / 2) := ⟨_, rfl⟩
  have hDl : D.length = (n + 1) / 2 := by rw [hD, digs_len]
  rw [← hD] at HD HE HS
  have hDn : D.length < 100000 := by omega
  rw [← HE.out]
  clear hD hDl h
  unfold RetSl
  have hB := Below.refl w.heap.size w
  go_enter Try.func54, Try.ntmps54
  go_upto_region 1 with fail
  go_step
  refine wpList_value rfl (.slice a n c) (by simp [go_sem]) ?_
  simp only [Act.put, List.setIfInBounds_toArray, List.set_cons_zero, List.set_cons_succ]
  refine wpList_enterR rfl 71 #[.slice a n c] (by simp [go_sem]) _ HD.out ?_
  rintro e w1 ⟨v, rfl, hown, hb⟩
  refine ⟨_, rfl, ?_⟩
  simp only [Act.put, List.setIfInBounds_toArray, List.set_cons_zero, List.set_cons_succ]
  obtain ⟨a1, c1, rfl, hS1⟩ := Su.ofOwns hown
  replace hB := hB.trans hb
  clear hown hb
  refine wpList_enterR rfl 70 #[.slice a1 D.length c1] (by simp [go_sem]) _ (refRest_any a1 _ c1 D w1 hDn HS.out hS1) ?_
  rintro e w2 ⟨a2, c2, rfl, hs, hb⟩
  refine ⟨_, rfl, ?_⟩
  simp only [Act.put, List.setIfInBounds_toArray, List.set_cons_zero, List.set_cons_succ]
  replace hB := hB.trans (hb.mono hB.size)
  clear hb hS1
  refine wpList_value rfl (.slice a2 (leBytes (dNs D % LL) 32).length c2) (by simp [go_sem]) ?_
  simp only [Act.put, List.setIfInBounds_toArray, List.set_cons_zero, List.set_cons_succ]
  go_wp2_with fail
  go_ret
  exact ⟨a2, c2, rfl, hs, hB⟩

/-- the cells of 34 numbers -/
def fU (f : Nat → Nat) : Array Value := (uCells ((List.range 34).map f)).toArray
theorem fU_get (f : Nat → Nat) (j : Nat) (h : j < 34) : (fU f)[j]? = some (.int .u64 (f j : Nat)) := by
  simp [fU, uCells, h]
theorem fU_size (f : Nat → Nat) : (fU f).size = 34 := by simp [fU, uCells]
theorem fU_set (f : Nat → Nat) (i v : Nat) : (fU f).setIfInBounds i (.int .u64 (v : Nat)) = fU (upd f i v) := by
  apply Array.ext
  · simp [fU, uCells]
  · intro j h1 h2
    have h2' : j < 34 := by simpa [fU, uCells] using h2
    rw [Array.getElem_setIfInBounds (by simpa [fU, uCells] using h2')]
    unfold upd
    by_cases hj : i = j
    · subst hj; simp [fU, uCells]
    · rw [if_neg hj]; simp [fU, uCells, show ¬ j = i from fun e => hj e.symm]
theorem fU_zero : (uCells (List.replicate 34 0)).toArray = fU (fun _ => 0) := by
  unfold fU
  rw [List.map_const', List.length_range]
theorem fU_congr {f g : Nat → Nat} (h : ∀ j, j < 34 → f j = g j) : fU f = fU g := by
  unfold fU
  congr 2
  exact List.map_congr_left fun j hj => h j (by simpa using hj)

def BB : Nat := 4294967296
/-- how far the products are -/
structure MulD (M : Nat) (f : Nat → Nat) (s : Nat) : Prop where
  val : fval f 34 = M
  bd : ∀ j, f j ≤ s * BB
theorem MulD.put {M s : Nat} {f : Nat → Nat} (h : MulD M f s) (i v : Nat) (hi : i < 34) (hv : v < BB) : MulD (M + v * 65536 ^ i) (upd f i (f i + v)) (s + 1) := by
  obtain ⟨h1, h2⟩ := h
  refine ⟨?_, fun j => ?_⟩
  · have := (fval_upd f i (f i + v) 34).1 hi
    rw [Nat.add_mul] at this
    omega
  · have hj := h2 j
    have hii := h2 i
    have e : (s + 1) * BB = s * BB + BB := by rw [Nat.add_mul, Nat.one_mul]
    rw [e]
    unfold upd
    split
    · exact Nat.add_le_add hii (Nat.le_of_lt hv)
    · exact Nat.le_trans hj (Nat.le_add_right _ _)
theorem cr_le {f : Nat → Nat} {C : Nat} (h : ∀ j, f j ≤ C) : ∀ n, cr f n ≤ C
  | 0 => Nat.zero_le _
  | n + 1 => by
    have h1 := cr_le h n
    have h2 := h n
    rw [cr]; omega
theorem pf_end (f : Nat → Nat) : fU (pf f 34) = fU (nf f) := fU_congr fun j hj => by simp [pf, hj]
theorem mul_end {f : Nat → Nat} {M s : Nat} (h : MulD M f s) (hM : M < 65536 ^ 34) : dNs ((List.range 34).map (nf f)) = M := by
  have h1 := fval_cr f 34
  rw [h.val] at h1
  rw [dNs_map]
  generalize 65536 ^ 34 = B at *
  have : cr f 34 = 0 := by
    rcases Nat.eq_zero_or_pos (cr f 34) with h0 | h0
    · exact h0
    · have : B * 1 ≤ B * cr f 34 := Nat.mul_le_mul_left _ h0
      omega
  rw [this] at h1
  omega

theorem mul_row (M x A Yk y B : Nat) : M + x * A * Yk + x * y * (A * B) = M + x * A * (Yk + y * B) := by grind
theorem row_next (z x F FX FY A : Nat) : F + FX * FY + z * A + x * A * FY = F + z * A + (FX + x * A) * FY := by grind

end Go.Proofs.Ytpkoniebbkkmjaa

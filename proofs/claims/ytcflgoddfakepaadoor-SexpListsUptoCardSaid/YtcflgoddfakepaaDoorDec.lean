/- The document's Dec: what it computes. -/
import Derived.Test.YtcflgoddfakepaaDoorTab
import Derived.Test.YtcflgoddfakepaaDoorAny
namespace Go.Proofs.YtcflgoddfakepaaDoor
open Go.RowKit

theorem wpU_run {P : Program} {ops : Array Oper} {Q : Exit → Act → World → Prop} {md : Region.Mode} {S : World → Prop} (i : Nat) {oi : Oper} {tl : List Oper} {fuel : Nat} {listed : Array Bool} {a : Act} {w : World} (hi : ops.toList.drop i = oi :: tl) (hr : Region.ready md ops listed = [i]) (hgd : Region.wanted oi (yielded ops a.tmps) = true)
    (v : World → Value) (W : World → World) (h : ∀ w1, Below w.heap.size w w1 → S w1 → (execOp a.eval oi).run P w1 = .ok (.value (v w1)) (W w1) ∧ S (W w1) ∧ wpU P md ops Q S fuel (listed.setIfInBounds i true) (a.put oi.dst (v w1)) (W w1)) : wpU P md ops Q S (fuel + 1) listed a w :=
  wpU_one i hi hr hgd (fun w1 b1 s1 => by
    obtain ⟨h1, h2, h3⟩ := h w1 b1 s1
    unfold Oper.wp
    rw [h1]
    exact ⟨h2, h3⟩)

theorem numL_small (n : Int) (h : n < 10) : numL n = [UInt8.ofNat (48 + n.toNat)] := by
  unfold numL; rw [Lib.decDigits, dif_pos (by omega)]
theorem numL_step (n : Int) (h : 10 ≤ n) : numL n = numL (n / 10) ++ [UInt8.ofNat (48 + (n % 10).toNat)] := by
  unfold numL
  rw [Lib.decDigits, dif_neg (by omega)]
  congr 2
  · omega
  · congr 1; omega

theorem decDigits_len : ∀ (k u : Nat), u < 10 ^ (k + 1) → (Lib.decDigits u).length ≤ k + 1
  | 0, u, h => by rw [Lib.decDigits, dif_pos (by simpa using h)]; simp
  | k + 1, u, h => by
    rw [Lib.decDigits]
    split
    · simp
    · rw [List.length_append]
      have := decDigits_len k (u / 10) (by rw [Nat.pow_succ] at h; omega)
      simp; omega
theorem numL_len (n : Int) (h : n ≤ 9223372036854775807) : (numL n).length ≤ 19 := decDigits_len 18 _ (by omega)
theorem cat_ba (a b : List UInt8) : (⟨a.toArray⟩ : ByteArray) ++ ⟨b.toArray⟩ = ⟨(a ++ b).toArray⟩ := by apply ByteArray.ext; simp

theorem sl_cell1 (w : World) (c : UInt8) (z : Int) (hz : z = (c.toNat : Int)) : Sl (w.alloc (.cells #[.int .u8 z] 5)) (some ⟨w.heap.size, 0, none⟩) 1 1 [c] := by
  subst hz
  refine ⟨rfl, Nat.le_refl _, by unfold maxLen; omega, (fun h => by cases h), .inr ⟨w.heap.size, 0, rfl, fun i hi => ?_⟩⟩
  obtain rfl : i = 0 := by omega
  simp
theorem ofNat_dig (r : Nat) (h : r ≤ 9) : (48 : Int) + (r : Int) = ((UInt8.ofNat (48 + r)).toNat : Int) := by
  simp; omega

set_option maxHeartbeats 2000000 in
set_option maxRecDepth 100000 in
theorem dec_small (n : Int) (hn : n < 10) (w : World) :
    Calls Tryd.prog 39 #[.int .i64 n] w fun e w' => e = .returned (.string ⟨(numL n).toArray⟩) ∧ Below w.heap.size w w' := by
  have HN := Lib.hid (numL_small n hn)
  obtain ⟨r, hr⟩ : ∃ r : Nat, max n 0 = (r : Int) := ⟨n.toNat, by omega⟩
  have hr9 : r ≤ 9 := by omega
  have hrn : n.toNat = r := by omega
  rw [hrn] at HN
  have hz := ofNat_dig r hr9
  obtain ⟨c, hc⟩ : ∃ c, c = UInt8.ofNat (48 + r) := ⟨_, rfl⟩
  rw [← hc] at HN hz
  have hs := conv_sl (sl_cell1 w c (48 + (r : Int)) hz)
  clear hrn hz hc
  go_enter Tryd.func39, Tryd.ntmps39
  go_wp2_with fail
  go_ret
  exact ⟨by rw [HN.out]; rfl, (Below.refl _ _).alloc (Nat.le_refl _) _⟩

set_option maxHeartbeats 2000000 in
set_option maxRecDepth 100000 in
set_option linter.unusedSimpArgs false in
theorem dec_any : ∀ (k : Nat) (n : Int) (_ : n.toNat ≤ k) (_ : n ≤ 9223372036854775807) (w : World),
    Calls Tryd.prog 39 #[.int .i64 n] w fun e w' => e = .returned (.string ⟨(numL n).toArray⟩) ∧ Below w.heap.size w w' := by
  intro k
  induction k with
  | zero => intro n hk h1 w; exact dec_small n (by omega) w
  | succ k ih =>
    intro n hk h1 w
    by_cases hn : n < 10
    · exact dec_small n hn w
    replace hn : 10 ≤ n := by omega
    have HN := Lib.hid (numL_step n hn)
    obtain ⟨q, hq⟩ : ∃ q, n / 10 = q := ⟨_, rfl⟩
    obtain ⟨r, hr⟩ : ∃ r : Nat, n % 10 = (r : Int) := ⟨(n % 10).toNat, by omega⟩
    have hr9 : r ≤ 9 := by omega
    have IH := Lib.hid (fun w => ih q (by omega) (by omega) w)
    rw [hq, hr, Int.toNat_natCast] at HN
    have HQL := Lib.hid (numL_len q (by omega))
    have hz := ofNat_dig r hr9
    obtain ⟨c, hc⟩ : ∃ c, c = UInt8.ofNat (48 + r) := ⟨_, rfl⟩
    rw [← hc] at HN hz
    have HZ := Lib.hid hz
    have e1 : IntKind.i64.wrap (n.tdiv 10) = q := by rw [Int.tdiv_eq_ediv_of_nonneg (by omega), hq]; exact IntWalk.i64_in _ ⟨by omega, by omega⟩
    have e2 : n.tmod 10 = (r : Int) := by rw [Int.tmod_eq_emod_of_nonneg (by omega), hr]
    have e3 : IntKind.u8.wrap (r : Int) = (r : Int) := by rw [IntKind.wrap_u8]; omega
    have e4 : IntKind.u8.wrap (48 + (r : Int)) = 48 + (r : Int) := by rw [IntKind.wrap_u8]; omega
    clear hz hc
    go_enter Tryd.func39, Tryd.ntmps39
    go_upto_region 3 with fail
    have hKS : Keeps (fun _ => True) := fun _ _ h _ => h
    refine wp_region_U (w := w) (fun _ => True) rfl trivial ?_
    refine wpU_val 0 hKS rfl (by kernel_rfl) (by kernel_rfl) (by kernel_rfl) rfl (fun _ _ _ _ h => h) (.int .i64 n) (fun w' h => by simp [go_sem, e1, e2, e3, e4]) ?_
    simp only [Act.put, List.setIfInBounds_toArray, List.set_cons_zero, List.set_cons_succ]
    refine wpU_val 1 hKS rfl (by kernel_rfl) (by kernel_rfl) (by kernel_rfl) rfl (fun _ _ _ _ h => h) (.int .i64 q) (fun w' h => by simp [go_sem, e1, e2, e3, e4]) ?_
    simp only [Act.put, List.setIfInBounds_toArray, List.set_cons_zero, List.set_cons_succ]
    refine wpU_call 2 hKS rfl (by kernel_rfl) (by kernel_rfl) (by kernel_rfl) rfl (fun _ _ _ _ h => h) 39 #[.int .i64 q] (fun w => by simp [go_sem]) _ (IH.out) ?_
    simp only [Act.put, List.setIfInBounds_toArray, List.set_cons_zero, List.set_cons_succ]
    refine wpU_val 3 hKS rfl (by kernel_rfl) (by kernel_rfl) (by kernel_rfl) rfl (fun _ _ _ _ h => h) (.int .i64 n) (fun w' h => by simp [go_sem, e1, e2, e3, e4]) ?_
    simp only [Act.put, List.setIfInBounds_toArray, List.set_cons_zero, List.set_cons_succ]
    refine wpU_val 4 hKS rfl (by kernel_rfl) (by kernel_rfl) (by kernel_rfl) rfl (fun _ _ _ _ h => h) (.int .i64 r) (fun w' h => by simp [go_sem, e1, e2, e3, e4]) ?_
    simp only [Act.put, List.setIfInBounds_toArray, List.set_cons_zero, List.set_cons_succ]
    refine wpU_val 5 hKS rfl (by kernel_rfl) (by kernel_rfl) (by kernel_rfl) rfl (fun _ _ _ _ h => h) (.int .u8 r) (fun w' h => by simp [go_sem, e1, e2, e3, e4]) ?_
    simp only [Act.put, List.setIfInBounds_toArray, List.set_cons_zero, List.set_cons_succ]
    refine wpU_val 6 hKS rfl (by kernel_rfl) (by kernel_rfl) (by kernel_rfl) rfl (fun _ _ _ _ h => h) (.int .u8 (48 + (r : Int))) (fun w' h => by simp [go_sem, e1, e2, e3, e4]) ?_
    simp only [Act.put, List.setIfInBounds_toArray, List.set_cons_zero, List.set_cons_succ]
    refine wpU_run 7 rfl (by kernel_rfl) rfl (fun w1 => .slice (some ⟨w1.heap.size, 0, none⟩) 1 1) (fun w1 => w1.alloc (.cells #[.int .u8 (48 + (r : Int))] 5)) (fun w1 b1 _ => ⟨by simp [go_sem], trivial, ?_⟩)
    simp only [Act.put, List.setIfInBounds_toArray, List.set_cons_zero, List.set_cons_succ]
    have s1 := sl_cell1 w1 (c) (48 + (r : Int)) HZ.out
    have bb : Below w.heap.size w (w1.alloc (.cells #[.int .u8 (48 + (r : Int))] 5)) := ((Below.refl _ _).drew.trans (b1.mono (Nat.le_refl _))).alloc (by have := b1.size; simpa using this) _
    generalize w1.alloc (.cells #[.int .u8 (48 + (r : Int))] 5) = W2 at *
    generalize w1.heap.size = g at *
    refine wpU_run 8 rfl (by kernel_rfl) rfl (fun _ => .string ⟨[c].toArray⟩) (fun w1 => w1) (fun w2 b2 _ => ⟨by have := conv_sl (s1.after b2); simp [go_sem, this], trivial, ?_⟩)
    simp only [Act.put, List.setIfInBounds_toArray, List.set_cons_zero, List.set_cons_succ]
    refine wpU_run 9 rfl (by kernel_rfl) rfl (fun _ => .string ⟨(numL n).toArray⟩) (fun w1 => w1) (fun w3 b3 _ => ⟨by simp [go_sem, HN.out]; rw [if_neg (by have := HQL.out; omega)]; have := cat_ba (numL q) [c]; rw [this], trivial, ?_⟩)
    simp only [Act.put, List.setIfInBounds_toArray, List.set_cons_zero, List.set_cons_succ]
    refine wpU_run 10 rfl (by kernel_rfl) rfl (fun _ => .string ⟨(numL n).toArray⟩) (fun w1 => w1) (fun w4 b4 _ => ⟨by simp [go_sem], trivial, ?_⟩)
    simp only [Act.put, List.setIfInBounds_toArray, List.set_cons_zero, List.set_cons_succ]
    refine wpU_done (by kernel_rfl) ?_
    intro w5 b5 _
    have hB := bb.trans ((((b2.trans (b3.mono b2.size)).trans (b4.mono (b2.trans (b3.mono b2.size)).size)).trans (b5.mono ((b2.trans (b3.mono b2.size)).trans (b4.mono (b2.trans (b3.mono b2.size)).size)).size)).mono bb.size)
    clear b1 b2 b3 b4 b5
    go_wp2_with fail
    go_ret
    exact ⟨rfl, hB⟩
end Go.Proofs.YtcflgoddfakepaaDoor

/- field: whether an element is the document's. -/
import Derived.Test.YtddgkoheihlbdaaFldRef4
import Derived.Test.YtddgkoheihlbdaaFld6
namespace Go.Proofs.Ytddgkoheihlbdaa
open Go.RowKit

theorem box_sl {w : World} {g v : Nat} (h : Box w g 40 (bArr v 255)) (hv : v < 2 ^ 255) : Sl w (some ⟨g, 0, none⟩) 32 32 (leBytes v 32) := by
  refine ⟨by rw [leBytes_len], Nat.le_refl _, by unfold maxLen; omega, (fun h => by cases h), .inr ⟨g, 0, rfl, fun j hj => ?_⟩⟩
  rw [Nat.zero_add, h.cell j (bArr_get v 255 j hj), byteAt_end v j hv]
  simp [leBytes, List.getD_eq_getElem?_getD, hj]

theorem leBytes_get (n k j : Nat) (h : j < k) : ((leBytes n k).getD j 0).toNat = n / 256 ^ j % 256 := by
  simp [leBytes, List.getD_eq_getElem?_getD, h]
theorem leBytes_inj (n m k : Nat) (hn : n < 256 ^ k) (hm : m < 256 ^ k) : leBytes n k = leBytes m k ↔ n = m := by
  constructor
  · intro h
    have := bytes_inj n m k fun j hj => by rw [← leBytes_get n k j hj, h, leBytes_get m k j hj]
    rwa [Nat.mod_eq_of_lt hn, Nat.mod_eq_of_lt hm] at this
  · rintro rfl; rfl

theorem str_beq (n m : Nat) (hn : n < 256 ^ 32) (hm : m < 256 ^ 32) : (leBytes n 32 == leBytes m 32) = (n == m) := by
  rw [Bool.eq_iff_iff]
  simp only [beq_iff_eq]
  exact leBytes_inj n m 32 hn hm
theorem bArr_one (n i : Nat) : (bArr n i).all (·.oneCell') = true := all_oneCell_toArray (fun v hv => by simp at hv; obtain ⟨j, _, rfl⟩ := hv; rfl)

set_option maxRecDepth 100000 in
set_option maxHeartbeats 1000000 in
theorem sameLaw_any (x : L5) (n : Nat) (w : World) (h : x.lt 9223372036854775808) (hn : n < 115792089237316195423570985008687907853269984665640564039457584007913129639936) :
    Calls Try.prog 21 #[x.v, .agg (fArr (dig n))] w fun e w' => e = .returned (.bool (x.val % P25 == n)) ∧ Below w.heap.size w w' := by
  have hv := red_lt x
  have HB := Lib.hid (fun w : World => bytes_any x w h)
  have HRB := Lib.hid (refBytes_any n)
  obtain ⟨v, hve⟩ : ∃ v, v = x.val % P25 := ⟨_, rfl⟩
  rw [← hve] at HB hv ⊢
  have HEQ := Lib.hid (str_beq v n (by simpa using Nat.lt_trans hv (by decide)) (by simpa using hn))
  have HV := Lib.hid hv
  clear hve hv h hn
  obtain ⟨F0, hF0⟩ : ∃ F0, F0 = fArr (dig n) := ⟨_, rfl⟩
  have HF0 := Lib.hid hF0
  have HFS := Lib.hid (show F0.size = 16 by rw [hF0]; exact fArr_size _)
  rw [← hF0] at HRB ⊢
  clear hF0
  obtain ⟨r, hr⟩ : ∃ r, r = (v == n) := ⟨_, rfl⟩
  rw [← hr] at HEQ ⊢
  clear hr
  obtain ⟨x0, x1, x2, x3, x4⟩ := x
  go_enter Try.func21, Try.ntmps21
  go_upto_region 1 with fail
  have g0 := heap_alloc2_old w (.cells #[.int .u64 x0, .int .u64 x1, .int .u64 x2, .int .u64 x3, .int .u64 x4] 27) (.cells F0 34)
  have g1 := heap_alloc2_new w (.cells #[.int .u64 x0, .int .u64 x1, .int .u64 x2, .int .u64 x3, .int .u64 x4] 27) (.cells F0 34)
  have g2 : Below w.heap.size w ((w.alloc (.cells #[.int .u64 x0, .int .u64 x1, .int .u64 x2, .int .u64 x3, .int .u64 x4] 27)).alloc (.cells F0 34)) :=
    ((Below.refl w.heap.size w).alloc (Nat.le_refl _) _).alloc (by simp) _
  have g3 : w.heap.size + 2 = ((w.alloc (.cells #[.int .u64 x0, .int .u64 x1, .int .u64 x2, .int .u64 x3, .int .u64 x4] 27)).alloc (.cells F0 34)).heap.size := by simp
  change Box _ _ _ _ at g0
  change Box _ _ _ _ at g1
  generalize ((w.alloc (.cells #[.int .u64 x0, .int .u64 x1, .int .u64 x2, .int .u64 x3, .int .u64 x4] 27)).alloc (.cells F0 34)) = W at *
  go_step
  refine wpList_load_box rfl 27 _ rfl g0 (by rfl) Try.underlying27 rfl (by kernel_rfl) ?_
  refine wpList_enter rfl 60 _ (by simp [go_sem, Act.put]) _ _ (HB.out W) ?_
  intro w1 hb1
  have g1' := g1.after hb1
  have g2' := g2.trans (hb1.mono (by omega))
  have g3' := hb1.size
  refine wpList_alloc_box rfl 40 rfl (Array.replicate 32 (Value.int .u8 0)) (by intro w; simp [go_sem]; rfl) ?_
  refine wpList_store_box rfl 40 _ _ rfl (Box.new _ _ _) (by rfl) (by rfl) (by rw [bArr_size]; rfl) (by rw [bArr_size]; kernel_rfl) (bArr_one _ _) ?_
  intro w2 hY hst
  have hF := hst.box (g1'.alloc _) (Nat.ne_of_lt g1'.lt)
  have hB := hst.below w.heap.size w (by omega) (g2'.alloc (by omega) _)
  have hS : w1.heap.size + 1 = w2.heap.size := by have := hst.size; simp at this; omega
  have hO : w.heap.size + 2 ≤ w1.heap.size := by omega
  simp only [Act.put, List.setIfInBounds_toArray, List.set_cons_zero, List.set_cons_succ]
  clear hst g0 g1 g2 g3 g1' g2' g3' hb1
  generalize w1.heap.size = O at *
  have hcv := Lib.hid (fun w' (hb : Below w2.heap.size w2 w') => conv_sl (box_sl (hY.after hb) HV.out))
  go_upto_region 2 with fail
  refine wp_region_held_drew (S := fun w' => Below w2.heap.size w2 w') rfl (Below.refl _ _).drew (fun hb2 => ?_)
  refine wpH_take 0 rfl (by kernel_rfl) (by kernel_rfl) (by kernel_rfl) rfl (fun _ _ _ _ h => h) (.slice (some ⟨O, 0, none⟩) 32 32) (fun w' h => by simp [go_sem]) hb2 ?_
  refine wpH_take 1 rfl (by kernel_rfl) (by kernel_rfl) (by kernel_rfl) rfl (fun _ _ _ _ h => h) (.string ⟨(leBytes v 32).toArray⟩) (fun w' h => by simp [go_sem, Act.put, hcv.out w' h]) hb2 ?_
  refine wpH_take 2 rfl (by kernel_rfl) (by kernel_rfl) (by kernel_rfl) rfl (fun _ _ _ _ h => h) (.agg F0) (fun w' h => run_load_box rfl (hF.after h) (by simp [go_sem, Act.put]) Try.underlying34 rfl (by rw [HFS.out]; kernel_rfl)) hb2 ?_
  refine wpH_enter 3 rfl (by kernel_rfl) rfl 61 #[.agg F0] (by simp [go_sem, Act.put]) _ (HRB.out _) ?_
  rintro e w3 ⟨a3, c3, rfl, hS3, hb3⟩
  have hb4 := hb2.trans (hb3.mono (by simp))
  refine ⟨_, rfl, hb4, ?_⟩
  have hcv3 := conv_sl hS3
  refine wpH_run 4 rfl (by kernel_rfl) rfl (.string ⟨(leBytes n 32).toArray⟩) w3 (by simp [go_sem, Act.put, hcv3]) hb4 ?_
  refine wpH_run 5 rfl (by kernel_rfl) rfl (.bool r) w3 (by simp [go_sem, Act.put, HEQ.out]) hb4 ?_
  refine wpH_run 6 rfl (by kernel_rfl) rfl (.bool r) w3 (by simp [go_sem, Act.put]) hb4 ?_
  refine wpAnyH_done (by kernel_rfl) ?_ _
  simp only [Act.put, List.setIfInBounds_toArray, List.set_cons_zero, List.set_cons_succ]
  have hE := hB.trans (hb4.mono (by omega))
  clear hb4 hb3 hb2 hcv3 hS3 hF hY hB
  go_wp2_with fail
  go_ret
  exact ⟨rfl, hE⟩
end Go.Proofs.Ytddgkoheihlbdaa

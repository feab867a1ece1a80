/- scalar: the document's off, order, Digits: what they compute. -/
import Derived.Test.YtpkoniebbkkmjaaScR1Mg
namespace Go.Proofs.Ytpkoniebbkkmjaa
open Go.RowKit

/-- a slice of numbers comes back, in memory of its own, all old memory as before -/
def RetU (l : List Nat) (w : World) (e : Ending) (w' : World) : Prop := ∃ v, e = .returned v ∧ w'.ownsRow w.heap.size 24 1 v l.length (uCells l) ∧ Below w.heap.size w w'

theorem u64w (z : Nat) (h : z < 18446744073709551616) : IntKind.u64.wrap (z : Int) = (z : Int) := by rw [IntKind.wrap_u64]; omega

set_option maxRecDepth 100000 in
set_option maxHeartbeats 4000000 in
theorem refOff_any (a a' : Option Addr) (n c c' B D : Nat) (w : World) (hn0 : n ≠ 0) (hn1 : n < 1000) (h : Su w a n c (digs (B + D) n)) (h' : Su w a' n c' (digs B n)) :
    Calls Try.prog 75 #[.slice a n c, .slice a' n c'] w (RetU (digs D n) w) := by
  obtain ⟨b, o, rfl, hc⟩ := h.2.2.2.2.resolve_left hn0
  obtain ⟨b', o', rfl, hc'⟩ := h'.2.2.2.2.resolve_left hn0
  have hb := cell_lt (hc 0 (by omega))
  have hb' := cell_lt (hc' 0 (by omega))
  have hcap := h.2.1
  clear h h'
  have hown0 : (w.alloc (.cells #[] 24)).ownsRow w.heap.size 24 1 (.slice (some ⟨w.heap.size, 0, none⟩) 0 0) 0 (uCells (digs D 0)) :=
    World.ownsRow_lit (base := w.heap.size) (size := 1) (e := 24) w #[] 0 (Nat.le_refl _) (Nat.zero_le _) rfl
  have hB0 : Below w.heap.size w (w.alloc (.cells #[] 24)) := (Below.refl _ _).alloc (Nat.le_refl _) _
  unfold RetU
  go_enter Try.func75, Try.ntmps75
  go_wp2_with fail
  go_loopw [5, 6, 12] (fun v bv i wr => ∃ k : Nat, k ≤ n ∧ i = .int .i64 k ∧ bv = .int .u64 (borD B D k : Nat) ∧ wr.ownsRow w.heap.size 24 1 v k (uCells (digs D k)) ∧ Below w.heap.size w wr) (fun _ _ i _ => n - (intOf i).toNat)
  case atStart => exact ⟨0, Nat.zero_le _, rfl, by rw [borD_zero]; rfl, hown0, hB0⟩
  case round =>
    obtain ⟨wa, rfl⟩ : ∃ wa : World, wa = wr := ⟨_, rfl⟩
    obtain ⟨k, hk, rfl, rfl, hown, hB⟩ := hrel
    clear hown0 hB0
    by_cases hlt : k < n
    · have g1 := (hB.cell (p := ⟨b, o + k, none⟩) hb).trans (hc k hlt)
      have g2 := (hB.cell (p := ⟨b', o' + k, none⟩) hb').trans (hc' k hlt)
      rw [digs_get _ _ _ hlt] at g1 g2
      obtain ⟨a1, a2⟩ := add_digit B D k
      have d1 := dig_lt (B + D) k
      have d2 := dig_lt B k
      have d3 := dig_lt D k
      have d4 := borD_le B D k
      have d5 := borD_le B D (k + 1)
      have HS := Lib.hid (digs_succ D k)
      obtain ⟨x, hx⟩ : ∃ x, x = dig (B + D) k := ⟨_, rfl⟩
      obtain ⟨y, hy⟩ : ∃ y, y = dig B k := ⟨_, rfl⟩
      obtain ⟨d, hd⟩ : ∃ d, d = dig D k := ⟨_, rfl⟩
      obtain ⟨e, he⟩ : ∃ e, e = borD B D k := ⟨_, rfl⟩
      obtain ⟨e', he'⟩ : ∃ e', e' = borD B D (k + 1) := ⟨_, rfl⟩
      rw [← hx] at g1 a1 d1
      rw [← hy] at g2 a1 a2 d2
      rw [← hd] at a1 a2 d3 HS
      rw [← he] at a1 a2 d4 ⊢
      rw [← he'] at a2 d5
      have HE' := Lib.hid he'
      obtain ⟨s1, hs1⟩ : ∃ s1, s1 = 65536 + x := ⟨_, rfl⟩
      obtain ⟨s2, hs2⟩ : ∃ s2, s2 = s1 - y := ⟨_, rfl⟩
      obtain ⟨s3, hs3⟩ : ∃ s3, s3 = s2 - e := ⟨_, rfl⟩
      obtain ⟨f, hf⟩ : ∃ f, f = s3 / 65536 := ⟨_, rfl⟩
      have m1 : 65536 + (x : Int) = (s1 : Int) := by omega
      have m2 : (s1 : Int) - (y : Int) = (s2 : Int) := by omega
      have m3 : (s2 : Int) - (e : Int) = (s3 : Int) := by omega
      have m4 : (s3 : Int) / 65536 = (f : Int) := by omega
      have m5 : 1 - (f : Int) = (e' : Int) := by omega
      have m6 : (s3 : Int) % 65536 = (d : Int) := by omega
      have k1 := u64w s1 (by omega)
      have k2 := u64w s2 (by omega)
      have k3 := u64w s3 (by omega)
      have k4 := u64w e' (by omega)
      have k5 := u64w d (by omega)
      have hs3b : s3 < 131072 := by omega
      have hfb : f ≤ 1 := by omega
      have m6' : (s3 : Int).tmod 65536 = (d : Int) := by rw [Int.tmod_eq_emod_of_nonneg (by omega)]; exact m6
      clear a1 a2 hx hy hd he he' hs1 hs2 hs3 hf
      have b1 : (0 : Int) ≤ (k : Int) := by omega
      have b2 : (k : Int) < (n : Int) := by omega
      have hkl := cell_lt g1
      have hkl' := cell_lt g2
      go_upto_region 6 with fail
      refine wp_region_made wa.heap.size wa rfl (by kernel_rfl) (Below.refl _ _) ?_
      refine wpQ_run rfl (.slice (some ⟨b, o, none⟩) n c) (fun w hw => by simp [go_sem]) ?_
      simp only [Act.put, List.setIfInBounds_toArray, List.set_cons_zero, List.set_cons_succ]
      refine wpQ_run rfl (.int .i64 k) (fun w hw => by simp [go_sem]) ?_
      simp only [Act.put, List.setIfInBounds_toArray, List.set_cons_zero, List.set_cons_succ]
      refine wpQ_run rfl (.pointer (some ⟨b, o + k, none⟩)) (fun w hw => by simp [go_sem, b1, b2, Addr.add]) ?_
      simp only [Act.put, List.setIfInBounds_toArray, List.set_cons_zero, List.set_cons_succ]
      refine wpQ_run rfl (.int .u64 x) (fun w hw => by simp [go_sem, (hw.cell (p := ⟨b, o + k, none⟩) hkl).trans g1]) ?_
      simp only [Act.put, List.setIfInBounds_toArray, List.set_cons_zero, List.set_cons_succ]
      refine wpQ_run rfl (.int .u64 s1) (fun w hw => by simp [go_sem, m1, k1]) ?_
      simp only [Act.put, List.setIfInBounds_toArray, List.set_cons_zero, List.set_cons_succ]
      refine wpQ_run rfl (.slice (some ⟨b', o', none⟩) n c') (fun w hw => by simp [go_sem]) ?_
      simp only [Act.put, List.setIfInBounds_toArray, List.set_cons_zero, List.set_cons_succ]
      refine wpQ_run rfl (.int .i64 k) (fun w hw => by simp [go_sem]) ?_
      simp only [Act.put, List.setIfInBounds_toArray, List.set_cons_zero, List.set_cons_succ]
      refine wpQ_run rfl (.pointer (some ⟨b', o' + k, none⟩)) (fun w hw => by simp [go_sem, b1, b2, Addr.add]) ?_
      simp only [Act.put, List.setIfInBounds_toArray, List.set_cons_zero, List.set_cons_succ]
      refine wpQ_run rfl (.int .u64 y) (fun w hw => by simp [go_sem, (hw.cell (p := ⟨b', o' + k, none⟩) hkl').trans g2]) ?_
      simp only [Act.put, List.setIfInBounds_toArray, List.set_cons_zero, List.set_cons_succ]
      refine wpQ_run rfl (.int .u64 s2) (fun w hw => by simp [go_sem, m2, k2]) ?_
      simp only [Act.put, List.setIfInBounds_toArray, List.set_cons_zero, List.set_cons_succ]
      refine wpQ_run rfl (.int .u64 e) (fun w hw => by simp [go_sem]) ?_
      simp only [Act.put, List.setIfInBounds_toArray, List.set_cons_zero, List.set_cons_succ]
      refine wpQ_run rfl (.int .u64 s3) (fun w hw => by simp [go_sem, m3, k3]) ?_
      simp only [Act.put, List.setIfInBounds_toArray, List.set_cons_zero, List.set_cons_succ]
      refine wpQ_run rfl (.int .u64 s3) (fun w hw => by simp [go_sem]) ?_
      simp only [Act.put, List.setIfInBounds_toArray, List.set_cons_zero, List.set_cons_succ]
      intro w1 hb1
      replace hown := own_after hown hb1
      replace hB := hB.trans (hb1.mono hB.size)
      clear hb1 g1 g2 hkl hkl'
      go_upto_region 8 with fail
      go_step
      refine wpList_value rfl (_) (by simp [go_sem]; rfl) ?_
      simp only [Act.put, List.setIfInBounds_toArray, List.set_cons_zero, List.set_cons_succ]
      refine wpList_value rfl (.int .u64 s3) (by simp [go_sem]) ?_
      simp only [Act.put, List.setIfInBounds_toArray, List.set_cons_zero, List.set_cons_succ]
      refine wpList_value rfl (.int .u64 d) (by simp [go_sem, m6']) ?_
      simp only [Act.put, List.setIfInBounds_toArray, List.set_cons_zero, List.set_cons_succ]
      refine wpList_put1 rfl d (fun w => by simp [go_sem]) (fun _ => rfl) (.tmp 30) (.tmp 33) rfl w.heap.size _ _ _ (fun _ => rfl) (fun _ => rfl) hown (by omega) (by have := hB.size; omega) ?_
      intro p1 v1 w1 hown1 hb1
      simp only [Act.put, List.setIfInBounds_toArray, List.set_cons_zero, List.set_cons_succ]
      refine wpList_value rfl (v1) (by simp [go_sem]) ?_
      simp only [Act.put, List.setIfInBounds_toArray, List.set_cons_zero, List.set_cons_succ]
      have hBw := hB.trans hb1
      clear hB hb1 hown
      go_wp2_with fail
      exact ⟨⟨k + 1, by omega, by go_num, by rw [HE'.out], by rw [HS.out]; exact hown1, hBw⟩, by simp [intOf]; omega⟩
    · obtain rfl : k = n := by omega
      clear hc hc'
      go_wp2_with fail
      go_ret
      exact ⟨_, rfl, by rw [digs_len]; exact hown, hB⟩

theorem digs_LL : digs LL 16 = [54253, 23797, 25370, 22546, 40150, 41719, 63966, 5342, 0, 0, 0, 0, 0, 0, 0, 4096] := by decide +kernel
set_option maxRecDepth 100000 in
set_option maxHeartbeats 4000000 in
theorem refOrder_any (w : World) : Calls Try.prog 73 #[] w (RetU (digs LL 16) w) := by
  rw [digs_LL]
  have hown := World.ownsRow_lit (base := w.heap.size) (size := 1) (e := 24) w (uCells [54253, 23797, 25370, 22546, 40150, 41719, 63966, 5342, 0, 0, 0, 0, 0, 0, 0, 4096]).toArray 16 (Nat.le_refl _) (by unfold maxLen; omega) rfl
  have hB : Below w.heap.size w (w.alloc (.cells (uCells [54253, 23797, 25370, 22546, 40150, 41719, 63966, 5342, 0, 0, 0, 0, 0, 0, 0, 4096]).toArray 24)) := (Below.refl _ _).alloc (Nat.le_refl _) _
  unfold RetU
  go_enter Try.func73, Try.ntmps73
  go_wp2_with fail
  go_ret
  exact ⟨_, rfl, hown, hB⟩

theorem dig_leNat (l : List UInt8) (k : Nat) : dig (leNat l) k = (l.getD (2 * k) 0).toNat + 256 * (l.getD (2 * k + 1) 0).toNat := by
  rw [← leNat_byte, ← leNat_byte]
  unfold dig
  rw [show (65536 : Nat) ^ k = 256 ^ (2 * k) by rw [Nat.pow_mul], Nat.pow_succ, ← Nat.div_div_eq_div_mul]
  generalize leNat l / 256 ^ (2 * k) = x
  omega

set_option maxRecDepth 100000 in
set_option maxHeartbeats 4000000 in
theorem refDigits_any (a : Option Addr) (n c : Nat) (l : List UInt8) (w : World) (hn1 : n < 100000) (h : Sl w a n c l) :
    Calls Try.prog 71 #[.slice a n c] w (RetU (digs (leNat l) ((n + 1) / 2)) w) := by
  have hcap := h.2.1
  have hl := h.1
  have hc : n ≠ 0 → ∃ b o, a = some ⟨b, o, none⟩ ∧ ∀ i, i < n → w.cell? ⟨b, o + i, none⟩ = some (.int .u8 ((l.getD i 0).toNat : Int)) := fun h0 => h.2.2.2.2.resolve_left h0
  have hown0 : (w.alloc (.cells #[] 24)).ownsRow w.heap.size 24 1 (.slice (some ⟨w.heap.size, 0, none⟩) 0 0) 0 (uCells (digs (leNat l) 0)) :=
    World.ownsRow_lit (base := w.heap.size) (size := 1) (e := 24) w #[] 0 (Nat.le_refl _) (Nat.zero_le _) rfl
  have hB0 : Below w.heap.size w (w.alloc (.cells #[] 24)) := (Below.refl _ _).alloc (Nat.le_refl _) _
  have HC := Lib.hid hc
  have HL := Lib.hid hl
  clear h hc hl
  unfold RetU
  go_enter Try.func71, Try.ntmps71
  go_wp2_with fail
  go_loopw [3, 4] (fun v i wr => ∃ k : Nat, 2 * k ≤ n + 1 ∧ i = .int .i64 (2 * (k : Int)) ∧ wr.ownsRow w.heap.size 24 1 v k (uCells (digs (leNat l) k)) ∧ Below w.heap.size w wr) (fun _ i _ => n + 1 - (intOf i).toNat)
  case atStart => exact ⟨0, Nat.zero_le _, rfl, hown0, hB0⟩
  case round =>
    obtain ⟨wa, rfl⟩ : ∃ wa : World, wa = wr := ⟨_, rfl⟩
    obtain ⟨k, hk, rfl, hown, hB⟩ := hrel
    clear hown0 hB0
    obtain ⟨j, hj⟩ : ∃ j, j = 2 * k := ⟨_, rfl⟩
    have ej : 2 * (k : Int) = (j : Int) := by omega
    rw [ej]
    by_cases hlt : j < n
    · obtain ⟨b, o, rfl, hc⟩ := HC.out (by omega)
      have hb := cell_lt (hc 0 (by omega))
      have g1 := (hB.cell (p := ⟨b, o + j, none⟩) hb).trans (hc j hlt)
      have hd := dig_leNat l k
      rw [← hj] at hd
      have u1 := (l.getD j 0).toNat_lt
      have u2 := (l.getD (j + 1) 0).toNat_lt
      have g2 : j + 1 < n → wa.cell? ⟨b, o + (j + 1), none⟩ = some (.int .u8 ((l.getD (j + 1) 0).toNat : Int)) := fun hx => (hB.cell (p := ⟨b, o + (j + 1), none⟩) hb).trans (hc (j + 1) hx)
      have hz : ¬ j + 1 < n → (l.getD (j + 1) 0).toNat = 0 := fun hx => by have := HL.out; simp [show l.length ≤ j + 1 by omega]
      have HS := Lib.hid (digs_succ (leNat l) k)
      obtain ⟨x, hx⟩ : ∃ x, x = (l.getD j 0).toNat := ⟨_, rfl⟩
      obtain ⟨y, hy⟩ : ∃ y, y = (l.getD (j + 1) 0).toNat := ⟨_, rfl⟩
      obtain ⟨d, hde⟩ : ∃ d, d = dig (leNat l) k := ⟨_, rfl⟩
      rw [← hx] at g1 hd u1
      rw [← hy] at g2 hd u2 hz
      rw [← hde] at hd HS
      have b1 : (0 : Int) ≤ (j : Int) := by omega
      have b2 : (j : Int) < (n : Int) := by omega
      have HJ := Lib.hid ej
      have k5 := u64w x (by omega)
      have k6 := u64w d (by omega)
      have m1 : (x : Int) + 256 * (y : Int) = (d : Int) := by omega
      clear hx hy hde hc HC ej
      by_cases hlt2 : j + 1 < n
      · have g2 := g2 hlt2
        have m3 : (j : Int) + 1 = ((j + 1 : Nat) : Int) := by omega
        obtain ⟨i, hi⟩ : ∃ i, i = j + 1 := ⟨_, rfl⟩
        rw [← hi] at g2 m3 hlt2
        have b3 : (i : Int) < (n : Int) := by omega
        have b4 : (0 : Int) ≤ (i : Int) := by omega
        clear hi hd hz hj
        go_upto_region 8 with fail
        go_step
        refine wpList_value rfl (_) (by simp [go_sem]; rfl) ?_
        simp only [Act.put, List.setIfInBounds_toArray, List.set_cons_zero, List.set_cons_succ]
        refine wpList_value rfl (.int .u64 d) (by simp [go_sem]) ?_
        simp only [Act.put, List.setIfInBounds_toArray, List.set_cons_zero, List.set_cons_succ]
        refine wpList_put1 rfl d (fun w => by simp [go_sem]) (fun _ => rfl) (.tmp 32) (.tmp 34) rfl w.heap.size _ _ _ (fun _ => rfl) (fun _ => rfl) hown (by omega) (by have := hB.size; omega) ?_
        intro p1 v1 w1 hown1 hb1
        simp only [Act.put, List.setIfInBounds_toArray, List.set_cons_zero, List.set_cons_succ]
        refine wpList_value rfl (v1) (by simp [go_sem]) ?_
        simp only [Act.put, List.setIfInBounds_toArray, List.set_cons_zero, List.set_cons_succ]
        have hBw := hB.trans hb1
        have e2 : (j : Int) + 2 = 2 * ((k + 1 : Nat) : Int) := by have := HJ.out; omega
        clear hB hb1 hown g1 b1 b2 k5 k6
        go_wp2_with fail
        exact ⟨⟨k + 1, by omega, by congr 1, by rw [HS.out]; exact hown1, hBw⟩, by simp [intOf]; omega⟩
      · have hd0 : x = d := by have := hz hlt2; omega
        have hni : ¬ (j : Int) + 1 < (n : Int) := by omega
        rw [← hd0] at HS
        have hy0 := hz hlt2
        clear hd hz g2 m1 hd0 hj k6

        go_upto_region 8 with fail
        go_step
        refine wpList_value rfl (_) (by simp [go_sem]; rfl) ?_
        simp only [Act.put, List.setIfInBounds_toArray, List.set_cons_zero, List.set_cons_succ]
        refine wpList_value rfl (.int .u64 x) (by simp [go_sem]) ?_
        simp only [Act.put, List.setIfInBounds_toArray, List.set_cons_zero, List.set_cons_succ]
        refine wpList_put1 rfl x (fun w => by simp [go_sem]) (fun _ => rfl) (.tmp 32) (.tmp 34) rfl w.heap.size _ _ _ (fun _ => rfl) (fun _ => rfl) hown (by omega) (by have := hB.size; omega) ?_
        intro p1 v1 w1 hown1 hb1
        simp only [Act.put, List.setIfInBounds_toArray, List.set_cons_zero, List.set_cons_succ]
        refine wpList_value rfl (v1) (by simp [go_sem]) ?_
        simp only [Act.put, List.setIfInBounds_toArray, List.set_cons_zero, List.set_cons_succ]
        have hBw := hB.trans hb1
        have e2 : (j : Int) + 2 = 2 * ((k + 1 : Nat) : Int) := by have := HJ.out; omega
        clear hB hb1 hown g1 b1 b2 k5
        go_wp2_with fail
        exact ⟨⟨k + 1, by omega, by congr 1, by rw [HS.out]; exact hown1, hBw⟩, by simp [intOf]; omega⟩
    · have hni : ¬ (j : Int) < (n : Int) := by omega
      obtain rfl : (n + 1) / 2 = k := by omega
      clear HC HL
      go_wp2_with fail
      go_ret
      exact ⟨_, rfl, by rw [digs_len]; exact hown, hB⟩
end Go.Proofs.Ytpkoniebbkkmjaa

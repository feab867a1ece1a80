/- field: reduced: what it computes. -/
import Derived.Test.YtddgkoheihlbdaaFld1
namespace Go.Proofs.Ytddgkoheihlbdaa
open Go.RowKit

theorem lt_big (x : L5) (h : x.lt 2251799813763200) : x.lt 9223372036854775808 := by
  obtain ⟨h1, h2, h3, h4, h5⟩ := h
  exact ⟨by omega, by omega, by omega, by omega, by omega⟩
theorem cry_big (x : L5) (h : x.lt 9223372036854775808) : x.cry.lt 2251799813763200 := by
  obtain ⟨h1, h2, h3, h4, h5⟩ := cry_lt x h
  exact ⟨by omega, by omega, by omega, by omega, by omega⟩

theorem bcell {W w1 : World} (hb : Below W.heap.size W w1) : (∀ b o, b < W.heap.size → w1.cell? ⟨b, o, none⟩ = W.cell? ⟨b, o, none⟩) ∧ (∀ b o, b < W.heap.size → w1.frozen? ⟨b, o, none⟩ = W.frozen? ⟨b, o, none⟩) :=
  ⟨fun b o h => hb.cell (p := ⟨b, o, none⟩) h, fun b o h => hb.frozen (p := ⟨b, o, none⟩) h⟩

set_option maxHeartbeats 4000000 in
theorem reduced_any (x : L5) (w : World) (h : x.lt 9223372036854775808) :
    Calls Try.prog 84 #[x.v] w fun e w' => e = .returned x.red.v ∧ Below w.heap.size w w' := by
  have b1 := lt_big _ (cry_big x h)
  have b2 := lt_big _ (cry_big _ b1)
  have hl := (cry3 x h).1
  obtain ⟨R, hR⟩ : ∃ R, R = x.red := ⟨_, rfl⟩
  rw [← hR]
  have HR := Lib.hid (show R = if 0 < x.cry.cry.cry.more.c5 then x.cry.cry.cry.more.cut else x.cry.cry.cry from hR)
  have HB := Lib.hid (And.intro h (And.intro b1 b2))
  have HL := Lib.hid hl
  clear hR h b1 b2 hl
  obtain ⟨x1, hx1⟩ : ∃ y, y = x.cry := ⟨_, rfl⟩
  obtain ⟨x2, hx2⟩ : ∃ y, y = x1.cry := ⟨_, rfl⟩
  obtain ⟨x3, hx3⟩ : ∃ y, y = x2.cry := ⟨_, rfl⟩
  rw [← hx1, ← hx2, ← hx3] at HL HR
  rw [← hx1, ← hx2] at HB
  have C1 := Lib.hid hx1
  have C2 := Lib.hid hx2
  have C3 := Lib.hid hx3
  clear hx1 hx2 hx3
  obtain ⟨a, b, c, d, e⟩ := x3
  obtain ⟨h1, h2, h3, h4, h5⟩ := HL.out
  simp only at h1 h2 h3 h4 h5
  obtain ⟨a', ha'⟩ : ∃ y, y = a + 19 := ⟨_, rfl⟩
  have s0 : (a : Int) + 19 = (a' : Int) := by omega
  have ba : a' < 2251799813763200 := by omega
  obtain ⟨c1, hc1⟩ : ∃ y, y = car a' := ⟨_, rfl⟩
  obtain ⟨r0, hr0⟩ : ∃ y, y = low a' := ⟨_, rfl⟩
  have k1 : c1 ≤ 4097 := by rw [hc1]; unfold car; omega
  have m0 : r0 < 2251799813685248 := by rw [hr0]; exact low_lt _
  have e0 := div51 a'
  have f0 := and51 a' (by omega)
  rw [← hc1] at e0
  rw [← hr0] at f0
  obtain ⟨t1, ht1⟩ : ∃ y, y = b + c1 := ⟨_, rfl⟩
  have s1 : (b : Int) + (c1 : Int) = (t1 : Int) := by omega
  have u1 : t1 < 9223372036854800000 := by omega
  obtain ⟨c2, hc2⟩ : ∃ y, y = car t1 := ⟨_, rfl⟩
  obtain ⟨r1, hr1⟩ : ∃ y, y = low t1 := ⟨_, rfl⟩
  have k2 : c2 ≤ 4097 := by rw [hc2]; unfold car; omega
  have m1 : r1 < 2251799813685248 := by rw [hr1]; exact low_lt _
  have e1 := div51 t1
  have f1 := and51 t1 (by omega)
  rw [← hc2] at e1
  rw [← hr1] at f1
  obtain ⟨t2, ht2⟩ : ∃ y, y = c + c2 := ⟨_, rfl⟩
  have s2 : (c : Int) + (c2 : Int) = (t2 : Int) := by omega
  have u2 : t2 < 9223372036854800000 := by omega
  obtain ⟨c3, hc3⟩ : ∃ y, y = car t2 := ⟨_, rfl⟩
  obtain ⟨r2, hr2⟩ : ∃ y, y = low t2 := ⟨_, rfl⟩
  have k3 : c3 ≤ 4097 := by rw [hc3]; unfold car; omega
  have m2 : r2 < 2251799813685248 := by rw [hr2]; exact low_lt _
  have e2 := div51 t2
  have f2 := and51 t2 (by omega)
  rw [← hc3] at e2
  rw [← hr2] at f2
  obtain ⟨t3, ht3⟩ : ∃ y, y = d + c3 := ⟨_, rfl⟩
  have s3 : (d : Int) + (c3 : Int) = (t3 : Int) := by omega
  have u3 : t3 < 9223372036854800000 := by omega
  obtain ⟨c4, hc4⟩ : ∃ y, y = car t3 := ⟨_, rfl⟩
  obtain ⟨r3, hr3⟩ : ∃ y, y = low t3 := ⟨_, rfl⟩
  have k4 : c4 ≤ 4097 := by rw [hc4]; unfold car; omega
  have m3 : r3 < 2251799813685248 := by rw [hr3]; exact low_lt _
  have e3 := div51 t3
  have f3 := and51 t3 (by omega)
  rw [← hc4] at e3
  rw [← hr3] at f3
  obtain ⟨t4, ht4⟩ : ∃ y, y = e + c4 := ⟨_, rfl⟩
  have s4 : (e : Int) + (c4 : Int) = (t4 : Int) := by omega
  have u4 : t4 < 9223372036854800000 := by omega
  obtain ⟨c5, hc5⟩ : ∃ y, y = car t4 := ⟨_, rfl⟩
  obtain ⟨r4, hr4⟩ : ∃ y, y = low t4 := ⟨_, rfl⟩
  have k5 : c5 ≤ 4097 := by rw [hc5]; unfold car; omega
  have m4 : r4 < 2251799813685248 := by rw [hr4]; exact low_lt _
  have e4 := div51 t4
  have f4 := and51 t4 (by omega)
  rw [← hc5] at e4
  rw [← hr4] at f4
  have HX := Lib.hid (show (L5.mk a b c d e).more.cut = ⟨r0, r1, r2, r3, r4⟩ ∧ (L5.mk a b c d e).more.c5 = c5 by
    simp only [L5.more, ← ha', L5.cut, L5.c5, L5.c4, L5.c3, L5.c2, L5.c1, ← hc1, ← ht1, ← hc2, ← ht2, ← hc3, ← ht3, ← hc4, ← ht4, ← hc5, ← hr0, ← hr1, ← hr2, ← hr3, ← hr4, and_self])
  have HR2 := Lib.hid (show R = if 0 < c5 then ⟨r0, r1, r2, r3, r4⟩ else ⟨a, b, c, d, e⟩ by rw [HR.out, HX.out.1, HX.out.2])
  clear HX HR hc1 hc2 hc3 hc4 hc5 ht1 ht2 ht3 ht4 hr0 hr1 hr2 hr3 hr4 ha'
  obtain ⟨x0, y0, z0, u0, v0⟩ := x
  by_cases hc : 0 < c5
  · obtain rfl : R = ⟨r0, r1, r2, r3, r4⟩ := by rw [HR2.out, if_pos hc]
    clear HR2
    replace hc : (0 : Int) < (c5 : Int) := by omega
    go_enter Try.func84, Try.ntmps84
    go_wp2_with fail
    refine (carry_any ⟨x0, y0, z0, u0, v0⟩ _ HB.out.1).mono ?_
    rintro q w1 ⟨rfl, hb1⟩
    rw [← C1.out]
    go_wp2_with fail
    refine (carry_any x1 _ (by have := HB.out.2.1; rw [C1.out]; rw [C1.out] at this; exact this)).mono ?_
    rintro q w2 ⟨rfl, hb2⟩
    rw [← C2.out]
    go_wp2_with fail
    refine (carry_any x2 _ HB.out.2.2).mono ?_
    rintro q w3 ⟨rfl, hb3⟩
    rw [← C3.out]
    have hB := (hb1.trans (hb2.mono hb1.size)).trans (hb3.mono (Nat.le_trans hb1.size hb2.size))
    have hW3 := (((Below.refl w.heap.size w).alloc (Nat.le_refl _) _).alloc (by simp) _).trans (hB.mono (by simp; omega))
    obtain ⟨gc, gf⟩ := bcell hB
    have gz : w.heap.size + 1 < w3.heap.size := by have := hB.size; simp at this; omega
    have gz' : w.heap.size < w3.heap.size := by omega
    have ga0 := gc w.heap.size 0 (by simp; omega)
    have ga1 := gc w.heap.size 1 (by simp; omega)
    have ga2 := gc w.heap.size 2 (by simp; omega)
    have ga3 := gc w.heap.size 3 (by simp; omega)
    have ga4 := gc w.heap.size 4 (by simp; omega)
    have gb0 := gc (w.heap.size+1) 0 (by simp)
    have gb1 := gc (w.heap.size+1) 1 (by simp)
    have gb2 := gc (w.heap.size+1) 2 (by simp)
    have gb3 := gc (w.heap.size+1) 3 (by simp)
    have gb4 := gc (w.heap.size+1) 4 (by simp)
    have fa0 := gf w.heap.size 0 (by simp; omega)
    have fa1 := gf w.heap.size 1 (by simp; omega)
    have fa2 := gf w.heap.size 2 (by simp; omega)
    have fa3 := gf w.heap.size 3 (by simp; omega)
    have fa4 := gf w.heap.size 4 (by simp; omega)
    have fb0 := gf (w.heap.size+1) 0 (by simp)
    have fb1 := gf (w.heap.size+1) 1 (by simp)
    have fb2 := gf (w.heap.size+1) 2 (by simp)
    have fb3 := gf (w.heap.size+1) 3 (by simp)
    have fb4 := gf (w.heap.size+1) 4 (by simp)
    clear hb1 hb2 hb3 hB gc gf
    simp at ga0 ga1 ga2 ga3 ga4 gb0 gb1 gb2 gb3 gb4 fa0 fa1 fa2 fa3 fa4 fb0 fb1 fb2 fb3 fb4
    dsimp only [L5.v]
    go_wp2_with fail
    refine wp_loop_rounds 6 ?_
    rw [rounds_succ]
    go_wp2_with fail
    rw [rounds_succ]
    go_wp2_with fail
    rw [rounds_succ]
    go_wp2_with fail
    rw [rounds_succ]
    go_wp2_with fail
    rw [rounds_succ]
    go_wp2_with fail
    obtain ⟨W4, hW4⟩ : ∃ W : World, W = (((((w3.setCell ⟨w.heap.size, 0, none⟩ (.int .u64 a)).setCell ⟨w.heap.size, 1, none⟩ (.int .u64 b)).setCell ⟨w.heap.size, 2, none⟩ (.int .u64 c)).setCell ⟨w.heap.size, 3, none⟩ (.int .u64 d)).setCell ⟨w.heap.size, 4, none⟩ (.int .u64 e)).alloc (.cells #[.int .u64 r0, .int .u64 r1, .int .u64 r2, .int .u64 r3, .int .u64 r4] 27) := ⟨_, rfl⟩
    rw [← hW4]
    have hW5 : Below w.heap.size w W4 := by
      rw [hW4]
      exact (((((hW3.setCell (Nat.le_refl _) _).setCell (Nat.le_refl _) _).setCell (Nat.le_refl _) _).setCell (Nat.le_refl _) _).setCell (Nat.le_refl _) _).alloc (by simp; omega) _
    have l1 : w.heap.size ≠ w3.heap.size := by omega
    have l2 : w.heap.size + 1 ≠ w3.heap.size := by omega
    have l3 : w3.heap.size ≠ w.heap.size := by omega
    have l4 : w3.heap.size ≠ w.heap.size + 1 := by omega
    have p0 : W4.cell? ⟨w3.heap.size, 0, none⟩ = some (.int .u64 r0) := by rw [hW4]; simp [go_sem]
    have p1 : W4.cell? ⟨w3.heap.size, 1, none⟩ = some (.int .u64 r1) := by rw [hW4]; simp [go_sem]
    have p2 : W4.cell? ⟨w3.heap.size, 2, none⟩ = some (.int .u64 r2) := by rw [hW4]; simp [go_sem]
    have p3 : W4.cell? ⟨w3.heap.size, 3, none⟩ = some (.int .u64 r3) := by rw [hW4]; simp [go_sem]
    have p4 : W4.cell? ⟨w3.heap.size, 4, none⟩ = some (.int .u64 r4) := by rw [hW4]; simp [go_sem]
    have q0 : W4.cell? ⟨w.heap.size, 0, none⟩ = some (.int .u64 a) := by rw [hW4]; simp [go_sem, ga0, gz']
    have q1 : W4.cell? ⟨w.heap.size, 1, none⟩ = some (.int .u64 b) := by rw [hW4]; simp [go_sem, ga1, gz']
    have q2 : W4.cell? ⟨w.heap.size, 2, none⟩ = some (.int .u64 c) := by rw [hW4]; simp [go_sem, ga2, gz']
    have q3 : W4.cell? ⟨w.heap.size, 3, none⟩ = some (.int .u64 d) := by rw [hW4]; simp [go_sem, ga3, gz']
    have q4 : W4.cell? ⟨w.heap.size, 4, none⟩ = some (.int .u64 e) := by rw [hW4]; simp [go_sem, ga4, gz']
    have zc0 : W4.cell? ⟨w.heap.size + 1, 0, none⟩ = some (.int .u64 0) := by rw [hW4]; simp [go_sem, gb0, gz]
    have ze0 : W4.frozen? ⟨w.heap.size + 1, 0, none⟩ = false := by rw [hW4]; simp [go_sem, fb0, gz]
    have zc1 : W4.cell? ⟨w.heap.size + 1, 1, none⟩ = some (.int .u64 0) := by rw [hW4]; simp [go_sem, gb1, gz]
    have ze1 : W4.frozen? ⟨w.heap.size + 1, 1, none⟩ = false := by rw [hW4]; simp [go_sem, fb1, gz]
    have zc2 : W4.cell? ⟨w.heap.size + 1, 2, none⟩ = some (.int .u64 0) := by rw [hW4]; simp [go_sem, gb2, gz]
    have ze2 : W4.frozen? ⟨w.heap.size + 1, 2, none⟩ = false := by rw [hW4]; simp [go_sem, fb2, gz]
    have zc3 : W4.cell? ⟨w.heap.size + 1, 3, none⟩ = some (.int .u64 0) := by rw [hW4]; simp [go_sem, gb3, gz]
    have ze3 : W4.frozen? ⟨w.heap.size + 1, 3, none⟩ = false := by rw [hW4]; simp [go_sem, fb3, gz]
    have zc4 : W4.cell? ⟨w.heap.size + 1, 4, none⟩ = some (.int .u64 0) := by rw [hW4]; simp [go_sem, gb4, gz]
    have ze4 : W4.frozen? ⟨w.heap.size + 1, 4, none⟩ = false := by rw [hW4]; simp [go_sem, fb4, gz]
    have l5 : w3.heap.size < W4.heap.size := by rw [hW4]; simp
    clear hW4 ga0 ga1 ga2 ga3 ga4 gb0 gb1 gb2 gb3 gb4 fa0 fa1 fa2 fa3 fa4 fb0 fb1 fb2 fb3 fb4 hW3
    rw [rounds_succ]
    go_wp2_with fail
    exact bodyPost_ret (v := .agg #[.int .u64 r0, .int .u64 r1, .int .u64 r2, .int .u64 r3, .int .u64 r4]) (by simp [results, Try.results84, go_sem, zc0, zc1, zc2, zc3, zc4]) rfl ⟨rfl, ((((hW5.setCell (by simp) _).setCell (by simp) _).setCell (by simp) _).setCell (by simp) _).setCell (by simp) _⟩
  · obtain rfl : R = ⟨a, b, c, d, e⟩ := by rw [HR2.out, if_neg hc]
    clear HR2
    replace hc : (c5 : Int) ≤ 0 := by omega
    go_enter Try.func84, Try.ntmps84
    go_wp2_with fail
    refine (carry_any ⟨x0, y0, z0, u0, v0⟩ _ HB.out.1).mono ?_
    rintro q w1 ⟨rfl, hb1⟩
    rw [← C1.out]
    go_wp2_with fail
    refine (carry_any x1 _ (by have := HB.out.2.1; rw [C1.out]; rw [C1.out] at this; exact this)).mono ?_
    rintro q w2 ⟨rfl, hb2⟩
    rw [← C2.out]
    go_wp2_with fail
    refine (carry_any x2 _ HB.out.2.2).mono ?_
    rintro q w3 ⟨rfl, hb3⟩
    rw [← C3.out]
    have hB := (hb1.trans (hb2.mono hb1.size)).trans (hb3.mono (Nat.le_trans hb1.size hb2.size))
    have hW3 := (((Below.refl w.heap.size w).alloc (Nat.le_refl _) _).alloc (by simp) _).trans (hB.mono (by simp; omega))
    obtain ⟨gc, gf⟩ := bcell hB
    have gz : w.heap.size + 1 < w3.heap.size := by have := hB.size; simp at this; omega
    have gz' : w.heap.size < w3.heap.size := by omega
    have ga0 := gc w.heap.size 0 (by simp; omega)
    have ga1 := gc w.heap.size 1 (by simp; omega)
    have ga2 := gc w.heap.size 2 (by simp; omega)
    have ga3 := gc w.heap.size 3 (by simp; omega)
    have ga4 := gc w.heap.size 4 (by simp; omega)
    have gb0 := gc (w.heap.size+1) 0 (by simp)
    have gb1 := gc (w.heap.size+1) 1 (by simp)
    have gb2 := gc (w.heap.size+1) 2 (by simp)
    have gb3 := gc (w.heap.size+1) 3 (by simp)
    have gb4 := gc (w.heap.size+1) 4 (by simp)
    have fa0 := gf w.heap.size 0 (by simp; omega)
    have fa1 := gf w.heap.size 1 (by simp; omega)
    have fa2 := gf w.heap.size 2 (by simp; omega)
    have fa3 := gf w.heap.size 3 (by simp; omega)
    have fa4 := gf w.heap.size 4 (by simp; omega)
    have fb0 := gf (w.heap.size+1) 0 (by simp)
    have fb1 := gf (w.heap.size+1) 1 (by simp)
    have fb2 := gf (w.heap.size+1) 2 (by simp)
    have fb3 := gf (w.heap.size+1) 3 (by simp)
    have fb4 := gf (w.heap.size+1) 4 (by simp)
    clear hb1 hb2 hb3 hB gc gf
    simp at ga0 ga1 ga2 ga3 ga4 gb0 gb1 gb2 gb3 gb4 fa0 fa1 fa2 fa3 fa4 fb0 fb1 fb2 fb3 fb4
    dsimp only [L5.v]
    go_wp2_with fail
    refine wp_loop_rounds 6 ?_
    rw [rounds_succ]
    go_wp2_with fail
    rw [rounds_succ]
    go_wp2_with fail
    rw [rounds_succ]
    go_wp2_with fail
    rw [rounds_succ]
    go_wp2_with fail
    rw [rounds_succ]
    go_wp2_with fail
    obtain ⟨W4, hW4⟩ : ∃ W : World, W = (((((w3.setCell ⟨w.heap.size, 0, none⟩ (.int .u64 a)).setCell ⟨w.heap.size, 1, none⟩ (.int .u64 b)).setCell ⟨w.heap.size, 2, none⟩ (.int .u64 c)).setCell ⟨w.heap.size, 3, none⟩ (.int .u64 d)).setCell ⟨w.heap.size, 4, none⟩ (.int .u64 e)).alloc (.cells #[.int .u64 r0, .int .u64 r1, .int .u64 r2, .int .u64 r3, .int .u64 r4] 27) := ⟨_, rfl⟩
    rw [← hW4]
    have hW5 : Below w.heap.size w W4 := by
      rw [hW4]
      exact (((((hW3.setCell (Nat.le_refl _) _).setCell (Nat.le_refl _) _).setCell (Nat.le_refl _) _).setCell (Nat.le_refl _) _).setCell (Nat.le_refl _) _).alloc (by simp; omega) _
    have l1 : w.heap.size ≠ w3.heap.size := by omega
    have l2 : w.heap.size + 1 ≠ w3.heap.size := by omega
    have l3 : w3.heap.size ≠ w.heap.size := by omega
    have l4 : w3.heap.size ≠ w.heap.size + 1 := by omega
    have p0 : W4.cell? ⟨w3.heap.size, 0, none⟩ = some (.int .u64 r0) := by rw [hW4]; simp [go_sem]
    have p1 : W4.cell? ⟨w3.heap.size, 1, none⟩ = some (.int .u64 r1) := by rw [hW4]; simp [go_sem]
    have p2 : W4.cell? ⟨w3.heap.size, 2, none⟩ = some (.int .u64 r2) := by rw [hW4]; simp [go_sem]
    have p3 : W4.cell? ⟨w3.heap.size, 3, none⟩ = some (.int .u64 r3) := by rw [hW4]; simp [go_sem]
    have p4 : W4.cell? ⟨w3.heap.size, 4, none⟩ = some (.int .u64 r4) := by rw [hW4]; simp [go_sem]
    have q0 : W4.cell? ⟨w.heap.size, 0, none⟩ = some (.int .u64 a) := by rw [hW4]; simp [go_sem, ga0, gz']
    have q1 : W4.cell? ⟨w.heap.size, 1, none⟩ = some (.int .u64 b) := by rw [hW4]; simp [go_sem, ga1, gz']
    have q2 : W4.cell? ⟨w.heap.size, 2, none⟩ = some (.int .u64 c) := by rw [hW4]; simp [go_sem, ga2, gz']
    have q3 : W4.cell? ⟨w.heap.size, 3, none⟩ = some (.int .u64 d) := by rw [hW4]; simp [go_sem, ga3, gz']
    have q4 : W4.cell? ⟨w.heap.size, 4, none⟩ = some (.int .u64 e) := by rw [hW4]; simp [go_sem, ga4, gz']
    have zc0 : W4.cell? ⟨w.heap.size + 1, 0, none⟩ = some (.int .u64 0) := by rw [hW4]; simp [go_sem, gb0, gz]
    have ze0 : W4.frozen? ⟨w.heap.size + 1, 0, none⟩ = false := by rw [hW4]; simp [go_sem, fb0, gz]
    have zc1 : W4.cell? ⟨w.heap.size + 1, 1, none⟩ = some (.int .u64 0) := by rw [hW4]; simp [go_sem, gb1, gz]
    have ze1 : W4.frozen? ⟨w.heap.size + 1, 1, none⟩ = false := by rw [hW4]; simp [go_sem, fb1, gz]
    have zc2 : W4.cell? ⟨w.heap.size + 1, 2, none⟩ = some (.int .u64 0) := by rw [hW4]; simp [go_sem, gb2, gz]
    have ze2 : W4.frozen? ⟨w.heap.size + 1, 2, none⟩ = false := by rw [hW4]; simp [go_sem, fb2, gz]
    have zc3 : W4.cell? ⟨w.heap.size + 1, 3, none⟩ = some (.int .u64 0) := by rw [hW4]; simp [go_sem, gb3, gz]
    have ze3 : W4.frozen? ⟨w.heap.size + 1, 3, none⟩ = false := by rw [hW4]; simp [go_sem, fb3, gz]
    have zc4 : W4.cell? ⟨w.heap.size + 1, 4, none⟩ = some (.int .u64 0) := by rw [hW4]; simp [go_sem, gb4, gz]
    have ze4 : W4.frozen? ⟨w.heap.size + 1, 4, none⟩ = false := by rw [hW4]; simp [go_sem, fb4, gz]
    have l5 : w3.heap.size < W4.heap.size := by rw [hW4]; simp
    clear hW4 ga0 ga1 ga2 ga3 ga4 gb0 gb1 gb2 gb3 gb4 fa0 fa1 fa2 fa3 fa4 fb0 fb1 fb2 fb3 fb4 hW3
    rw [rounds_succ]
    go_wp2_with fail
    exact bodyPost_ret (v := .agg #[.int .u64 a, .int .u64 b, .int .u64 c, .int .u64 d, .int .u64 e]) (by simp [results, Try.results84, go_sem, zc0, zc1, zc2, zc3, zc4]) rfl ⟨rfl, ((((hW5.setCell (by simp) _).setCell (by simp) _).setCell (by simp) _).setCell (by simp) _).setCell (by simp) _⟩
end Go.Proofs.Ytddgkoheihlbdaa

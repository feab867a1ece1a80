/- field: reduced: what it computes. field: the document's sums, negatives and products: plain numbers. Operations that leave alone all memory below a bound, at the head of a plain region. More steps: an operation that its guard shuts out; a variable made, in a world left open. Regions that draw their order and end in an append. Regions that draw their order: a value or a call, whichever comes up. Regions that draw their order: a call, or a variable made, whichever comes up. Regions that draw their order: calls that always hand back the same may be taken first, too; what else is done, is done in whatever world has more memory. What is general: arrays of bytes as lists of cells, elements, comparisons; arrays that came in. field: Bytes: what it computes. field: Odd: what it computes. field: two arrays of 32 bytes compared: in Gen. field: the document's Of, Raw and Bytes: what they compute. -/
import Derived.Test.YtpkoniebbkkmjaaPnG1
import Derived.Laws.Rows
import Derived.Laws.StructEq
import Derived.Deep.MidRow
import Derived.StillTailTactics
import Derived.Deep.Cut
import Derived.WideKeyArr2
import Derived.ProofKit
namespace Go.Proofs.Ytpkoniebbkkmjaa
open Go.RowKit

theorem lt_big (x : L5) (h : x.lt 2251799813763200) : x.lt 9223372036854775808 := by
  obtain ⟨h1, h2, h3, h4, h5⟩ := h
  exact ⟨by omega, by omega, by omega, by omega, by omega⟩
theorem cry_big (x : L5) (h : x.lt 9223372036854775808) : x.cry.lt 2251799813763200 := by
  obtain ⟨h1, h2, h3, h4, h5⟩ := cry_lt x h
  exact ⟨by omega, by omega, by omega, by omega, by omega⟩

theorem bcell {W w1 : World} (hb : Below W.heap.size W w1) : (∀ b o, b < W.heap.size → w1.cell? ⟨b, o, none⟩ = W.cell? ⟨b, o, none⟩) ∧ (∀ b o, b < W.heap.size → w1.frozen? ⟨b, o, none⟩ = W.frozen? ⟨b, o, none⟩) :=
  ⟨fun b o h => hb.cell (p := ⟨b, o, none⟩) h, fun b o h => hb.frozen (p := ⟨b, o, none⟩) h⟩

set_option maxHeartbeats 4000000 in
theorem reduced_any (x : L5) (w : World) (h : x.lt 9223372036854775808) :
    Calls Try.prog 64 #[x.v] w fun e w' => e = .returned x.red.v ∧ Below w.heap.size w w' := by
  have b1 := lt_big _ (cry_big x h)
  have b2 := lt_big _ (cry_big _ b1)
  have hl := (cry3 x h).1
  obtain ⟨R, hR⟩ : ∃ R, R = x.red := ⟨_, rfl⟩
  rw [← hR]
  have HR := Lib.hid (show R = if 0 < x.cry.cry.cry.more.c5 then x.cry.cry.cry.more.cut else x.cry.cry.cry from hR)
  have HB := Lib.hid (And.intro h (And.intro b1 b2))
  have HL := Lib.hid hl
  clear hR h b1 b2 hl
  obtain ⟨x1, hx1⟩ : ∃ y, y = x.cry := ⟨_, rfl⟩
  obtain ⟨x2, hx2⟩ : ∃ y, y = x1.cry := ⟨_, rfl⟩
  obtain ⟨x3, hx3⟩ : ∃ y, y = x2.cry := ⟨_, rfl⟩
  rw [← hx1, ← hx2, ← hx3] at HL HR
  rw [← hx1, ← hx2] at HB
  have C1 := Lib.hid hx1
  have C2 := Lib.hid hx2
  have C3 := Lib.hid hx3
  clear hx1 hx2 hx3
  obtain ⟨a, b, c, d, e⟩ := x3
  obtain ⟨h1, h2, h3, h4, h5⟩ := HL.out
  simp only at h1 h2 h3 h4 h5
  obtain ⟨a', ha'⟩ : ∃ y, y = a + 19 := ⟨_, rfl⟩
  have s0 : (a : Int) + 19 = (a' : Int) := by omega
  have ba : a' < 2251799813763200 := by omega
  obtain ⟨c1, hc1⟩ : ∃ y, y = car a' := ⟨_, rfl⟩
  obtain ⟨r0, hr0⟩ : ∃ y, y = low a' := ⟨_, rfl⟩
  have k1 : c1 ≤ 4097 := by rw [hc1]; unfold car; omega
  have m0 : r0 < 2251799813685248 := by rw [hr0]; exact low_lt _
  have e0 := div51 a'
  have f0 := and51 a' (by omega)
  rw [← hc1] at e0
  rw [← hr0] at f0
  obtain ⟨t1, ht1⟩ : ∃ y, y = b + c1 := ⟨_, rfl⟩
  have s1 : (b : Int) + (c1 : Int) = (t1 : Int) := by omega
  have u1 : t1 < 9223372036854800000 := by omega
  obtain ⟨c2, hc2⟩ : ∃ y, y = car t1 := ⟨_, rfl⟩
  obtain ⟨r1, hr1⟩ : ∃ y, y = low t1 := ⟨_, rfl⟩
  have k2 : c2 ≤ 4097 := by rw [hc2]; unfold car; omega
  have m1 : r1 < 2251799813685248 := by rw [hr1]; exact low_lt _
  have e1 := div51 t1
  have f1 := and51 t1 (by omega)
  rw [← hc2] at e1
  rw [← hr1] at f1
  obtain ⟨t2, ht2⟩ : ∃ y, y = c + c2 := ⟨_, rfl⟩
  have s2 : (c : Int) + (c2 : Int) = (t2 : Int) := by omega
  have u2 : t2 < 9223372036854800000 := by omega
  obtain ⟨c3, hc3⟩ : ∃ y, y = car t2 := ⟨_, rfl⟩
  obtain ⟨r2, hr2⟩ : ∃ y, y = low t2 := ⟨_, rfl⟩
  have k3 : c3 ≤ 4097 := by rw [hc3]; unfold car; omega
  have m2 : r2 < 2251799813685248 := by rw [hr2]; exact low_lt _
  have e2 := div51 t2
  have f2 := and51 t2 (by omega)
  rw [← hc3] at e2
  rw [← hr2] at f2
  obtain ⟨t3, ht3⟩ : ∃ y, y = d + c3 := ⟨_, rfl⟩
  have s3 : (d : Int) + (c3 : Int) = (t3 : Int) := by omega
  have u3 : t3 < 9223372036854800000 := by omega
  obtain ⟨c4, hc4⟩ : ∃ y, y = car t3 := ⟨_, rfl⟩
  obtain ⟨r3, hr3⟩ : ∃ y, y = low t3 := ⟨_, rfl⟩
  have k4 : c4 ≤ 4097 := by rw [hc4]; unfold car; omega
  have m3 : r3 < 2251799813685248 := by rw [hr3]; exact low_lt _
  have e3 := div51 t3
  have f3 := and51 t3 (by omega)
  rw [← hc4] at e3
  rw [← hr3] at f3
  obtain ⟨t4, ht4⟩ : ∃ y, y = e + c4 := ⟨_, rfl⟩
  have s4 : (e : Int) + (c4 : Int) = (t4 : Int) := by omega
  have u4 : t4 < 9223372036854800000 := by omega
  obtain ⟨c5, hc5⟩ : ∃ y, y = car t4 := ⟨_, rfl⟩
  obtain ⟨r4, hr4⟩ : ∃ y, y = low t4 := ⟨_, rfl⟩
  have k5 : c5 ≤ 4097 := by rw [hc5]; unfold car; omega
  have m4 : r4 < 2251799813685248 := by rw [hr4]; exact low_lt _
  have e4 := div51 t4
  have f4 := and51 t4 (by omega)
  rw [← hc5] at e4
  rw [← hr4] at f4
  have HX := Lib.hid (show (L5.mk a b c d e).more.cut = ⟨r0, r1, r2, r3, r4⟩ ∧ (L5.mk a b c d e).more.c5 = c5 by
    simp only [L5.more, ← ha', L5.cut, L5.c5, L5.c4, L5.c3, L5.c2, L5.c1, ← hc1, ← ht1, ← hc2, ← ht2, ← hc3, ← ht3, ← hc4, ← ht4, ← hc5, ← hr0, ← hr1, ← hr2, ← hr3, ← hr4, and_self])
  have HR2 := Lib.hid (show R = if 0 < c5 then ⟨r0, r1, r2, r3, r4⟩ else ⟨a, b, c, d, e⟩ by rw [HR.out, HX.out.1, HX.out.2])
  clear HX HR hc1 hc2 hc3 hc4 hc5 ht1 ht2 ht3 ht4 hr0 hr1 hr2 hr3 hr4 ha'
  obtain ⟨x0, y0, z0, u0, v0⟩ := x
  by_cases hc : 0 < c5
  · obtain rfl : R = ⟨r0, r1, r2, r3, r4⟩ := by rw [HR2.out, if_pos hc]
    clear HR2
    replace hc : (0 : Int) < (c5 : Int) := by omega
    go_enter Try.func64, Try.ntmps64
    go_wp2_with fail
    refine (carry_any ⟨x0, y0, z0, u0, v0⟩ _ HB.out.1).mono ?_
    rintro q w1 ⟨rfl, hb1⟩
    rw [← C1.out]
    go_wp2_with fail
    refine (carry_any x1 _ (by have := HB.out.2.1; rw [C1.out]; rw [C1.out] at this; exact this)).mono ?_
    rintro q w2 ⟨rfl, hb2⟩
    rw [← C2.out]
    go_wp2_with fail
    refine (carry_any x2 _ HB.out.2.2).mono ?_
    rintro q w3 ⟨rfl, hb3⟩
    rw [← C3.out]
    have hB := (hb1.trans (hb2.mono hb1.size)).trans (hb3.mono (Nat.le_trans hb1.size hb2.size))
    have hW3 := (((Below.refl w.heap.size w).alloc (Nat.le_refl _) _).alloc (by simp) _).trans (hB.mono (by simp; omega))
    obtain ⟨gc, gf⟩ := bcell hB
    have gz : w.heap.size + 1 < w3.heap.size := by have := hB.size; simp at this; omega
    have gz' : w.heap.size < w3.heap.size := by omega
    have ga0 := gc w.heap.size 0 (by simp; omega)
    have ga1 := gc w.heap.size 1 (by simp; omega)
    have ga2 := gc w.heap.size 2 (by simp; omega)
    have ga3 := gc w.heap.size 3 (by simp; omega)
    have ga4 := gc w.heap.size 4 (by simp; omega)
    have gb0 := gc (w.heap.size+1) 0 (by simp)
    have gb1 := gc (w.heap.size+1) 1 (by simp)
    have gb2 := gc (w.heap.size+1) 2 (by simp)
    have gb3 := gc (w.heap.size+1) 3 (by simp)
    have gb4 := gc (w.heap.size+1) 4 (by simp)
    have fa0 := gf w.heap.size 0 (by simp; omega)
    have fa1 := gf w.heap.size 1 (by simp; omega)
    have fa2 := gf w.heap.size 2 (by simp; omega)
    have fa3 := gf w.heap.size 3 (by simp; omega)
    have fa4 := gf w.heap.size 4 (by simp; omega)
    have fb0 := gf (w.heap.size+1) 0 (by simp)
    have fb1 := gf (w.heap.size+1) 1 (by simp)
    have fb2 := gf (w.heap.size+1) 2 (by simp)
    have fb3 := gf (w.heap.size+1) 3 (by simp)
    have fb4 := gf (w.heap.size+1) 4 (by simp)
    clear hb1 hb2 hb3 hB gc gf
    simp at ga0 ga1 ga2 ga3 ga4 gb0 gb1 gb2 gb3 gb4 fa0 fa1 fa2 fa3 fa4 fb0 fb1 fb2 fb3 fb4
    dsimp only [L5.v]
    go_wp2_with fail
    refine wp_loop_rounds 6 ?_
    rw [rounds_succ]
    go_wp2_with fail
    rw [rounds_succ]
    go_wp2_with fail
    rw [rounds_succ]
    go_wp2_with fail
    rw [rounds_succ]
    go_wp2_with fail
    rw [rounds_succ]
    go_wp2_with fail
    obtain ⟨W4, hW4⟩ : ∃ W : World, W = (((((w3.setCell ⟨w.heap.size, 0, none⟩ (.int .u64 a)).setCell ⟨w.heap.size, 1, none⟩ (.int .u64 b)).setCell ⟨w.heap.size, 2, none⟩ (.int .u64 c)).setCell ⟨w.heap.size, 3, none⟩ (.int .u64 d)).setCell ⟨w.heap.size, 4, none⟩ (.int .u64 e)).alloc (.cells #[.int .u64 r0, .int .u64 r1, .int .u64 r2, .int .u64 r3, .int .u64 r4] 27) := ⟨_, rfl⟩
    rw [← hW4]
    have hW5 : Below w.heap.size w W4 := by
      rw [hW4]
      exact (((((hW3.setCell (Nat.le_refl _) _).setCell (Nat.le_refl _) _).setCell (Nat.le_refl _) _).setCell (Nat.le_refl _) _).setCell (Nat.le_refl _) _).alloc (by simp; omega) _
    have l1 : w.heap.size ≠ w3.heap.size := by omega
    have l2 : w.heap.size + 1 ≠ w3.heap.size := by omega
    have l3 : w3.heap.size ≠ w.heap.size := by omega
    have l4 : w3.heap.size ≠ w.heap.size + 1 := by omega
    have p0 : W4.cell? ⟨w3.heap.size, 0, none⟩ = some (.int .u64 r0) := by rw [hW4]; simp [go_sem]
    have p1 : W4.cell? ⟨w3.heap.size, 1, none⟩ = some (.int .u64 r1) := by rw [hW4]; simp [go_sem]
    have p2 : W4.cell? ⟨w3.heap.size, 2, none⟩ = some (.int .u64 r2) := by rw [hW4]; simp [go_sem]
    have p3 : W4.cell? ⟨w3.heap.size, 3, none⟩ = some (.int .u64 r3) := by rw [hW4]; simp [go_sem]
    have p4 : W4.cell? ⟨w3.heap.size, 4, none⟩ = some (.int .u64 r4) := by rw [hW4]; simp [go_sem]
    have q0 : W4.cell? ⟨w.heap.size, 0, none⟩ = some (.int .u64 a) := by rw [hW4]; simp [go_sem, ga0, gz']
    have q1 : W4.cell? ⟨w.heap.size, 1, none⟩ = some (.int .u64 b) := by rw [hW4]; simp [go_sem, ga1, gz']
    have q2 : W4.cell? ⟨w.heap.size, 2, none⟩ = some (.int .u64 c) := by rw [hW4]; simp [go_sem, ga2, gz']
    have q3 : W4.cell? ⟨w.heap.size, 3, none⟩ = some (.int .u64 d) := by rw [hW4]; simp [go_sem, ga3, gz']
    have q4 : W4.cell? ⟨w.heap.size, 4, none⟩ = some (.int .u64 e) := by rw [hW4]; simp [go_sem, ga4, gz']
    have zc0 : W4.cell? ⟨w.heap.size + 1, 0, none⟩ = some (.int .u64 0) := by rw [hW4]; simp [go_sem, gb0, gz]
    have ze0 : W4.frozen? ⟨w.heap.size + 1, 0, none⟩ = false := by rw [hW4]; simp [go_sem, fb0, gz]
    have zc1 : W4.cell? ⟨w.heap.size + 1, 1, none⟩ = some (.int .u64 0) := by rw [hW4]; simp [go_sem, gb1, gz]
    have ze1 : W4.frozen? ⟨w.heap.size + 1, 1, none⟩ = false := by rw [hW4]; simp [go_sem, fb1, gz]
    have zc2 : W4.cell? ⟨w.heap.size + 1, 2, none⟩ = some (.int .u64 0) := by rw [hW4]; simp [go_sem, gb2, gz]
    have ze2 : W4.frozen? ⟨w.heap.size + 1, 2, none⟩ = false := by rw [hW4]; simp [go_sem, fb2, gz]
    have zc3 : W4.cell? ⟨w.heap.size + 1, 3, none⟩ = some (.int .u64 0) := by rw [hW4]; simp [go_sem, gb3, gz]
    have ze3 : W4.frozen? ⟨w.heap.size + 1, 3, none⟩ = false := by rw [hW4]; simp [go_sem, fb3, gz]
    have zc4 : W4.cell? ⟨w.heap.size + 1, 4, none⟩ = some (.int .u64 0) := by rw [hW4]; simp [go_sem, gb4, gz]
    have ze4 : W4.frozen? ⟨w.heap.size + 1, 4, none⟩ = false := by rw [hW4]; simp [go_sem, fb4, gz]
    have l5 : w3.heap.size < W4.heap.size := by rw [hW4]; simp
    clear hW4 ga0 ga1 ga2 ga3 ga4 gb0 gb1 gb2 gb3 gb4 fa0 fa1 fa2 fa3 fa4 fb0 fb1 fb2 fb3 fb4 hW3
    rw [rounds_succ]
    go_wp2_with fail
    exact bodyPost_ret (v := .agg #[.int .u64 r0, .int .u64 r1, .int .u64 r2, .int .u64 r3, .int .u64 r4]) (by simp [results, Try.results64, go_sem, zc0, zc1, zc2, zc3, zc4]) rfl ⟨rfl, ((((hW5.setCell (by simp) _).setCell (by simp) _).setCell (by simp) _).setCell (by simp) _).setCell (by simp) _⟩
  · obtain rfl : R = ⟨a, b, c, d, e⟩ := by rw [HR2.out, if_neg hc]
    clear HR2
    replace hc : (c5 : Int) ≤ 0 := by omega
    go_enter Try.func64, Try.ntmps64
    go_wp2_with fail
    refine (carry_any ⟨x0, y0, z0, u0, v0⟩ _ HB.out.1).mono ?_
    rintro q w1 ⟨rfl, hb1⟩
    rw [← C1.out]
    go_wp2_with fail
    refine (carry_any x1 _ (by have := HB.out.2.1; rw [C1.out]; rw [C1.out] at this; exact this)).mono ?_
    rintro q w2 ⟨rfl, hb2⟩
    rw [← C2.out]
    go_wp2_with fail
    refine (carry_any x2 _ HB.out.2.2).mono ?_
    rintro q w3 ⟨rfl, hb3⟩
    rw [← C3.out]
    have hB := (hb1.trans (hb2.mono hb1.size)).trans (hb3.mono (Nat.le_trans hb1.size hb2.size))
    have hW3 := (((Below.refl w.heap.size w).alloc (Nat.le_refl _) _).alloc (by simp) _).trans (hB.mono (by simp; omega))
    obtain ⟨gc, gf⟩ := bcell hB
    have gz : w.heap.size + 1 < w3.heap.size := by have := hB.size; simp at this; omega
    have gz' : w.heap.size < w3.heap.size := by omega
    have ga0 := gc w.heap.size 0 (by simp; omega)
    have ga1 := gc w.heap.size 1 (by simp; omega)
    have ga2 := gc w.heap.size 2 (by simp; omega)
    have ga3 := gc w.heap.size 3 (by simp; omega)
    have ga4 := gc w.heap.size 4 (by simp; omega)
    have gb0 := gc (w.heap.size+1) 0 (by simp)
    have gb1 := gc (w.heap.size+1) 1 (by simp)
    have gb2 := gc (w.heap.size+1) 2 (by simp)
    have gb3 := gc (w.heap.size+1) 3 (by simp)
    have gb4 := gc (w.heap.size+1) 4 (by simp)
    have fa0 := gf w.heap.size 0 (by simp; omega)
    have fa1 := gf w.heap.size 1 (by simp; omega)
    have fa2 := gf w.heap.size 2 (by simp; omega)
    have fa3 := gf w.heap.size 3 (by simp; omega)
    have fa4 := gf w.heap.size 4 (by simp; omega)
    have fb0 := gf (w.heap.size+1) 0 (by simp)
    have fb1 := gf (w.heap.size+1) 1 (by simp)
    have fb2 := gf (w.heap.size+1) 2 (by simp)
    have fb3 := gf (w.heap.size+1) 3 (by simp)
    have fb4 := gf (w.heap.size+1) 4 (by simp)
    clear hb1 hb2 hb3 hB gc gf
    simp at ga0 ga1 ga2 ga3 ga4 gb0 gb1 gb2 gb3 gb4 fa0 fa1 fa2 fa3 fa4 fb0 fb1 fb2 fb3 fb4
    dsimp only [L5.v]
    go_wp2_with fail
    refine wp_loop_rounds 6 ?_
    rw [rounds_succ]
    go_wp2_with fail
    rw [rounds_succ]
    go_wp2_with fail
    rw [rounds_succ]
    go_wp2_with fail
    rw [rounds_succ]
    go_wp2_with fail
    rw [rounds_succ]
    go_wp2_with fail
    obtain ⟨W4, hW4⟩ : ∃ W : World, W = (((((w3.setCell ⟨w.heap.size, 0, none⟩ (.int .u64 a)).setCell ⟨w.heap.size, 1, none⟩ (.int .u64 b)).setCell ⟨w.heap.size, 2, none⟩ (.int .u64 c)).setCell ⟨w.heap.size, 3, none⟩ (.int .u64 d)).setCell ⟨w.heap.size, 4, none⟩ (.int .u64 e)).alloc (.cells #[.int .u64 r0, .int .u64 r1, .int .u64 r2, .int .u64 r3, .int .u64 r4] 27) := ⟨_, rfl⟩
    rw [← hW4]
    have hW5 : Below w.heap.size w W4 := by
      rw [hW4]
      exact (((((hW3.setCell (Nat.le_refl _) _).setCell (Nat.le_refl _) _).setCell (Nat.le_refl _) _).setCell (Nat.le_refl _) _).setCell (Nat.le_refl _) _).alloc (by simp; omega) _
    have l1 : w.heap.size ≠ w3.heap.size := by omega
    have l2 : w.heap.size + 1 ≠ w3.heap.size := by omega
    have l3 : w3.heap.size ≠ w.heap.size := by omega
    have l4 : w3.heap.size ≠ w.heap.size + 1 := by omega
    have p0 : W4.cell? ⟨w3.heap.size, 0, none⟩ = some (.int .u64 r0) := by rw [hW4]; simp [go_sem]
    have p1 : W4.cell? ⟨w3.heap.size, 1, none⟩ = some (.int .u64 r1) := by rw [hW4]; simp [go_sem]
    have p2 : W4.cell? ⟨w3.heap.size, 2, none⟩ = some (.int .u64 r2) := by rw [hW4]; simp [go_sem]
    have p3 : W4.cell? ⟨w3.heap.size, 3, none⟩ = some (.int .u64 r3) := by rw [hW4]; simp [go_sem]
    have p4 : W4.cell? ⟨w3.heap.size, 4, none⟩ = some (.int .u64 r4) := by rw [hW4]; simp [go_sem]
    have q0 : W4.cell? ⟨w.heap.size, 0, none⟩ = some (.int .u64 a) := by rw [hW4]; simp [go_sem, ga0, gz']
    have q1 : W4.cell? ⟨w.heap.size, 1, none⟩ = some (.int .u64 b) := by rw [hW4]; simp [go_sem, ga1, gz']
    have q2 : W4.cell? ⟨w.heap.size, 2, none⟩ = some (.int .u64 c) := by rw [hW4]; simp [go_sem, ga2, gz']
    have q3 : W4.cell? ⟨w.heap.size, 3, none⟩ = some (.int .u64 d) := by rw [hW4]; simp [go_sem, ga3, gz']
    have q4 : W4.cell? ⟨w.heap.size, 4, none⟩ = some (.int .u64 e) := by rw [hW4]; simp [go_sem, ga4, gz']
    have zc0 : W4.cell? ⟨w.heap.size + 1, 0, none⟩ = some (.int .u64 0) := by rw [hW4]; simp [go_sem, gb0, gz]
    have ze0 : W4.frozen? ⟨w.heap.size + 1, 0, none⟩ = false := by rw [hW4]; simp [go_sem, fb0, gz]
    have zc1 : W4.cell? ⟨w.heap.size + 1, 1, none⟩ = some (.int .u64 0) := by rw [hW4]; simp [go_sem, gb1, gz]
    have ze1 : W4.frozen? ⟨w.heap.size + 1, 1, none⟩ = false := by rw [hW4]; simp [go_sem, fb1, gz]
    have zc2 : W4.cell? ⟨w.heap.size + 1, 2, none⟩ = some (.int .u64 0) := by rw [hW4]; simp [go_sem, gb2, gz]
    have ze2 : W4.frozen? ⟨w.heap.size + 1, 2, none⟩ = false := by rw [hW4]; simp [go_sem, fb2, gz]
    have zc3 : W4.cell? ⟨w.heap.size + 1, 3, none⟩ = some (.int .u64 0) := by rw [hW4]; simp [go_sem, gb3, gz]
    have ze3 : W4.frozen? ⟨w.heap.size + 1, 3, none⟩ = false := by rw [hW4]; simp [go_sem, fb3, gz]
    have zc4 : W4.cell? ⟨w.heap.size + 1, 4, none⟩ = some (.int .u64 0) := by rw [hW4]; simp [go_sem, gb4, gz]
    have ze4 : W4.frozen? ⟨w.heap.size + 1, 4, none⟩ = false := by rw [hW4]; simp [go_sem, fb4, gz]
    have l5 : w3.heap.size < W4.heap.size := by rw [hW4]; simp
    clear hW4 ga0 ga1 ga2 ga3 ga4 gb0 gb1 gb2 gb3 gb4 fa0 fa1 fa2 fa3 fa4 fb0 fb1 fb2 fb3 fb4 hW3
    rw [rounds_succ]
    go_wp2_with fail
    exact bodyPost_ret (v := .agg #[.int .u64 a, .int .u64 b, .int .u64 c, .int .u64 d, .int .u64 e]) (by simp [results, Try.results64, go_sem, zc0, zc1, zc2, zc3, zc4]) rfl ⟨rfl, ((((hW5.setCell (by simp) _).setCell (by simp) _).setCell (by simp) _).setCell (by simp) _).setCell (by simp) _⟩
end Go.Proofs.Ytpkoniebbkkmjaa
namespace Go.Proofs.Ytpkoniebbkkmjaa

theorem fval_add (f g : Nat → Nat) : ∀ n, fval (fun j => f j + g j) n = fval f n + fval g n
  | 0 => rfl
  | n + 1 => by simp only [fval]; rw [fval_add f g n, Nat.add_mul]; omega
theorem fval_mul (c : Nat) (f : Nat → Nat) : ∀ n, fval (fun j => c * f j) n = c * fval f n
  | 0 => rfl
  | n + 1 => by simp only [fval]; rw [fval_mul c f n, Nat.mul_add, Nat.mul_assoc]
theorem fval_upd (f : Nat → Nat) (i v : Nat) : ∀ n, (i < n → fval (upd f i v) n + f i * 65536 ^ i = fval f n + v * 65536 ^ i) ∧ (n ≤ i → fval (upd f i v) n = fval f n)
  | 0 => ⟨fun h => by omega, fun _ => rfl⟩
  | n + 1 => by
    obtain ⟨h1, h2⟩ := fval_upd f i v n
    refine ⟨fun h => ?_, fun h => ?_⟩
    · simp only [fval]
      by_cases e : n = i
      · subst e
        rw [h2 (Nat.le_refl _)]
        simp only [upd, if_true]; omega
      · have := h1 (by omega)
        simp only [upd, if_neg e]
        unfold upd at this
        omega
    · simp only [fval]
      rw [h2 (by omega)]
      unfold upd
      rw [if_neg (by omega)]
theorem fval_shift (f : Nat → Nat) (k : Nat) : ∀ n, fval f (k + n) = fval f k + 65536 ^ k * fval (fun j => f (k + j)) n
  | 0 => by simp [fval]
  | n + 1 => by
    rw [← Nat.add_assoc, fval, fval_shift f k n, fval, Nat.mul_add, Nat.pow_add]
    simp only [Nat.mul_left_comm, Nat.add_assoc]
theorem fval_zero : ∀ n, fval (fun _ => 0) n = 0
  | 0 => rfl
  | n + 1 => by simp [fval, fval_zero n]

/-- what is borrowed from limb i of p less n -/
def br (n : Nat) : Nat → Nat | 0 => 0 | i + 1 => 1 - (dig P25 i + 65536 - dig n i - br n i) / 65536
def bd (n i : Nat) : Nat := (dig P25 i + 65536 - dig n i - br n i) % 65536
theorem br_le (n : Nat) : ∀ i, br n i ≤ 1
  | 0 => by simp [br]
  | i + 1 => by rw [br]; omega
theorem bd_val (n : Nat) : ∀ i, fval (bd n) i + fval (dig n) i = fval (dig P25) i + 65536 ^ i * br n i
  | 0 => by simp [fval, br]
  | i + 1 => by
    have ih := bd_val n i
    have hb := br_le n i
    have hp := dig_lt P25 i
    have hn := dig_lt n i
    have e1 : bd n i + dig n i + br n i = dig P25 i + 65536 * br n (i + 1) := by
      rw [br]; unfold bd; omega
    have e2 := congrArg (65536 ^ i * ·) e1
    simp only [Nat.mul_add] at e2
    simp only [fval, Nat.pow_succ]
    rw [Nat.mul_comm (bd n i), Nat.mul_comm (dig n i), Nat.mul_comm (dig P25 i), Nat.mul_assoc]
    omega
theorem bd_lt (n i : Nat) : bd n i < 65536 := Nat.mod_lt _ (by omega)
theorem neg_val (n : Nat) (h : n ≤ P25) : fval (bd n) 16 = P25 - n := by
  have h1 := bd_val n 16
  have h2 := fval_lt 16 fun j _ => bd_lt n j
  have h3 := br_le n 16
  have hP : P25 < 115792089237316195423570985008687907853269984665640564039457584007913129639936 := by unfold P25; omega
  rw [fval_of_dig, fval_of_dig] at h1
  simp only [Nat.reducePow] at h1 h2
  rw [Nat.mod_eq_of_lt hP, Nat.mod_eq_of_lt (by omega)] at h1
  have : br n 16 = 0 := by
    rcases Nat.eq_zero_or_pos (br n 16) with h | h
    · exact h
    · have : br n 16 = 1 := by omega
      rw [this] at h1; omega
  rw [this] at h1
  omega

/-- row i of the products, k of them put to u -/
def rowF (x y : Nat → Nat) (i : Nat) (u : Nat → Nat) : Nat → Nat → Nat
  | 0 => u
  | k + 1 => upd (rowF x y i u k) (i + k) (rowF x y i u k (i + k) + x i * y k)
def allF (x y : Nat → Nat) : Nat → Nat → Nat
  | 0 => fun _ => 0
  | i + 1 => rowF x y i (allF x y i) 16
theorem rowF_val (x y : Nat → Nat) (i : Nat) (u : Nat → Nat) (N : Nat) (hi : i + 16 ≤ N) : ∀ k, k ≤ 16 → fval (rowF x y i u k) N = fval u N + x i * 65536 ^ i * fval y k
  | 0, _ => by simp [rowF, fval]
  | k + 1, hk => by
    have ih := rowF_val x y i u N hi k (by omega)
    have h := (fval_upd (rowF x y i u k) (i + k) (rowF x y i u k (i + k) + x i * y k) N).1 (by omega)
    rw [Nat.add_mul] at h
    have e : x i * 65536 ^ i * (y k * 65536 ^ k) = x i * y k * 65536 ^ (i + k) := by
      rw [Nat.pow_add]; simp only [Nat.mul_assoc, Nat.mul_left_comm]
    rw [rowF, show fval y (k + 1) = fval y k + y k * 65536 ^ k from rfl, Nat.mul_add, e]
    omega
theorem allF_valN (x y : Nat → Nat) (N : Nat) (hN : N = 32) : ∀ i, i ≤ 16 → fval (allF x y i) N = fval x i * fval y 16
  | 0, _ => by rw [allF, fval_zero]; simp [fval]
  | i + 1, hi => by
    rw [allF, rowF_val x y i _ N (by omega) 16 (Nat.le_refl _), allF_valN x y N hN i (by omega), show fval x (i + 1) = fval x i + x i * 65536 ^ i from rfl, Nat.add_mul]
theorem allF_val (x y : Nat → Nat) : fval (allF x y 16) 32 = fval x 16 * fval y 16 := allF_valN x y 32 rfl 16 (Nat.le_refl _)
theorem rowF_le {x y : Nat → Nat} (hx : ∀ j, x j < 65536) (hy : ∀ j, y j < 65536) (i : Nat) {u : Nat → Nat} {M : Nat} (hu : ∀ j, u j ≤ M) : ∀ k j, rowF x y i u k j ≤ M + 4294967296 * k
  | 0, j => by simpa [rowF] using hu j
  | k + 1, j => by
    have ih := rowF_le hx hy i hu k
    have h1 := hx i
    have h2 := hy k
    have h3 : x i * y k ≤ 65536 * 65536 := Nat.mul_le_mul (by omega) (by omega)
    rw [rowF]; unfold upd
    split
    · have := ih (i + k); omega
    · have := ih j; omega
theorem allF_le {x y : Nat → Nat} (hx : ∀ j, x j < 65536) (hy : ∀ j, y j < 65536) : ∀ i j, allF x y i j ≤ 68719476736 * i
  | 0, j => by simp [allF]
  | i + 1, j => by
    have := rowF_le hx hy i (allF_le hx hy i) 16 j
    rw [allF]; omega
/-- folded: 2^256 is 38 -/
def foldF (v : Nat → Nat) (j : Nat) : Nat := v j + 38 * v (j + 16)
theorem foldF_mod (v : Nat → Nat) : fval (foldF v) 16 % P25 = fval v 32 % P25 := by
  have h := fval_shift v 16 16
  have e : fval (foldF v) 16 = fval v 16 + 38 * fval (fun j => v (16 + j)) 16 := by
    rw [← fval_mul, ← fval_add]
    apply fval_congr
    intro j _
    simp only [foldF, Nat.add_comm 16 j]
  simp only [Nat.reducePow, Nat.reduceAdd] at h
  have : fval v 32 = fval (foldF v) 16 + P25 * (2 * fval (fun j => v (16 + j)) 16) := by
    rw [e, h]; unfold P25; omega
  rw [this, Nat.add_mul_mod_self_left]
end Go.Proofs.Ytpkoniebbkkmjaa
namespace Go.Proofs.Ytpkoniebbkkmjaa
open Go.RowKit

variable {P : Program} {ops : Array Oper}

theorem wpList_of_quiet {C : World → Prop} {Q : Exit → Act → World → Prop} {K : Act → Prop} {rest : List Oper} : ∀ (l : List Oper) (a : Act) (w : World), C w → wpQuiet P ops C K l a →
    (∀ a' w', C w' → K a' → wpList P ops Q rest a' w') → wpList P ops Q (l ++ rest) a w
  | [], a, w, hw, h, hK => hK a w hw h
  | o :: l, a, w, hw, h, hK => by
    refine wpList_step fun K' hK' => ?_
    unfold wpQuiet at h
    by_cases hwt : Region.wanted o (yielded ops a.tmps) = true
    · rw [if_pos hwt] at h ⊢
      exact Oper.wp_of_quiet hw (fun a' w' hw' h' => hK' _ _ (wpList_of_quiet l a' w' hw' h' hK)) h
    · rw [if_neg hwt] at h ⊢
      exact hK' _ _ (wpList_of_quiet l _ w hw h hK)

/-- the first n operations of a plain region -/
theorem wpList_made {Q : Exit → Act → World → Prop} {l : List Oper} {a : Act} {w : World} (n : Nat) (B : Nat) (W : World) (h0 : Below B W w)
    (h : wpQuiet P ops (fun w' => Below B W w') (fun a' => ∀ w', Below B W w' → wpList P ops Q (l.drop n) a' w') (l.take n) a) : wpList P ops Q l a w := by
  have := wpList_of_quiet (C := fun w' => Below B W w') (rest := l.drop n) (Q := Q) (l.take n) a w h0 h (fun a' w' hw' hk => hk w' hw')
  rwa [List.take_append_drop] at this
end Go.Proofs.Ytpkoniebbkkmjaa
namespace Go.Proofs.Ytpkoniebbkkmjaa
open Go.RowKit

variable {P : Program} {ops : Array Oper}

theorem wpQ_skip {C : World → Prop} {Q : Act → Prop} {a : Act} {o : Oper} {rest : List Oper} (hgd : Region.wanted o (yielded ops a.tmps) = false) (h : wpQuiet P ops C Q rest (a.put o.dst undef)) : wpQuiet P ops C Q (o :: rest) a := by
  unfold wpQuiet
  rw [if_neg (by rw [hgd]; simp)]
  exact h

theorem wpList_new {rest : List Oper} {o : Oper} {a : Act} {w : World} {Q : Exit → Act → World → Prop} (hgd : Region.wanted o (yielded ops a.tmps) = true) (ty : TypeId) (ho : o.op = .alloc ty) (cells : Array Value)
    (hr : ∀ w, (Instr.alloc ty true (.tuple #[])).run P w = .ok (.pointer (some ⟨w.heap.size, 0, none⟩)) (w.alloc (.cells cells ty)))
    (h : ∀ g w', Box w' g ty cells → w.heap.size ≤ g → Below w.heap.size w w' → wpList P ops Q rest (a.put o.dst (.pointer (some ⟨g, 0, none⟩))) w') : wpList P ops Q (o :: rest) a w :=
  wpList_alloc_box hgd ty ho cells hr (h _ _ (Box.new _ _ _) (Nat.le_refl _) ((Below.refl _ _).alloc (Nat.le_refl _) _))

/-- the world behind a call of a function that makes memory at most -/
theorem wpList_made_call {rest : List Oper} {o : Oper} {a : Act} {w : World} {Q : Exit → Act → World → Prop} (hgd : Region.wanted o (yielded ops a.tmps) = true) (f : FuncId) (args : Array Value)
    (hr : (execOp a.eval o).run P w = .ok (.enter f args) w) (v : Value) (hc : Calls P f args w fun e w' => e = .returned v ∧ Below w.heap.size w w')
    (h : ∀ w', Below w.heap.size w w' → wpList P ops Q rest (a.put o.dst v) w') : wpList P ops Q (o :: rest) a w :=
  wpList_enter hgd f args hr v _ hc h

/-- two boxes made one behind the other -/
theorem Box.before {w : World} {g k : Nat} {T : TypeId} {cs : Array Value} (h : Box w g T cs) (hk : w.heap.size ≤ k) : g ≠ k := by
  have := h.lt
  omega
theorem Box.behind {w : World} {g k : Nat} {T : TypeId} {cs : Array Value} (h : Box w g T cs) (hk : w.heap.size ≤ k) : k ≠ g := by
  have := h.lt
  omega

theorem wpList_enterR {rest : List Oper} {o : Oper} {a : Act} {w : World} {Q : Exit → Act → World → Prop} (hgd : Region.wanted o (yielded ops a.tmps) = true) (f : FuncId) (args : Array Value)
    (hr : (execOp a.eval o).run P w = .ok (.enter f args) w) (R : Ending → World → Prop) (hc : Calls P f args w R)
    (h : ∀ e w', R e w' → ∃ v, e = .returned v ∧ wpList P ops Q rest (a.put o.dst v) w') : wpList P ops Q (o :: rest) a w :=
  wpList_want hgd fun _ hK => by
    unfold Oper.wp
    rw [hr]
    refine hc.mono fun e w' he => ?_
    obtain ⟨v, rfl, hw⟩ := h e w' he
    exact hK _ _ hw
end Go.Proofs.Ytpkoniebbkkmjaa
namespace Go.Proofs.Ytpkoniebbkkmjaa
open Go.RowKit

variable {P : Program} {ops : Array Oper}

/-- the one operation that may come up yields a value, in another world -/
theorem wpH_run {S : World → Prop} {Q : Exit → Act → World → Prop} {md : Region.Mode} (i : Nat) {oi : Oper} {tl : List Oper} {fuel : Nat} {listed : Array Bool} {a : Act} {w : World} (hi : ops.toList.drop i = oi :: tl)
    (hr : Region.ready md ops listed = [i]) (hgd : Region.wanted oi (yielded ops a.tmps) = true) (v : Value) (w' : World) (hrun : (execOp a.eval oi).run P w = .ok (.value v) w')
    (hS : S w') (h : wpAnyH P md ops Q S fuel (listed.setIfInBounds i true) (a.put oi.dst v) w') : wpAnyH P md ops Q S (fuel + 1) listed a w :=
  wpH_one i hi hr hgd (by unfold Oper.wp; rw [hrun]; exact ⟨hS, h⟩)

/-- either of two may come up, each yields a value -/
theorem wpH_two_runs {S : World → Prop} {Q : Exit → Act → World → Prop} {md : Region.Mode} (i j : Nat) {oi oj : Oper} {tl tl' : List Oper} {fuel : Nat} {listed : Array Bool} {a : Act} {w : World} (hi : ops.toList.drop i = oi :: tl) (hj : ops.toList.drop j = oj :: tl')
    (hr : Region.ready md ops listed = [i, j]) (hgd : Region.wanted oi (yielded ops a.tmps) = true) (hgd' : Region.wanted oj (yielded ops a.tmps) = true)
    (v : Value) (w' : World) (hrun : (execOp a.eval oi).run P w = .ok (.value v) w') (hS : S w')
    (u : Value) (w'' : World) (hrun' : (execOp a.eval oj).run P w = .ok (.value u) w'') (hS' : S w'')
    (h : wpAnyH P md ops Q S fuel (listed.setIfInBounds i true) (a.put oi.dst v) w') (h' : wpAnyH P md ops Q S fuel (listed.setIfInBounds j true) (a.put oj.dst u) w'') : wpAnyH P md ops Q S (fuel + 1) listed a w :=
  wpAnyH_all hr (by simp) (fun k hk => by
    rcases List.mem_cons.1 hk with rfl | hk
    · exact wpOp_step (op_of_drop hi) (fun K' hK => by rw [if_pos hgd]; unfold Oper.wp; rw [hrun]; exact hK _ _ ⟨hS, h⟩)
    · obtain rfl : k = j := by simpa using hk
      exact wpOp_step (op_of_drop hj) (fun K' hK => by rw [if_pos hgd']; unfold Oper.wp; rw [hrun']; exact hK _ _ ⟨hS', h'⟩))

/-- either of two may come up: one yields a value, the other one stores a whole array or struct -/
theorem wpH_run_or_store {S : World → Prop} {Q : Exit → Act → World → Prop} {md : Region.Mode} (i j : Nat) {oi oj : Oper} {tl tl' : List Oper} {fuel : Nat} {listed : Array Bool} {a : Act} {w : World} (hi : ops.toList.drop i = oi :: tl) (hj : ops.toList.drop j = oj :: tl')
    (hr : Region.ready md ops listed = [i, j]) (hgd : Region.wanted oi (yielded ops a.tmps) = true) (hgd' : Region.wanted oj (yielded ops a.tmps) = true)
    (v : Value) (hrun : (execOp a.eval oi).run P w = .ok (.value v) w) (hS : S w)
    (ty : TypeId) (x y : Operand) (ho : oj.op = .store ty x y)
    {g : Nat} {T : TypeId} {old cells : Array Value} (hg : Box w g T old) (hx : a.eval x = .pointer (some ⟨g, 0, none⟩)) (hy : a.eval y = .agg cells) (hsz : old.size = cells.size)
    (hi' : (P.info? ty).map (·.size) = some cells.size) (h1 : cells.all (·.oneCell') = true)
    (h : wpAnyH P md ops Q S fuel (listed.setIfInBounds i true) (a.put oi.dst v) w)
    (h' : ∀ w', Box w' g T cells → Stored w w' g → S w' ∧ wpAnyH P md ops Q S fuel (listed.setIfInBounds j true) (a.put oj.dst undef) w') : wpAnyH P md ops Q S (fuel + 1) listed a w :=
  wpAnyH_all hr (by simp) (fun k hk => by
    rcases List.mem_cons.1 hk with rfl | hk
    · exact wpOp_step (op_of_drop hi) (fun K' hK => by rw [if_pos hgd]; unfold Oper.wp; rw [hrun]; exact hK _ _ ⟨hS, h⟩)
    · obtain rfl : k = j := by simpa using hk
      exact wpOp_step (op_of_drop hj) (fun K' hK => by
        rw [if_pos hgd']
        exact Oper.wp_mono hK (wp_store_box ty x y ho hg hx hy hsz hi' h1 h')))

/-- the one operation that may come up is a call -/
theorem wpH_enter {S : World → Prop} {Q : Exit → Act → World → Prop} {md : Region.Mode} (i : Nat) {oi : Oper} {tl : List Oper} {fuel : Nat} {listed : Array Bool} {a : Act} {w : World} (hi : ops.toList.drop i = oi :: tl)
    (hr : Region.ready md ops listed = [i]) (hgd : Region.wanted oi (yielded ops a.tmps) = true) (f : FuncId) (args : Array Value) (hrun : (execOp a.eval oi).run P w = .ok (.enter f args) w) (R : Ending → World → Prop) (hc : Calls P f args w R)
    (h : ∀ e w', R e w' → ∃ v, e = .returned v ∧ S w' ∧ wpAnyH P md ops Q S fuel (listed.setIfInBounds i true) (a.put oi.dst v) w') : wpAnyH P md ops Q S (fuel + 1) listed a w :=
  wpH_one i hi hr hgd (by
    unfold Oper.wp
    rw [hrun]
    refine hc.mono fun e w' he => ?_
    obtain ⟨v, rfl, hv⟩ := h e w' he
    exact hv)

theorem wpH_append_sl {S : World → Prop} {Q : Exit → Act → World → Prop} {md : Region.Mode} (i : Nat) {oi : Oper} {tl : List Oper} {fuel : Nat} {listed : Array Bool} {a : Act} {w : World} (hi : ops.toList.drop i = oi :: tl)
    (hr : Region.ready md ops listed = [i]) (hgd : Region.wanted oi (yielded ops a.tmps) = true) (s x : Operand) (t : TypeId)
    (ho : oi.op = .call { callee := .builtin .append, args := #[s, x], argTypes := #[t, t] })
    (base : Nat) (e : TypeId) (j : TypeInfo) (ht : P.underlying t = some (.slice e)) (hj : P.info? e = some j) (hz : j.zero = some (.int .u8 0)) (hsize : j.size = 1) (hby : j.bytes = 1)
    (v : Value) (n : Nat) (l : List UInt8) (hs : a.eval s = v) (hown : w.ownsRow base e 1 v n (Lib.byteCells l))
    (ax : Option Addr) (m c : Nat) (l2 : List UInt8) (hx : a.eval x = .slice ax m c) (hsl : Sl w ax m c l2)
    (hbytes : n + m ≤ 140737488355328) (hbase : base ≤ w.heap.size)
    (h : ∀ v' w', w'.ownsRow base e 1 v' (n + m) (Lib.byteCells (l ++ l2)) → w.grownBy w' v.ownBlock → S w' ∧ wpAnyH P md ops Q S fuel (listed.setIfInBounds i true) (a.put oi.dst v') w') : wpAnyH P md ops Q S (fuel + 1) listed a w :=
  wpH_one i hi hr hgd (wp_append_sl s x t ho base e j ht hj hz hsize hby v n l hs hown ax m c l2 hx hsl hbytes hbase h)
end Go.Proofs.Ytpkoniebbkkmjaa
namespace Go.Proofs.Ytpkoniebbkkmjaa
open Go.RowKit

variable {P : Program} {ops : Array Oper}

theorem wpH_run_or_enter {S : World → Prop} {Q : Exit → Act → World → Prop} {md : Region.Mode} (i j : Nat) {oi oj : Oper} {tl tl' : List Oper} {fuel : Nat} {listed : Array Bool} {a : Act} {w : World} (hi : ops.toList.drop i = oi :: tl) (hj : ops.toList.drop j = oj :: tl')
    (hr : Region.ready md ops listed = [i, j]) (hgd : Region.wanted oi (yielded ops a.tmps) = true) (hgd' : Region.wanted oj (yielded ops a.tmps) = true)
    (v : Value) (hrun : (execOp a.eval oi).run P w = .ok (.value v) w) (hS : S w)
    (f : FuncId) (args : Array Value) (hrun' : (execOp a.eval oj).run P w = .ok (.enter f args) w) (R : Ending → World → Prop) (hc : Calls P f args w R)
    (h : wpAnyH P md ops Q S fuel (listed.setIfInBounds i true) (a.put oi.dst v) w)
    (h' : ∀ e w', R e w' → ∃ v, e = .returned v ∧ S w' ∧ wpAnyH P md ops Q S fuel (listed.setIfInBounds j true) (a.put oj.dst v) w') : wpAnyH P md ops Q S (fuel + 1) listed a w :=
  wpAnyH_all hr (by simp) (fun k hk => by
    rcases List.mem_cons.1 hk with rfl | hk
    · exact wpOp_step (op_of_drop hi) (fun K' hK => by rw [if_pos hgd]; unfold Oper.wp; rw [hrun]; exact hK _ _ ⟨hS, h⟩)
    · obtain rfl : k = j := by simpa using hk
      exact wpOp_step (op_of_drop hj) (fun K' hK => by
        rw [if_pos hgd']
        unfold Oper.wp
        rw [hrun']
        refine hc.mono fun e w' he => ?_
        obtain ⟨v, rfl, hv⟩ := h' e w' he
        exact hK _ _ hv))
end Go.Proofs.Ytpkoniebbkkmjaa
namespace Go.Proofs.Ytpkoniebbkkmjaa
open Go.RowKit

variable {P : Program} {ops : Array Oper}

theorem run_alloc_box {o : Oper} {a : Act} {w : World} {ty : TypeId} (ho : o.op = .alloc ty) (cells : Array Value)
    (hr : (Instr.alloc ty true (.tuple #[])).run P w = .ok (.pointer (some ⟨w.heap.size, 0, none⟩)) (w.alloc (.cells cells ty))) :
    (execOp a.eval o).run P w = .ok (.value (.pointer (some ⟨w.heap.size, 0, none⟩))) (w.alloc (.cells cells ty)) := by
  unfold execOp
  simp only [ho, Sem.run_bind, Sem.run_pure, Result.andThen_ok, hr]

theorem wpH_enter_or_run {S : World → Prop} {Q : Exit → Act → World → Prop} {md : Region.Mode} (i j : Nat) {oi oj : Oper} {tl tl' : List Oper} {fuel : Nat} {listed : Array Bool} {a : Act} {w : World} (hi : ops.toList.drop i = oi :: tl) (hj : ops.toList.drop j = oj :: tl')
    (hr : Region.ready md ops listed = [i, j]) (hgd : Region.wanted oi (yielded ops a.tmps) = true) (hgd' : Region.wanted oj (yielded ops a.tmps) = true)
    (f : FuncId) (args : Array Value) (hrun : (execOp a.eval oi).run P w = .ok (.enter f args) w) (R : Ending → World → Prop) (hc : Calls P f args w R)
    (v : Value) (w' : World) (hrun' : (execOp a.eval oj).run P w = .ok (.value v) w') (hS : S w')
    (h : ∀ e w', R e w' → ∃ v, e = .returned v ∧ S w' ∧ wpAnyH P md ops Q S fuel (listed.setIfInBounds i true) (a.put oi.dst v) w')
    (h' : wpAnyH P md ops Q S fuel (listed.setIfInBounds j true) (a.put oj.dst v) w') : wpAnyH P md ops Q S (fuel + 1) listed a w :=
  wpAnyH_all hr (by simp) (fun k hk => by
    rcases List.mem_cons.1 hk with rfl | hk
    · exact wpOp_step (op_of_drop hi) (fun K' hK => by
        rw [if_pos hgd]
        unfold Oper.wp
        rw [hrun]
        refine hc.mono fun e w' he => ?_
        obtain ⟨v, rfl, hv⟩ := h e w' he
        exact hK _ _ hv)
    · obtain rfl : k = j := by simpa using hk
      exact wpOp_step (op_of_drop hj) (fun K' hK => by rw [if_pos hgd']; unfold Oper.wp; rw [hrun']; exact hK _ _ ⟨hS, h'⟩))
end Go.Proofs.Ytpkoniebbkkmjaa
namespace Go.Proofs.Ytpkoniebbkkmjaa
open Go.RowKit

variable {P : Program} {ops : Array Oper} {Q : Exit → Act → World → Prop} {md : Region.Mode} {S : World → Prop}

/-- one value, and no memory changed that was there -/
def tameUpon (P : Program) (w : World) (v : Value) : Result Next → Prop
  | .ok (.value u) w' => w' = w ∧ u = v
  | .ok (.enter f args) w' => w' = w ∧ Calls P f args w (fun e w'' => e = .returned v ∧ Below w.heap.size w w'')
  | _ => False

def Tame (P : Program) (ops : Array Oper) (S : World → Prop) (o : Oper) (v : Value) (a : Act) : Prop :=
  (Region.wanted o (yielded ops a.tmps) = true ∧ ∀ w, S w → tameUpon P w v ((execOp a.eval o).run P w)) ∨ (Region.wanted o (yielded ops a.tmps) = false ∧ v = undef)

theorem Tame.wpOp {i : Nat} {o : Oper} {v : Value} {a : Act} (hi : ops[i]? = some o) (hy : Tame P ops S o v a) {K : Act → World → Prop} {w : World} (hS : S w)
    (h : ∀ w2, Below w.heap.size w w2 → K (a.put o.dst v) w2) : wpOp P ops Q i K a w := by
  unfold Go.wpOp
  simp only [hi]
  rcases hy with ⟨hw, hv⟩ | ⟨hw, rfl⟩
  · simp only [hw, if_true]
    left
    have h1 := hv w hS
    unfold Oper.wp
    generalize (execOp a.eval o).run P w = r at *
    cases r with
    | ok n w' =>
      cases n <;> simp only [tameUpon] at h1 <;> simp only [Oper.upon]
      case value u =>
        obtain ⟨rfl, rfl⟩ := h1
        exact h _ (Below.refl _ _)
      case enter f args =>
        obtain ⟨rfl, hc⟩ := h1
        exact hc.mono fun e w'' ⟨he, hb⟩ => by subst he; exact h _ hb
    | halt x w' => simp only [tameUpon] at h1
  · simp only [hw, Bool.false_eq_true, if_false]
    exact h _ (Below.refl _ _)

theorem Tame.of_same {o : Oper} {v : Value} {a a' : Act} (hy : Tame P ops S o v a) (he : execOp a'.eval o = execOp a.eval o)
    (hw : Region.wanted o (yielded ops a'.tmps) = Region.wanted o (yielded ops a.tmps)) : Tame P ops S o v a' := by
  unfold Tame at *
  rw [he, hw]
  exact hy

theorem wpOp_tame {j : Nat} {oi oj : Oper} {v : Value} (hj : ops[j]? = some oj) (hap : oi.apart ops oj = true) (hsi : ∀ cs b, oi.op ≠ .select cs b) (hsj : ∀ cs b, oj.op ≠ .select cs b)
    (hQ : ∀ c a w, Q (.panic c) (a.put oi.dst v) w → Q (.panic c) a w) {K : Act → World → Prop} {a : Act} {w : World} (hy : Tame P ops S oi v a)
    (h : wpOp P ops Q j K (a.put oi.dst v) w) : wpOp P ops Q j (fun a' w' => Tame P ops S oi v a' ∧ K (a'.put oi.dst v) w') a w := by
  obtain ⟨h1, h2, h3⟩ := Oper.apart_spec hap
  have keep : ∀ b : Act, Tame P ops S oi v b → ∀ u, Tame P ops S oi v (b.put oj.dst u) := fun b hb u => hb.of_same (execOp_put oi hsi b oj.dst u h3) (wanted_put oi b oj.dst u h3)
  unfold Go.wpOp at *
  simp only [hj] at *
  rw [wanted_put oj a oi.dst v h1] at h
  by_cases hw : Region.wanted oj (yielded ops a.tmps) = true
  · simp only [hw, if_true] at h ⊢
    rcases h with h | ⟨hasks, hlets⟩
    case inr => exact .inr ⟨by unfold Oper.asks at *; rw [execOp_put oj hsj a oi.dst v h1] at hasks; exact hasks, hlets⟩
    refine .inl ?_
    unfold Oper.wp at *
    rw [execOp_put oj hsj a oi.dst v h1] at h
    generalize (execOp a.eval oj).run P w = r at *
    cases r with
    | halt x w' =>
      cases x <;> simp only [Oper.upon] at h ⊢
      case panic u => exact hQ _ _ _ h
    | ok n w' =>
      cases n <;> simp only [Oper.upon] at h ⊢
      case value u => exact ⟨keep a hy u, by rw [← Act.put_comm a v u h2]; exact h⟩
      case skip => exact ⟨keep a hy _, by rw [← Act.put_comm a v undef h2]; exact h⟩
      case row row args => exact Rows.mono h fun u w'' he => ⟨keep a hy u, by rw [← Act.put_comm a v u h2]; exact he⟩
      case defer d => exact ⟨keep _ (hy.of_same (a' := { a with defers := d :: a.defers }) rfl rfl) _, by rw [← Act.put_comm _ v undef h2, ← Act.put_defers]; exact h⟩
      case enter f args =>
        refine Calls.mono h fun e w'' he => ?_
        cases e with
        | returned u => exact ⟨keep a hy u, by rw [← Act.put_comm a v u h2]; exact he⟩
        | panicked c => exact hQ _ _ _ he
        | outgrown => exact he
  · simp only [hw] at h ⊢
    exact ⟨keep a hy _, by rw [← Act.put_comm a v undef h2]; exact h⟩

/-- whatever order is picked from here on, and whatever memory is made besides -/
def wpU (P : Program) (md : Region.Mode) (ops : Array Oper) (Q : Exit → Act → World → Prop) (S : World → Prop) : Nat → Array Bool → Act → World → Prop
  | 0, listed, a, w => Region.ready md ops listed = [] ∧ ∀ w1, Below w.heap.size w w1 → S w1 → Q .normal a w1
  | fuel + 1, listed, a, w => ∀ w1, Below w.heap.size w w1 → S w1 → (Region.ready md ops listed = [] → Q .normal a w1) ∧
      ∀ i ∈ Region.ready md ops listed, wpOp P ops Q i (fun a' w' => S w' ∧ wpU P md ops Q S fuel (listed.setIfInBounds i true) a' w') a w1

theorem wpU_more : ∀ {fuel : Nat} {listed : Array Bool} {a : Act} {w w2 : World}, Below w.heap.size w w2 → wpU P md ops Q S fuel listed a w → wpU P md ops Q S fuel listed a w2
  | 0, _, _, _, _, hb, h => ⟨h.1, fun w1 b1 s1 => h.2 w1 (hb.trans (b1.mono hb.size)) s1⟩
  | _ + 1, _, _, _, _, hb, h => fun w1 b1 s1 => h w1 (hb.trans (b1.mono hb.size)) s1

theorem wpAny_of_U : ∀ (fuel : Nat) (listed : Array Bool) (a : Act) (w : World), S w → wpU P md ops Q S fuel listed a w → wpAny P md ops Q fuel listed a w
  | 0, _, _, w, hS, h => ⟨h.1, h.2 w (Below.refl _ _) hS⟩
  | fuel + 1, _, _, w, hS, h => ⟨(h w (Below.refl _ _) hS).1, fun i hi => wpOp_mono (fun a' w' h' => wpAny_of_U fuel _ a' w' h'.1 h'.2) ((h w (Below.refl _ _) hS).2 i hi)⟩

theorem wpU_first {i : Nat} {oi : Oper} {v : Value} (hi : ops[i]? = some oi) (hsel : ∀ (j : Nat) (o : Oper) cs b, ops[j]? = some o → o.op ≠ .select cs b)
    (hQ : ∀ c a w, Q (.panic c) (a.put oi.dst v) w → Q (.panic c) a w) (hK : ∀ w w', S w → Below w.heap.size w w' → S w') :
    ∀ (fuel : Nat) (listed : Array Bool) (a : Act) (w : World),
      (∀ j oj, ops[j]? = some oj → j ≠ i → listed.getD j true = false → (∀ e ∈ oj.after, Region.binds md e = true → e.on ≠ i) → oi.apart ops oj = true) →
      i ∈ Region.ready md ops listed → Tame P ops S oi v a → wpU P md ops Q S fuel (listed.setIfInBounds i true) (a.put oi.dst v) w → wpU P md ops Q S (fuel + 1) listed a w
  | 0, listed, a, w, _, hr, hy, H => fun w1 b1 s1 => by
    refine ⟨fun h => (by rw [h] at hr; cases hr), fun j hj => ?_⟩
    by_cases hji : j = i
    · subst hji
      exact hy.wpOp hi s1 fun w2 b2 => ⟨hK _ _ s1 b2, wpU_more (b1.trans (b2.mono b1.size)) H⟩
    · have := ready_mono hj hji
      rw [H.1] at this
      cases this
  | fuel + 1, listed, a, w, hfree, hr, hy, H => fun w1 b1 s1 => by
    refine ⟨fun h => (by rw [h] at hr; cases hr), fun j hj => ?_⟩
    by_cases hji : j = i
    · subst hji
      exact hy.wpOp hi s1 fun w2 b2 => ⟨hK _ _ s1 b2, wpU_more (b1.trans (b2.mono b1.size)) H⟩
    · have h1 := (H w1 b1 s1).2 j (ready_mono hj hji)
      obtain ⟨hjun, oj, hoj, hall⟩ := mem_ready.1 hj
      have hnot : ∀ e ∈ oj.after, Region.binds md e = true → e.on ≠ i := fun e he hb heq => by
        have h3 := hall e he hb
        have h0 := (mem_ready.1 hr).1
        rw [heq] at h3
        rcases Nat.lt_or_ge i listed.size with h' | h'
        · simp [h'] at h0 h3; rw [h0] at h3; cases h3
        · simp [Array.getElem?_eq_none h'] at h3
      have h2 := wpOp_tame hoj (hfree j oj hoj hji hjun hnot) (fun cs b => hsel i oi cs b hi) (fun cs b => hsel j oj cs b hoj) hQ hy h1
      refine wpOp_mono (fun a' w' h3 => ⟨h3.2.1, wpU_first hi hsel hQ hK fuel (listed.setIfInBounds j true) a' w' ?_ (ready_mono hr (Ne.symm hji)) h3.1 ?_⟩) h2
      · intro k ok hk hki hun hno
        refine hfree k ok hk hki ?_ hno
        by_cases hjk : j = k
        · subst hjk; exact hjun
        · rw [getD_set_ne true hjk] at hun; exact hun
      · rw [Array.setIfInBounds_comm _ _ hji]
        exact h3.2.2

/-! the moves -/
theorem wp_region_U {id : Nat} {a : Act} {w : World} {l : List Oper} (S : World → Prop) (hm : P.follows .mixedOrders = true) (h0 : S w.drew)
    (h : wpU P .any l.toArray Q S l.toArray.size (Array.replicate l.toArray.size false) a w.drew) : (Code.region id l.toArray true).wp P Q a w :=
  wp_region_any hm (wpAny_of_U _ _ _ _ h0 h)

/-- what more memory leaves alone -/
def Keeps (S : World → Prop) : Prop := ∀ w w', S w → Below w.heap.size w w' → S w'

theorem wpU_val (i : Nat) {oi : Oper} {tl : List Oper} {fuel : Nat} {listed : Array Bool} {a : Act} {w : World} (hB : Keeps S) (hi : ops.toList.drop i = oi :: tl)
    (hs : Region.noSelect ops = true) (hf : Region.free md ops listed i = true) (hr : (Region.ready md ops listed).contains i = true) (hgd : Region.wanted oi (yielded ops a.tmps) = true)
    (hQ : ∀ c a w v, Q (.panic c) (a.put oi.dst v) w → Q (.panic c) a w) (v : Value) (hy : ∀ w, S w → (execOp a.eval oi).run P w = .ok (.value v) w)
    (h : wpU P md ops Q S fuel (listed.setIfInBounds i true) (a.put oi.dst v) w) : wpU P md ops Q S (fuel + 1) listed a w :=
  wpU_first (op_of_drop hi) (Region.noSelect_spec hs) (fun c a w => hQ c a w v) hB fuel listed a w (Region.free_spec (op_of_drop hi) hf) (by simpa using hr)
    (.inl ⟨hgd, fun w hw => by rw [hy w hw]; exact ⟨rfl, rfl⟩⟩) h

theorem wpU_call (i : Nat) {oi : Oper} {tl : List Oper} {fuel : Nat} {listed : Array Bool} {a : Act} {w : World} (hB : Keeps S) (hi : ops.toList.drop i = oi :: tl)
    (hs : Region.noSelect ops = true) (hf : Region.free md ops listed i = true) (hr : (Region.ready md ops listed).contains i = true) (hgd : Region.wanted oi (yielded ops a.tmps) = true)
    (hQ : ∀ c a w v, Q (.panic c) (a.put oi.dst v) w → Q (.panic c) a w) (f : FuncId) (args : Array Value) (hrun : ∀ w, (execOp a.eval oi).run P w = .ok (.enter f args) w) (v : Value)
    (hc : ∀ w, Calls P f args w fun e w' => e = .returned v ∧ Below w.heap.size w w')
    (h : wpU P md ops Q S fuel (listed.setIfInBounds i true) (a.put oi.dst v) w) : wpU P md ops Q S (fuel + 1) listed a w :=
  wpU_first (op_of_drop hi) (Region.noSelect_spec hs) (fun c a w => hQ c a w v) hB fuel listed a w (Region.free_spec (op_of_drop hi) hf) (by simpa using hr)
    (.inl ⟨hgd, fun w _ => by rw [hrun w]; exact ⟨rfl, hc w⟩⟩) h

theorem wpU_skip (i : Nat) {oi : Oper} {tl : List Oper} {fuel : Nat} {listed : Array Bool} {a : Act} {w : World} (hB : Keeps S) (hi : ops.toList.drop i = oi :: tl)
    (hs : Region.noSelect ops = true) (hf : Region.free md ops listed i = true) (hr : (Region.ready md ops listed).contains i = true) (hgd : Region.wanted oi (yielded ops a.tmps) = false)
    (hQ : ∀ c a w v, Q (.panic c) (a.put oi.dst v) w → Q (.panic c) a w)
    (h : wpU P md ops Q S fuel (listed.setIfInBounds i true) (a.put oi.dst undef) w) : wpU P md ops Q S (fuel + 1) listed a w :=
  wpU_first (op_of_drop hi) (Region.noSelect_spec hs) (fun c a w => hQ c a w undef) hB fuel listed a w (Region.free_spec (op_of_drop hi) hf) (by simpa using hr) (.inr ⟨hgd, rfl⟩) h

theorem wpU_all {rs : List Nat} {fuel : Nat} {listed : Array Bool} {a : Act} {w : World} (hr : Region.ready md ops listed = rs) (hne : rs ≠ [])
    (h : ∀ w1, Below w.heap.size w w1 → S w1 → ∀ i ∈ rs, wpOp P ops Q i (fun a' w' => S w' ∧ wpU P md ops Q S fuel (listed.setIfInBounds i true) a' w') a w1) : wpU P md ops Q S (fuel + 1) listed a w :=
  fun w1 b1 s1 => ⟨fun h0 => absurd (hr ▸ h0) hne, hr ▸ h w1 b1 s1⟩

theorem wpU_done {fuel : Nat} {listed : Array Bool} {a : Act} {w : World} (hr : Region.ready md ops listed = []) (h : ∀ w1, Below w.heap.size w w1 → S w1 → Q .normal a w1) : wpU P md ops Q S fuel listed a w := by
  cases fuel with
  | zero => exact ⟨hr, h⟩
  | succ n => exact fun w1 b1 s1 => ⟨fun _ => h w1 b1 s1, by rw [hr]; simp⟩

/-- the one that may come up -/
theorem wpU_one (i : Nat) {oi : Oper} {tl : List Oper} {fuel : Nat} {listed : Array Bool} {a : Act} {w : World} (hi : ops.toList.drop i = oi :: tl) (hr : Region.ready md ops listed = [i]) (hgd : Region.wanted oi (yielded ops a.tmps) = true)
    (h : ∀ w1, Below w.heap.size w w1 → S w1 → oi.wp P a w1 (fun a' w' => S w' ∧ wpU P md ops Q S fuel (listed.setIfInBounds i true) a' w') Q) : wpU P md ops Q S (fuel + 1) listed a w :=
  wpU_all hr (by simp) (fun w1 b1 s1 j hj => by
    obtain rfl : j = i := by simpa using hj
    exact wpOp_step (op_of_drop hi) (fun K' hK => by rw [if_pos hgd]; exact Oper.wp_mono hK (h w1 b1 s1)))

/-- two that may come up -/
theorem wpU_two (i j : Nat) {oi oj : Oper} {tl tl' : List Oper} {fuel : Nat} {listed : Array Bool} {a : Act} {w : World} (hi : ops.toList.drop i = oi :: tl) (hj : ops.toList.drop j = oj :: tl') (hr : Region.ready md ops listed = [i, j])
    (hgd : Region.wanted oi (yielded ops a.tmps) = true) (hgd' : Region.wanted oj (yielded ops a.tmps) = true)
    (h : ∀ w1, Below w.heap.size w w1 → S w1 → oi.wp P a w1 (fun a' w' => S w' ∧ wpU P md ops Q S fuel (listed.setIfInBounds i true) a' w') Q)
    (h' : ∀ w1, Below w.heap.size w w1 → S w1 → oj.wp P a w1 (fun a' w' => S w' ∧ wpU P md ops Q S fuel (listed.setIfInBounds j true) a' w') Q) : wpU P md ops Q S (fuel + 1) listed a w :=
  wpU_all hr (by simp) (fun w1 b1 s1 k hk => by
    rcases List.mem_cons.1 hk with rfl | hk
    · exact wpOp_step (op_of_drop hi) (fun K' hK => by rw [if_pos hgd]; exact Oper.wp_mono hK (h w1 b1 s1))
    · obtain rfl : k = j := by simpa using hk
      exact wpOp_step (op_of_drop hj) (fun K' hK => by rw [if_pos hgd']; exact Oper.wp_mono hK (h' w1 b1 s1)))

/-- a store of a whole array or struct (in one step: Oper.wp of a store, as a goal, is run by every tactic) -/
theorem wpU_store_box (i : Nat) {oi : Oper} {tl : List Oper} {fuel : Nat} {listed : Array Bool} {a : Act} {w : World} (hi : ops.toList.drop i = oi :: tl) (hr : Region.ready md ops listed = [i]) (hgd : Region.wanted oi (yielded ops a.tmps) = true)
    (ty : TypeId) (x y : Operand) (ho : oi.op = .store ty x y) {g : Nat} {T : TypeId} {old cells : Array Value} (hg : Box w g T old) (hx : a.eval x = .pointer (some ⟨g, 0, none⟩)) (hy : a.eval y = .agg cells) (hsz : old.size = cells.size)
    (hi' : (P.info? ty).map (·.size) = some cells.size) (h1 : cells.all (·.oneCell') = true)
    (h : ∀ w1 w', Below w.heap.size w w1 → S w1 → Box w' g T cells → Stored w1 w' g → S w' ∧ wpU P md ops Q S fuel (listed.setIfInBounds i true) (a.put oi.dst undef) w') : wpU P md ops Q S (fuel + 1) listed a w :=
  wpU_one i hi hr hgd (fun w1 b1 s1 => wp_store_box ty x y ho (hg.after b1) hx hy hsz hi' h1 (fun w' hb st => h w1 w' b1 s1 hb st))

theorem wp_alloc_new {o : Oper} {a : Act} {w : World} {K : Act → World → Prop} (ty : TypeId) (ho : o.op = .alloc ty) (cells : Array Value)
    (hr : ∀ w, (Instr.alloc ty true (.tuple #[])).run P w = .ok (.pointer (some ⟨w.heap.size, 0, none⟩)) (w.alloc (.cells cells ty)))
    (h : ∀ g w', Box w' g ty cells → w.heap.size ≤ g → Below w.heap.size w w' → K (a.put o.dst (.pointer (some ⟨g, 0, none⟩))) w') : o.wp P a w K Q := by
  unfold Oper.wp
  rw [run_alloc_box ho cells (hr w)]
  exact h _ _ (Box.new _ _ _) (Nat.le_refl _) ((Below.refl _ _).alloc (Nat.le_refl _) _)

theorem wp_callR {o : Oper} {a : Act} {w : World} {K : Act → World → Prop} (f : FuncId) (args : Array Value) (hr : (execOp a.eval o).run P w = .ok (.enter f args) w) (R : Ending → World → Prop) (hc : Calls P f args w R)
    (h : ∀ e w', R e w' → ∃ v, e = .returned v ∧ K (a.put o.dst v) w') : o.wp P a w K Q := by
  unfold Oper.wp
  rw [hr]
  refine hc.mono fun e w' he => ?_
  obtain ⟨v, rfl, hv⟩ := h e w' he
  exact hv

theorem run_build {o : Oper} {a : Act} {w : World} {t : TypeId} {ps : Array (Nat × Operand)} (ho : o.op = .build t ps) (qs : Array (Nat × Value)) (hq : (ps.map fun (i, x) => (i, a.eval x)) = qs) (v : Value) (h : (Instr.build t qs).run P w = .ok v w) :
    (execOp a.eval o).run P w = .ok (.value v) w := by
  unfold execOp
  simp only [ho, hq, Sem.run_bind, h, Result.andThen_ok, Sem.run_pure]
end Go.Proofs.Ytpkoniebbkkmjaa
namespace Go.Proofs.Ytpkoniebbkkmjaa
open Go.RowKit

/-- 32 bytes as cells -/
def lCells (l : List UInt8) : List Value := l.map fun c => .int .u8 (c.toNat : Int)

theorem below_setCells {B b : Nat} {w0 : World} (hB : B ≤ b) : ∀ (vs : List Value) (o : Nat) (w : World), Below B w0 w → Below B w0 (w.setCells b o vs)
  | [], _, _, h => h
  | v :: vs, o, w, h => below_setCells hB vs (o + 1) (w.setCell ⟨b, o, none⟩ v) (h.setCell hB v)

theorem results_cell_mid {P : Program} {fn : Func} {p : Tmp} {ty : TypeId} (h : fn.results = #[.cell p ty]) (tmps : Array Value) (w : World) (g : Nat) (cs : List Value) (d : TypeDesc)
    (hp : tmps.getD p undef = .pointer (some ⟨g, 0, none⟩)) (hc : w.rangeAt g 0 cs)
    (hu : P.underlying ty = some d) (hd : d.isRow = true) (hi : (P.info? ty).map (·.size) = some cs.length) :
    (results fn tmps).run P w = .ok (.agg cs.toArray) w := by
  have hp' : tmps[p]?.getD undef = .pointer (some ⟨g, 0, none⟩) := by simpa using hp
  simp [results, h, hp', asAddr, run_loadVar_mid w g 0 ty cs d hc hu hd hi]

theorem run_index_array {P : Program} {w : World} (t e : TypeId) (n : Nat) (cs : Array Value) (k : IntKind) (i : Nat) (v : Value) (h : P.underlying t = some (.array n e)) (hi : i < n) (hv : cs[i]? = some v) (hz : (sizeOf e).run P w = .ok 1 w) (hp : (isAgg e).run P w = .ok false w) :
    (Instr.index t (.agg cs) (.int k i)).run P w = .ok v w := by
  simp [Instr.index, run_underlying h, asIntOf, go_sem, hi, hz, hp, hv]

theorem part_one {P : Program} (w : World) (e : TypeId) (cs : Array Value) (i : Nat) (v : Value) (hp : (isAgg e).run P w = .ok false w) (hv : cs[i]? = some v) :
    (part e cs i).run P w = .ok v w := by
  simp [part, hp, hv]

theorem equal_arr {P : Program} (w : World) (t e : TypeId) (n m : Nat) (C D : Nat → Nat) (xs ys : Array Value) (h : P.underlying t = some (.array n e))
    (he : ∀ a b : Int, (Op.equalIn m e (.int .u8 a) (.int .u8 b)).run P w = .ok (a == b) w)
    (hz : (sizeOf e).run P w = .ok 1 w) (hp : (isAgg e).run P w = .ok false w)
    (hx : ∀ i, i < n → xs[i]? = some (.int .u8 (C i : Nat))) (hy : ∀ i, i < n → ys[i]? = some (.int .u8 (D i : Nat))) :
    (Op.equalIn (m + 1) t (.agg xs) (.agg ys)).run P w = .ok (decide (∀ i, i < n → C i = D i)) w := by
  simp only [Op.equalIn, Sem.run_bind, run_underlying h, Result.andThen_ok, hz, Std.Legacy.Range.forIn_eq_forIn_range', Std.Legacy.Range.size, Nat.mul_one, Nat.sub_zero, Nat.add_sub_cancel, Nat.div_one]
  have key : ∀ k s, s + k = n → ((forIn (List.range' s k) ((none, ()) : Option Bool × Unit) fun i __s => do
      let a ← part e xs i
      let b ← part e ys i
      let r ← Op.equalIn m e a b
      if (!r) = true then pure (ForInStep.done (some false, ())) else pure (ForInStep.yield (none, ()))) : Sem (Option Bool × Unit)).run P w = .ok (if ∀ i, i < n → s ≤ i → C i = D i then (none, ()) else (some false, ())) w := by
    intro k
    induction k with
    | zero => intro s hs; rw [if_pos (fun i h1 h2 => absurd h1 (by omega))]; simp
    | succ k ih =>
      intro s hs
      simp only [List.range'_succ, List.forIn_cons, Sem.run_bind, part_one w e xs s _ hp (hx s (by omega)), part_one w e ys s _ hp (hy s (by omega)), Result.andThen_ok, he]
      by_cases hc : C s = D s
      · have hq : ((C s : Int) == (D s : Int)) = true := by simp [hc]
        simp only [hq, Bool.not_true, Bool.false_eq_true, if_false, Sem.run_pure, Result.andThen_ok]
        rw [ih (s + 1) (by omega)]
        congr 2
        apply propext
        exact ⟨fun g i h1 h2 => if hi : i = s then hi ▸ hc else g i h1 (by omega), fun g i h1 h2 => g i h1 (by omega)⟩
      · have hq : ((C s : Int) == (D s : Int)) = false := by simp; omega
        simp only [hq, Bool.not_false, if_true, Sem.run_pure, Result.andThen_ok]
        rw [if_neg (fun g => hc (g s (by omega) (by omega)))]
  rw [key n 0 (by omega)]
  by_cases hall : ∀ i, i < n → C i = D i
  · rw [if_pos (fun i h2 _ => hall i h2)]; simpa using hall
  · rw [if_neg (fun g => hall (fun i h2 => g i h2 (by omega)))]; simpa using hall
theorem mapM_bytes {H : Type} {enc : TypeId × Value → H} {W : World} {base : Nat} {sp : Nat → Bool} {held : Bool} {m : Nat} {cs : List Value} : ∀ (L : List Nat) (xs : List (DataW H × List MemPlace)),
    L.mapM (fun i => DataW.trod enc Try.prog W base sp held m 5 ((cs.drop (i * 1)).take 1)) = some xs →
    ∀ i, i ∈ L → ∃ a : Int, (cs.drop (i * 1)).take 1 = [.int .u8 a] ∧ (Lit.int .u8 a).wf = true
  | [], _, _, i, hi => by cases hi
  | j :: L, xs, h, i, hi => by
    rw [List.mapM_cons] at h
    simp only [bind, Option.bind_eq_some_iff, pure, Option.some.injEq] at h
    obtain ⟨y, hy, ys, hys, rfl⟩ := h
    rcases List.mem_cons.1 hi with rfl | hi
    · obtain ⟨a, ea, _, wa⟩ := DataW.trod_int Try.underlying5 hy
      exact ⟨a, ea, wa⟩
    · exact mapM_bytes L ys hys i hi

/-- the byte that a cell holds -/
def byteOf : Option Value → UInt8
  | some (Value.int _ a) => UInt8.ofNat a.toNat
  | _ => 0

set_option maxRecDepth 100000 in
theorem arr_open {H : Type} {enc : TypeId × Value → H} {W : World} {base b0 : Nat} {sp : Nat → Bool} {held : Bool} {r : Reach} {v : Value} {d : DataW H} {ps : List MemPlace}
    (hv : Value.okWide Try.prog W r b0 39 v) (hd : DataW.Trod enc Try.prog W base sp held 39 v d ps) : ∃ l : List UInt8, l.length = 32 ∧ v = .agg (lCells l).toArray := by
  simp only [Value.okWide, Try.underlying39] at hv
  obtain ⟨cs, rfl, hsz, _⟩ := hv
  have h32 : cs.size = 32 := by rw [hsz]; kernel_rfl
  obtain ⟨fuel, hf⟩ := hd
  cases fuel with
  | zero => simp [DataW.trod] at hf
  | succ m =>
    rw [DataW.trod_step] at hf
    unfold DataW.trodStep at hf
    have hc1 : Try.prog.cellsOf 5 = 1 := by kernel_rfl
    simp only [Try.underlying39, Value.cells, hc1] at hf
    rw [if_pos (by rw [Array.length_toList]; exact hsz)] at hf
    simp only [Option.map_eq_some_iff] at hf
    obtain ⟨ys, hy, _⟩ := hf
    have hb := mapM_bytes _ _ hy
    have key : ∀ i, i < 32 → ∃ c : UInt8, cs[i]? = some (.int .u8 (c.toNat : Int)) := fun i hi => by
      obtain ⟨a, ha, hw⟩ := hb i (by simpa using hi)
      have h0 : (cs.toList.drop (i * 1))[0]? = some (.int .u8 a) := by
        have := congrArg (·[0]?) ha
        simpa using this
      simp [Lit.wf, IntKind.min, IntKind.max, IntKind.bits, IntKind.signed] at hw
      refine ⟨UInt8.ofNat a.toNat, ?_⟩
      have : ((UInt8.ofNat a.toNat).toNat : Int) = a := by simp; omega
      rw [this]
      simpa using h0
    refine ⟨(List.range 32).map fun i => byteOf cs[i]?, by simp, ?_⟩
    refine congrArg Value.agg ?_
    apply Array.ext
    · simp [lCells, h32]
    · intro i h1 h2
      have hi : i < 32 := by omega
      obtain ⟨c, hc⟩ := key i hi
      simp only [lCells, List.getElem_toArray, List.getElem_map, List.getElem_range, hc, byteOf]
      rw [Array.getElem?_eq_getElem h1] at hc
      rw [Option.some.inj hc]
      simp
/-- the k lowest bytes of n -/
def leBytes (n k : Nat) : List UInt8 := (List.range k).map fun j => UInt8.ofNat (n / 256 ^ j % 256)
theorem leBytes_two (n k : Nat) : leBytes n (2 * (k + 1)) = leBytes n (2 * k) ++ [UInt8.ofNat (dig n k % 256), UInt8.ofNat (dig n k / 256)] := by
  have e1 : dig n k % 256 = n / 256 ^ (2 * k) % 256 := by
    rw [Nat.pow_mul]; show n / (65536 : Nat) ^ k % 65536 % 256 = n / (65536 : Nat) ^ k % 256; omega
  have e2 : dig n k / 256 = n / 256 ^ (2 * k + 1) % 256 := by
    rw [Nat.pow_succ, ← Nat.div_div_eq_div_mul, Nat.pow_mul]; show n / (65536 : Nat) ^ k % 65536 / 256 = n / (65536 : Nat) ^ k / 256 % 256; omega
  rw [e1, e2, show 2 * (k + 1) = 2 * k + 1 + 1 by omega]
  simp [leBytes, List.range_succ]
theorem leBytes_len (n k : Nat) : (leBytes n k).length = k := by simp [leBytes]

/-- a slice that reads as a list comes back, all old memory as before -/
def RetSl (l : List UInt8) (w : World) (e : Ending) (w' : World) : Prop := ∃ a cap, e = .returned (.slice a l.length cap) ∧ Sl w' a l.length cap l ∧ Below w.heap.size w w'

end Go.Proofs.Ytpkoniebbkkmjaa
namespace Go.Proofs.Ytpkoniebbkkmjaa
open Go.RowKit

/-- the cells of an array that holds the lowest i bits of n -/
def bArr (n i : Nat) : Array Value := ((List.range 32).map fun j => Value.int .u8 (byteAt n i j : Nat)).toArray

theorem bArr_size (n i : Nat) : (bArr n i).size = 32 := by simp [bArr]
theorem bArr_get (n i j : Nat) (h : j < 32) : (bArr n i)[j]? = some (.int .u8 (byteAt n i j : Nat)) := by
  simp [bArr, List.getElem?_map, List.getElem?_range h]
theorem bArr_zero (n : Nat) : bArr n 0 = Array.replicate 32 (Value.int .u8 0) := by
  apply Array.ext
  · simp [bArr]
  · intro j h1 h2; simp [bArr, byteAt_zero]
theorem bArr_set (n i : Nat) : (bArr n i).setIfInBounds (i / 8) (.int .u8 (byteAt n (i + 1) (i / 8) : Nat)) = bArr n (i + 1) := by
  apply Array.ext
  · simp [bArr]
  · intro j h1 h2
    simp only [bArr, List.size_toArray, List.length_map, List.length_range] at h2
    rw [Array.getElem_setIfInBounds (by simpa [bArr] using h2)]
    by_cases hj : i / 8 = j
    · subst hj; simp [bArr]
    · rw [if_neg hj]; simp [bArr, byteAt_other n i j (fun e => hj e.symm)]

set_option maxRecDepth 100000 in
set_option maxHeartbeats 2000000 in
theorem bytes_any (x : L5) (w : World) (h : x.lt 9223372036854775808) :
    Calls Try.prog 41 #[x.v] w fun e w' => e = .returned (.agg (bArr (x.val % P25) 255)) ∧ Below w.heap.size w w' := by
  obtain ⟨hr1, hr2⟩ := red_ok x h
  obtain ⟨y, hy⟩ : ∃ y, y = x.red := ⟨_, rfl⟩
  rw [← hy] at hr1 hr2
  rw [← hr2]
  have HY := Lib.hid hy
  have HR := Lib.hid hr1
  have HB := Lib.hid h
  clear hy hr1 hr2 h
  obtain ⟨N, hN⟩ : ∃ N, N = y.val := ⟨_, rfl⟩
  rw [← hN]
  have HN := Lib.hid hN
  clear hN
  obtain ⟨x0, y0, z0, u0, v0⟩ := x
  go_enter Try.func41, Try.ntmps41
  go_wp2_with fail
  refine (reduced_any ⟨x0, y0, z0, u0, v0⟩ _ HB.out).mono ?_
  rintro q w1 ⟨rfl, hb1⟩
  rw [← HY.out]
  have hX : w1.heap[w.heap.size]? = some (.cells #[.int .u64 x0, .int .u64 y0, .int .u64 z0, .int .u64 u0, .int .u64 v0] 27 (0, 0)) := by
    rw [hb1.block _ (by simp; omega)]; exact heap_alloc2_old _ _ _
  have hR : w1.heap[w.heap.size + 1]? = some (.cells (bArr 0 0) 39 (0, 0)) := by
    rw [hb1.block _ (by simp), bArr_zero]; exact heap_alloc2_new _ _ _
  have hz1 : w.heap.size + 1 < w1.heap.size := by have := hb1.size; simp at this; omega
  have hz2 : w.heap.size < w1.heap.size := by omega
  have hW1 := (((Below.refl w.heap.size w).alloc (Nat.le_refl _) _).alloc (by simp) _).trans (hb1.mono (by simp; omega))
  clear hb1
  have ga0 := cell_of_row w1 _ 0 _ _ _ hX
  have ga1 := cell_of_row w1 _ 1 _ _ _ hX
  have ga2 := cell_of_row w1 _ 2 _ _ _ hX
  have ga3 := cell_of_row w1 _ 3 _ _ _ hX
  have ga4 := cell_of_row w1 _ 4 _ _ _ hX
  have fa0 := frozen_of_row w1 _ 0 _ _ hX
  have fa1 := frozen_of_row w1 _ 1 _ _ hX
  have fa2 := frozen_of_row w1 _ 2 _ _ hX
  have fa3 := frozen_of_row w1 _ 3 _ _ hX
  have fa4 := frozen_of_row w1 _ 4 _ _ hX
  simp only [List.getElem?_toArray, List.getElem?_cons_zero, List.getElem?_cons_succ] at ga0 ga1 ga2 ga3 ga4
  obtain ⟨ya, yb, yc, yd, ye⟩ := y
  dsimp only [L5.v]
  go_wp2_with fail
  have hW2 : Below w.heap.size w ((((((w1.setCell ⟨w.heap.size, 0, none⟩ (.int .u64 ya)).setCell ⟨w.heap.size, 1, none⟩ (.int .u64 yb)).setCell ⟨w.heap.size, 2, none⟩ (.int .u64 yc)).setCell ⟨w.heap.size, 3, none⟩ (.int .u64 yd)).setCell ⟨w.heap.size, 4, none⟩ (.int .u64 ye)).alloc (.cells (bArr N 0) 39)) :=
    (((((hW1.setCell (Nat.le_refl _) _).setCell (Nat.le_refl _) _).setCell (Nat.le_refl _) _).setCell (Nat.le_refl _) _).setCell (Nat.le_refl _) _).alloc (by simp; omega) _
  have hX2 : ((((((w1.setCell ⟨w.heap.size, 0, none⟩ (.int .u64 ya)).setCell ⟨w.heap.size, 1, none⟩ (.int .u64 yb)).setCell ⟨w.heap.size, 2, none⟩ (.int .u64 yc)).setCell ⟨w.heap.size, 3, none⟩ (.int .u64 yd)).setCell ⟨w.heap.size, 4, none⟩ (.int .u64 ye)).alloc (.cells (bArr N 0) 39)).heap[w.heap.size]? = some (.cells #[.int .u64 ya, .int .u64 yb, .int .u64 yc, .int .u64 yd, .int .u64 ye] 27 (0, 0)) := by
    rw [heap_alloc_old _ _ (by simp; omega)]
    exact heap_setCell_same _ _ _ _ _ _ (heap_setCell_same _ _ _ _ _ _ (heap_setCell_same _ _ _ _ _ _ (heap_setCell_same _ _ _ _ _ _ (heap_setCell_same _ _ _ _ _ _ hX))))
  have hR2 : ((((((w1.setCell ⟨w.heap.size, 0, none⟩ (.int .u64 ya)).setCell ⟨w.heap.size, 1, none⟩ (.int .u64 yb)).setCell ⟨w.heap.size, 2, none⟩ (.int .u64 yc)).setCell ⟨w.heap.size, 3, none⟩ (.int .u64 yd)).setCell ⟨w.heap.size, 4, none⟩ (.int .u64 ye)).alloc (.cells (bArr N 0) 39)).heap[w.heap.size + 1]? = some (.cells (bArr 0 0) 39 (0, 0)) := by
    rw [heap_alloc_old _ _ (by simp; omega)]
    rw [heap_setCell_other _ _ _ _ (by simp), heap_setCell_other _ _ _ _ (by simp), heap_setCell_other _ _ _ _ (by simp), heap_setCell_other _ _ _ _ (by simp), heap_setCell_other _ _ _ _ (by simp)]
    exact hR
  have hO2 : ((((((w1.setCell ⟨w.heap.size, 0, none⟩ (.int .u64 ya)).setCell ⟨w.heap.size, 1, none⟩ (.int .u64 yb)).setCell ⟨w.heap.size, 2, none⟩ (.int .u64 yc)).setCell ⟨w.heap.size, 3, none⟩ (.int .u64 yd)).setCell ⟨w.heap.size, 4, none⟩ (.int .u64 ye)).alloc (.cells (bArr N 0) 39)).heap[w1.heap.size]? = some (.cells (bArr N 0) 39 (0, 0)) := by
    have e : (((((w1.setCell ⟨w.heap.size, 0, none⟩ (.int .u64 ya)).setCell ⟨w.heap.size, 1, none⟩ (.int .u64 yb)).setCell ⟨w.heap.size, 2, none⟩ (.int .u64 yc)).setCell ⟨w.heap.size, 3, none⟩ (.int .u64 yd)).setCell ⟨w.heap.size, 4, none⟩ (.int .u64 ye)).heap.size = w1.heap.size := by simp
    rw [← e]; exact heap_alloc_new _ _
  rw [bArr_zero N] at hW2 hX2 hR2
  have hO3 := hO2
  rw [bArr_zero N] at hO3
  clear hO2
  generalize hW : ((((((w1.setCell ⟨w.heap.size, 0, none⟩ (.int .u64 ya)).setCell ⟨w.heap.size, 1, none⟩ (.int .u64 yb)).setCell ⟨w.heap.size, 2, none⟩ (.int .u64 yc)).setCell ⟨w.heap.size, 3, none⟩ (.int .u64 yd)).setCell ⟨w.heap.size, 4, none⟩ (.int .u64 ye)).alloc (.cells (Array.replicate 32 (Value.int .u8 0)) 39)) = W2 at hW2 hX2 hR2 hO3
  change Code.wp _ _ _ _ ((((((w1.setCell ⟨w.heap.size, 0, none⟩ (.int .u64 ya)).setCell ⟨w.heap.size, 1, none⟩ (.int .u64 yb)).setCell ⟨w.heap.size, 2, none⟩ (.int .u64 yc)).setCell ⟨w.heap.size, 3, none⟩ (.int .u64 yd)).setCell ⟨w.heap.size, 4, none⟩ (.int .u64 ye)).alloc (.cells (Array.replicate 32 (Value.int .u8 0)) 39))
  rw [hW]
  rw [← bArr_zero N] at hO3
  clear hW hX hR hW1 ga0 ga1 ga2 ga3 ga4 fa0 fa1 fa2 fa3 fa4
  generalize w1.heap.size = O at *
  go_loopw [7] (fun i wr => ∃ k : Nat, k ≤ 256 ∧ i = .int .i64 k ∧ Below w.heap.size w wr ∧ wr.heap[w.heap.size]? = some (.cells #[.int .u64 ya, .int .u64 yb, .int .u64 yc, .int .u64 yd, .int .u64 ye] 27 (0, 0)) ∧ wr.heap[w.heap.size + 1]? = some (.cells (bArr 0 0) 39 (0, 0)) ∧ wr.heap[O]? = some (.cells (bArr N (min k 255)) 39 (0, 0))) (fun i _ => 256 - (intOf i).toNat)
  case atStart => exact ⟨0, by omega, rfl, hW2, hX2, hR2, hO3⟩
  case round =>
    obtain ⟨wa, rfl⟩ : ∃ wa : World, wa = wr := ⟨_, rfl⟩
    obtain ⟨k, hk, rfl, hB, hX, hR, hO⟩ := hrel
    clear hW2 hX2 hR2 hO3
    by_cases hlt : k < 256
    · by_cases hlt2 : k < 255
      · rw [Nat.min_eq_left (by omega)] at hO
        obtain ⟨q, hq⟩ : ∃ q, q = k / 8 := ⟨_, rfl⟩
        obtain ⟨r, hr⟩ : ∃ r, r = k % 8 := ⟨_, rfl⟩
        obtain ⟨l, hl⟩ : ∃ l, l = k / 51 := ⟨_, rfl⟩
        obtain ⟨s, hs⟩ : ∃ s, s = k % 51 := ⟨_, rfl⟩
        have i1 : (k : Int).tdiv 8 = (q : Int) := by rw [Int.tdiv_eq_ediv_of_nonneg (by omega)]; omega
        have i2 : (k : Int).tmod 8 = (r : Int) := by rw [Int.tmod_eq_emod_of_nonneg (by omega)]; omega
        have i3 : (k : Int).tdiv 51 = (l : Int) := by rw [Int.tdiv_eq_ediv_of_nonneg (by omega)]; omega
        have i4 : (k : Int).tmod 51 = (s : Int) := by rw [Int.tmod_eq_emod_of_nonneg (by omega)]; omega
        have j1 : (k : Int) / 8 = (q : Int) := by omega
        have j2 : (k : Int) % 8 = (r : Int) := by omega
        have j3 : (k : Int) / 51 = (l : Int) := by omega
        have j4 : (k : Int) % 51 = (s : Int) := by omega
        have hq31 : q < 32 := by omega
        have hl5 : l < 5 := by omega
        have hr8 : r < 8 := by omega
        have hs51 : s < 51 := by omega
        have go := (cell_of_row wa O q _ _ _ hO).trans (bArr_get N k q hq31)
        have fo := frozen_of_row wa O q _ _ hO
        obtain ⟨v, hv⟩ : ∃ v, v = L5.at ⟨ya, yb, yc, yd, ye⟩ l := ⟨_, rfl⟩
        have gx : wa.cell? ⟨w.heap.size, l, none⟩ = some (.int .u64 v) := by
          rw [cell_of_row wa _ l _ _ _ hX, hv]
          match l, hl5 with
          | 0, _ => rfl
          | 1, _ => rfl
          | 2, _ => rfl
          | 3, _ => rfl
          | 4, _ => rfl
        have hbit : v / 2 ^ s % 2 = bitAt N k := by rw [hv, hl, hs, HN.out]; exact bit_of_limb _ HR.out k hlt2
        have k1 : IntKind.i64.wrap (q : Int) = (q : Int) := by rw [IntKind.wrap_i64]; omega
        have k2 : IntKind.i64.wrap (r : Int) = (r : Int) := by rw [IntKind.wrap_i64]; omega
        have k3 : IntKind.i64.wrap (l : Int) = (l : Int) := by rw [IntKind.wrap_i64]; omega
        have k4 : IntKind.i64.wrap (s : Int) = (s : Int) := by rw [IntKind.wrap_i64]; omega
        have b1 : (0 : Int) ≤ (q : Int) := by omega
        have b2 : (q : Int) < 32 := by omega
        have b3 : (0 : Int) ≤ (l : Int) := by omega
        have b4 : (l : Int) < 5 := by omega
        have b5 : (0 : Int) ≤ (s : Int) := by omega
        have b6 : (0 : Int) ≤ (r : Int) := by omega
        have hv51 : v < 2251799813685248 := by
          have := HR.out
          obtain ⟨h1, h2, h3, h4, h5⟩ := this
          simp only at h1 h2 h3 h4 h5
          rw [hv]
          match l, hl5 with
          | 0, _ => exact h1
          | 1, _ => exact h2
          | 2, _ => exact h3
          | 3, _ => exact h4
          | 4, _ => exact h5
        have hvs : v / 2 ^ s < 2251799813685248 := Nat.lt_of_le_of_lt (Nat.div_le_self _ _) hv51
        obtain ⟨z, hz⟩ : ∃ z, z = bitAt N k := ⟨_, rfl⟩
        have hzz : z < 2 := by rw [hz]; exact bitAt_lt _ _
        have m1 : bits BinOp.and IntKind.u64 ((v : Int) / 2 ^ s) 1 = (z : Int) := by
          rw [show ((v : Int) / 2 ^ s) = ((v / 2 ^ s : Nat) : Int) by simp, show (1 : Int) = ((1 : Nat) : Int) from rfl, u64_and_nat _ _ (by omega) (by omega), Nat.and_one_is_mod, hbit, hz]
        have m2 : IntKind.u8.wrap (z : Int) = (z : Int) := by rw [IntKind.wrap_u8]; omega
        obtain ⟨t, ht⟩ : ∃ t, t = z * 2 ^ r := ⟨_, rfl⟩
        have ht255 : t < 256 := by
          have h3 : (2 : Nat) ^ r ≤ 2 ^ 7 := Nat.pow_le_pow_right (by omega) (by omega)
          have h4 : z * 2 ^ r ≤ 1 * 2 ^ 7 := Nat.mul_le_mul (by omega) h3
          omega
        have m3 : IntKind.u8.wrap ((z : Int) * 2 ^ r) = (t : Int) := by
          rw [show ((z : Int) * 2 ^ r) = (t : Int) by rw [ht]; simp, IntKind.wrap_u8]; omega
        have hby := byteAt_lt N k q
        have m4 : bits BinOp.or IntKind.u8 (byteAt N k q : Int) (t : Int) = (byteAt N (k + 1) q : Int) := by
          rw [u8_or_nat _ _ (by omega) (by omega), hq, byteAt_here, ← hq, ← hr, ht, hz]
        clear hv51 hvs hz hby ht
        have HK := Lib.hid (show q = k / 8 from hq)
        clear hq hr hl hs hv j1 j2 j3 j4
        have HBIT := Lib.hid hbit
        clear hbit
        go_upto_region 7 with fail
        go_still_tail 18, (by kernel_rfl)
        change wpList _ _ _ _ _ wa.drew
        go_wp2_with fail
        refine ⟨⟨k + 1, by omega, by go_num, (hB.setCell (Nat.le_of_lt hz2) _).drew, ?_, ?_, ?_⟩, by simp [intOf]; omega⟩
        · exact (heap_setCell_other wa _ _ _ (by simp; omega)).trans hX
        · exact (heap_setCell_other wa _ _ _ (by simp; omega)).trans hR
        · rw [Nat.min_eq_left (by omega), ← bArr_set N k, ← HK.out]
          exact heap_setCell_same wa _ _ _ _ _ hO
      · obtain rfl : k = 255 := by omega
        go_wp2_with fail
        refine ⟨⟨256, by omega, by go_num, hB, hX, hR, hO⟩, by simp [intOf]⟩
    · obtain rfl : k = 256 := by omega
      replace hO : wa.heap[O]? = some (.cells (bArr N 255) 39 (0, 0)) := hO
      obtain ⟨C, hC⟩ : ∃ C, C = bArr N 255 := ⟨_, rfl⟩
      obtain ⟨Z, hZ⟩ : ∃ Z, Z = bArr 0 0 := ⟨_, rfl⟩
      have hCs : C.size = 32 := by rw [hC]; exact bArr_size _ _
      have hZs : Z.size = 32 := by rw [hZ]; exact bArr_size _ _
      rw [← hC] at hO
      rw [← hZ] at hR
      have HC := Lib.hid hC
      have HCS := Lib.hid hCs
      have HZS := Lib.hid hZs
      clear hC hCs hZ hZs hX
      go_upto_region 9 with fail
      go_step
      refine wpList_load_row rfl 39 _ rfl O (by rfl) 39 _ _ (.array 32 5) hO (by kernel_rfl) rfl (by rw [HCS.out]; kernel_rfl) ?_
      have ht : wa.there (w.heap.size + 1) 0 C.size := fun j hj => by
        rw [HCS.out] at hj
        refine ⟨?_, ?_⟩
        · rw [Nat.zero_add, cell_of_row wa _ j _ _ _ hR]
          have := HZS.out
          simp [this, hj]
        · exact frozen_of_row wa _ _ _ _ hR
      have h1 : C.all (·.oneCell') = true := by rw [HC.out]; exact all_oneCell_toArray (fun v hv => by simp at hv; obtain ⟨j, _, rfl⟩ := hv; rfl)
      refine wpList_store_mid rfl 39 _ _ rfl (w.heap.size + 1) 0 C (by rfl) (by rfl) ht (by rw [HCS.out]; kernel_rfl) h1 ?_
      have hra := World.rangeAt_setCells_same wa (w.heap.size + 1) 0 C.toList (by rw [Array.length_toList]; exact ht)
      have hB4 := below_setCells (b := w.heap.size + 1) (by omega) C.toList 0 wa hB
      generalize wa.setCells (w.heap.size + 1) 0 C.toList = w4 at hra hB4
      rw [HC.out] at hra
      clear HCS HZS ht h1 hO hR hB hlt hk
      dsimp only [Act.put]
      go_wp2_with fail
      rw [HC.out]
      exact bodyPost_ret (v := .agg (bArr N 255)) (by
        rw [results_cell_mid rfl _ w4 (w.heap.size + 1) (bArr N 255).toList (.array 32 5) rfl hra (by kernel_rfl) rfl (by simp only [bArr, List.length_map, List.length_range]; kernel_rfl)]) rfl ⟨rfl, hB4⟩
end Go.Proofs.Ytpkoniebbkkmjaa
namespace Go.Proofs.Ytpkoniebbkkmjaa
open Go.RowKit

theorem red_lt (x : L5) : x.val % P25 < 2 ^ 255 := by
  have : x.val % P25 < P25 := Nat.mod_lt _ (by unfold P25; omega)
  unfold P25 at *
  omega

theorem byte0_odd (n : Nat) (h : n < 2 ^ 255) : byteAt n 255 0 % 2 = n % 2 := by
  rw [byteAt_end n 0 h]; omega

set_option maxRecDepth 100000 in
set_option maxHeartbeats 1000000 in
theorem odd_any (x : L5) (w : World) (h : x.lt 9223372036854775808) :
    Calls Try.prog 42 #[x.v] w fun e w' => e = .returned (.bool (x.val % P25 % 2 == 1)) ∧ Below w.heap.size w w' := by
  have hlt := red_lt x
  have hod := byte0_odd _ hlt
  have hb := byteAt_lt (x.val % P25) 255 0
  have hg := bArr_get (x.val % P25) 255 0 (by omega)
  have hs := bArr_size (x.val % P25) 255
  rw [← hod]
  obtain ⟨C, hC⟩ : ∃ C, C = bArr (x.val % P25) 255 := ⟨_, rfl⟩
  obtain ⟨y, hy⟩ : ∃ y, y = byteAt (x.val % P25) 255 0 := ⟨_, rfl⟩
  rw [← hC, ← hy] at hg
  rw [← hC] at hs
  rw [← hy] at hb ⊢
  have HC := Lib.hid hC
  have HB := Lib.hid h
  clear hod hlt hC hy h
  obtain ⟨z, hz⟩ : ∃ z, z = y % 2 := ⟨_, rfl⟩
  have m1 : bits BinOp.and IntKind.u8 (y : Int) 1 = (z : Int) := by
    rw [show (1 : Int) = ((1 : Nat) : Int) from rfl, u8_and_nat _ _ (by omega) (by omega), Nat.and_one_is_mod, hz]
  rw [← hz]
  have m2 : ((z : Int) == 1) = (z == 1) := by
    rw [Bool.eq_iff_iff]; simp; omega
  clear hz hb
  obtain ⟨x0, y0, z0, u0, v0⟩ := x
  go_enter Try.func42, Try.ntmps42
  go_wp2_with fail
  refine (bytes_any ⟨x0, y0, z0, u0, v0⟩ _ HB.out).mono ?_
  rintro q w1 ⟨rfl, hb1⟩
  rw [← HC.out]
  have hW := ((Below.refl w.heap.size w).alloc (Nat.le_refl _) _).trans (hb1.mono (by simp))
  have i0 : (Instr.index 39 (.agg C) (.int .i64 0)).run Try.prog w1 = .ok (.int .u8 y) w1 :=
    run_index_array _ 5 32 C .i64 0 _ (by kernel_rfl) (by omega) hg (by simp [go_sem]) (by simp [go_sem])
  clear hg hs
  go_wp2_with fail
  go_ret
  exact ⟨rfl, hW⟩
end Go.Proofs.Ytpkoniebbkkmjaa
namespace Go.Proofs.Ytpkoniebbkkmjaa
end Go.Proofs.Ytpkoniebbkkmjaa
namespace Go.Proofs.Ytpkoniebbkkmjaa
open Go.RowKit

/-- the lowest k digits of n, behind them noughts -/
def digTo (n k j : Nat) : Nat := if j < k then dig n j else 0
theorem digTo_set (n k : Nat) : upd (digTo n k) k (dig n k) = digTo n (k + 1) := by
  funext j; unfold upd digTo
  by_cases h : j = k
  · subst h; simp
  · by_cases h2 : j < k
    · rw [if_neg h, if_pos h2, if_pos (by omega)]
    · rw [if_neg h, if_neg h2, if_neg (by omega)]
theorem digTo_zero (n : Nat) : digTo n 0 = fun _ => 0 := by funext j; simp [digTo]
theorem digTo_all (n k : Nat) (h : n < 65536 ^ k) : ∀ j, j < 16 → digTo n k j = dig n j := fun j _ => by
  unfold digTo dig
  split
  · rfl
  · rename_i hj
    have : 65536 ^ k ≤ 65536 ^ j := Nat.pow_le_pow_right (by omega) (by omega)
    rw [Nat.div_eq_of_lt (by omega)]

set_option maxRecDepth 100000 in
set_option maxHeartbeats 1000000 in
theorem refOf_any (n : Nat) (w : World) (hn : n < 18446744073709551616) :
    Calls Try.prog 40 #[.int .u64 n] w fun e w' => e = .returned (.agg (fArr (dig n))) ∧ Below w.heap.size w w' := by
  obtain ⟨Z, hZ⟩ : ∃ Z, Z = Array.replicate 16 (Value.int .u64 0) := ⟨_, rfl⟩
  go_enter Try.func40, Try.ntmps40
  go_upto_region 1 with fail
  have g0 := Box.new w 34 (Array.replicate 16 (Value.int .u64 0))
  have g1 : Below w.heap.size w (w.alloc (.cells (Array.replicate 16 (Value.int .u64 0)) 34)) := (Below.refl _ _).alloc (Nat.le_refl _) _
  have g2 : (w.alloc (.cells (Array.replicate 16 (Value.int .u64 0)) 34)).heap.size = w.heap.size + 1 := by simp
  change Code.wp _ _ _ _ (w.alloc (.cells (Array.replicate 16 (Value.int .u64 0)) 34))
  generalize (w.alloc (.cells (Array.replicate 16 (Value.int .u64 0)) 34)) = W at *
  go_step
  refine wpList_value rfl (.agg (Array.replicate 16 (Value.int .u64 0))) (by simp [go_sem]; rfl) ?_
  refine wpList_alloc_box rfl 34 rfl (Array.replicate 16 (Value.int .u64 0)) (by intro w; simp [go_sem]; rfl) ?_
  refine wpList_store_box rfl 34 _ _ rfl (Box.new _ _ _) (by rfl) (by rfl) rfl (by kernel_rfl) (fArr_zero ▸ fArr_one _) ?_
  intro w2 hX2 hst
  have hZ2 := hst.box (g0.alloc _) (by omega)
  have hB2 := hst.below w.heap.size w (by omega) (g1.alloc (by omega) _)
  have hS2 : w.heap.size + 2 = w2.heap.size := by have := hst.size; simp at this; omega
  rw [g2] at hX2
  simp only [Act.put, List.setIfInBounds_toArray, List.set_cons_zero, List.set_cons_succ]
  rw [g2]
  clear hst g0 g1 g2
  have hS2' : w.heap.size + 2 ≤ w2.heap.size := by omega
  clear hS2
  go_wp2_with fail
  go_loopw [0, 4] (fun x i wr => ∃ k : Nat, k ≤ 4 ∧ i = .int .i64 k ∧ x = .int .u64 (n / 65536 ^ k : Nat) ∧ Box wr (w.heap.size + 1) 34 (fArr (digTo n k)) ∧ Box wr w.heap.size 34 Z ∧ Below w.heap.size w wr ∧ w.heap.size + 2 ≤ wr.heap.size) (fun _ i _ => 4 - (intOf i).toNat)
  case atStart => exact ⟨0, by omega, rfl, by simp, by rw [digTo_zero, fArr_zero]; exact hX2, hZ ▸ hZ2, hB2, hS2'⟩
  case round =>
    obtain ⟨wa, rfl⟩ : ∃ wa : World, wa = wr := ⟨_, rfl⟩
    obtain ⟨k, hk, rfl, rfl, hX, hZa, hB, hS⟩ := hrel
    clear hX2 hZ2 hB2 hS2'
    by_cases hlt : k < 4
    · have hm : n / 65536 ^ k < 18446744073709551616 := Nat.lt_of_le_of_lt (Nat.div_le_self _ _) hn
      have hq : n / 65536 ^ (k + 1) = n / 65536 ^ k / 65536 := by rw [Nat.pow_succ, Nat.div_div_eq_div_mul]
      have hr : dig n k = n / 65536 ^ k % 65536 := rfl
      have hd := digTo_set n k
      have gx := hX.cell k (fArr_get (digTo n k) k (by omega))
      have fx := hX.frozen k
      obtain ⟨m, hme⟩ : ∃ m, m = n / 65536 ^ k := ⟨_, rfl⟩
      rw [← hme] at hm hq hr ⊢
      obtain ⟨r, hre⟩ : ∃ r, r = dig n k := ⟨_, rfl⟩
      rw [← hre] at hr hd
      obtain ⟨q, hqe⟩ : ∃ q, q = n / 65536 ^ (k + 1) := ⟨_, rfl⟩
      rw [← hqe] at hq
      have e1 : (m : Int) % 65536 = (r : Int) := by omega
      have e2 : (m : Int) / 65536 = (q : Int) := by omega
      have HQ := Lib.hid hqe
      have HD := Lib.hid hd
      clear hq hr hd hme hre hqe
      generalize digTo n k k = u0 at gx
      go_wp2_with fail
      refine ⟨⟨k + 1, by omega, by go_num, by rw [HQ.out], ?_, hZa.far _ _ (by simp), hB.setCell (by simp) _, by simpa using hS⟩, by simp [intOf]; omega⟩
      have h1 := hX.set k (.int .u64 (r : Nat))
      rw [fArr_set, HD.out] at h1
      exact h1
    · obtain rfl : k = 4 := by omega
      rw [fArr_congr (digTo_all n 4 (by simpa using hn))] at hX
      have hRs : (fArr (dig n)).size = 16 := fArr_size _
      have HR1 := Lib.hid (fArr_one (dig n))
      have HZs := Lib.hid (show Z.size = 16 by rw [hZ]; rfl)
      clear hZ
      obtain ⟨R, hR⟩ : ∃ R, R = fArr (dig n) := ⟨_, rfl⟩
      rw [← hR] at hX hRs HR1
      have HR := Lib.hid hR
      clear hR
      have HRS := Lib.hid hRs
      clear hRs
      generalize n / 65536 ^ 4 = m
      go_upto_region 7 with fail
      go_step
      refine wpList_load_box rfl 34 _ rfl hX (by rfl) Try.underlying34 rfl (by rw [HRS.out]; kernel_rfl) ?_
      refine wpList_store_box rfl 34 _ _ rfl hZa (by rfl) (by rfl) (by rw [HZs.out, HRS.out]) (by rw [HRS.out]; kernel_rfl) HR1.out ?_
      intro w5 hY5 hst5
      have hB5 := hst5.below _ _ (by omega) hB
      clear hst5 hZa hB hX
      simp only [Act.put, List.setIfInBounds_toArray, List.set_cons_zero, List.set_cons_succ]
      go_wp2_with fail
      exact bodyPost_ret (v := .agg R) (box_result rfl _ _ (by rfl) hY5 Try.underlying34 rfl (by rw [HRS.out]; kernel_rfl)) rfl ⟨by rw [HR.out], hB5⟩
end Go.Proofs.Ytpkoniebbkkmjaa

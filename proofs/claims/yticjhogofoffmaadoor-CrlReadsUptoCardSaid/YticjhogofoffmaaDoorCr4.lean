/- The list of 'awake', put. -/
import Derived.Test.YticjhogofoffmaaDoorCr3
namespace Go.Proofs.YticjhogofoffmaaDoor
open Go.RowKit
set_option linter.unusedSimpArgs false
set_option linter.unusedVariables false

theorem Box.mid {w : World} {g : Nat} {T : TypeId} {cells : Array Value} (h : Box w g T cells) (o : Nat) (cs : List Value) (hh : ∀ j v, cs[j]? = some v → cells[o + j]? = some v) : w.rangeAt g o cs := fun j v hv => h.cell (o + j) (hh j v hv)
theorem mid2 {cells : Array Value} {o : Nat} {x y : Value} (h0 : cells[o]? = some x) (h1 : cells[o + 1]? = some y) : ∀ j v, [x, y][j]? = some v → cells[o + j]? = some v := by
  intro j v hv
  match j, hv with
  | 0, hv => cases hv; exact h0
  | 1, hv => cases hv; exact h1
theorem mid4 {cells : Array Value} {o : Nat} {x y z u : Value} (h0 : cells[o]? = some x) (h1 : cells[o + 1]? = some y) (h2 : cells[o + 2]? = some z) (h3 : cells[o + 3]? = some u) : ∀ j v, [x, y, z, u][j]? = some v → cells[o + j]? = some v := by
  intro j v hv
  match j, hv with
  | 0, hv => cases hv; exact h0
  | 1, hv => cases hv; exact h1
  | 2, hv => cases hv; exact h2
  | 3, hv => cases hv; exact h3
section
variable {P : Program} {md : Region.Mode} {ops : Array Oper} {Q : Exit → Act → World → Prop} {S : World → Prop}
/-- two that may come up, neither writes -/
theorem wpW_two (i j : Nat) {ws : List Nat} {oi oj : Oper} {tl tl' : List Oper} {fuel : Nat} {listed : Array Bool} {a : Act} {w : World} (hi : ops.toList.drop i = oi :: tl) (hj : ops.toList.drop j = oj :: tl') (hr : Region.ready md ops listed = [i, j])
    (hw : ws.contains i = false) (hw' : ws.contains j = false) (hgd : Region.wanted oi (yielded ops a.tmps) = true) (hgd' : Region.wanted oj (yielded ops a.tmps) = true)
    (h : ∀ w1, Below w.heap.size w w1 → S w1 → oi.wp P a w1 (fun a' w' => S w' ∧ wpW P md ops Q S ws fuel (listed.setIfInBounds i true) a' w') Q)
    (h' : ∀ w1, Below w.heap.size w w1 → S w1 → oj.wp P a w1 (fun a' w' => S w' ∧ wpW P md ops Q S ws fuel (listed.setIfInBounds j true) a' w') Q) : wpW P md ops Q S ws (fuel + 1) listed a w :=
  fun w1 b1 s1 => ⟨fun h0 => (by rw [hr] at h0; cases h0), fun k hk => by
    rw [hr] at hk
    rcases List.mem_cons.1 hk with rfl | hk
    · exact wpOp_step (op_of_drop hi) (fun K' hK => by
        rw [if_pos hgd]
        refine Oper.wp_mono (fun a' w' h' => hK a' w' ?_) (h w1 b1 s1)
        rw [if_neg (by rw [hw]; simp)]
        exact h')
    · obtain rfl : k = j := by simpa using hk
      exact wpOp_step (op_of_drop hj) (fun K' hK => by
        rw [if_pos hgd']
        refine Oper.wp_mono (fun a' w' h' => hK a' w' ?_) (h' w1 b1 s1)
        rw [if_neg (by rw [hw']; simp)]
        exact h')⟩
end
/-- the tree of a list without sums and window -/
def crl0S (l : List UInt8) : Sx := .mk true false [] [] [(.mk false false [] [99, 114, 108] []), .mk true false [] [] [(.mk false false [] [105, 115, 115, 117, 101, 114] []), keyS false l], .mk true false [] [] [(.mk false false [] [99, 97, 110, 99, 101, 108, 101, 100] [])]]
theorem crl0_may : (crl0S (List.replicate 32 0)).may = true := by
  have hf : (crl0S (List.replicate 32 0)).form.length ≤ 4096 := by
    unfold crl0S keyS
    have n1 := numL_len 10 (by omega)
    have n2 := numL_len 32 (by omega)
    simp [form_def, Sx.formL, textL, numL_small]
    generalize (numL 10).length = x1 at *
    generalize (numL 32).length = x2 at *
    omega
  have h1 : (crl0S (List.replicate 32 0)).clean = true := by decide
  have h2 : (crl0S (List.replicate 32 0)).nodes ≤ 512 := by decide
  have h3 : (crl0S (List.replicate 32 0)).deep ≤ 16 := by decide
  unfold Sx.may
  rw [h1, decide_eq_true hf, decide_eq_true h2, decide_eq_true h3]
  rfl
theorem crl0_wide : (crl0S (List.replicate 32 0)).wide 0 = false := by decide

set_option maxHeartbeats 8000000 in
set_option maxRecDepth 100000 in
theorem crlPut0_any (a : Option Addr) (n c : Nat) (w : World) (hs : Sl w a n c (List.replicate 32 0)) (ht : Tab w) : Calls Tryd.prog 16 #[.agg #[.bool false, .slice a n c, .slice none 0 0, .bool false, .int .i64 0, .bool false, .int .i64 0]] w (PutQ (crl0S (List.replicate 32 0)) (.int .i64 0) w) := by
  have HM : Hid (keyMay false (List.replicate 32 (0 : UInt8)).length = true) := Lib.hid rfl
  have HY := Lib.hid crl0_may
  have HW := Lib.hid crl0_wide
  have HN : n ≤ 100000 := by have := hs.1; simp at this; omega
  obtain ⟨l, hl⟩ : ∃ l, l = List.replicate 32 (0 : UInt8) := ⟨_, rfl⟩
  rw [← hl] at hs HM HY HW
  rw [← hl]
  clear hl
  have B : Below w.heap.size w ((w.alloc (.cells #[.bool false, .slice a n c, .slice none 0 0, .bool false, .int .i64 0, .bool false, .int .i64 0] 29)).alloc (.cells #[.bool false, .bool false, .slice none 0 0, .slice none 0 0, .slice none 0 0] 37)) := ((Below.refl _ _).alloc (Nat.le_refl _) _).alloc (by simp) _
  have K : Box ((w.alloc (.cells #[.bool false, .slice a n c, .slice none 0 0, .bool false, .int .i64 0, .bool false, .int .i64 0] 29)).alloc (.cells #[.bool false, .bool false, .slice none 0 0, .slice none 0 0, .slice none 0 0] 37)) w.heap.size 29 #[.bool false, .slice a n c, .slice none 0 0, .bool false, .int .i64 0, .bool false, .int .i64 0] := (Box.new _ _ _).alloc _
  have X : Box ((w.alloc (.cells #[.bool false, .slice a n c, .slice none 0 0, .bool false, .int .i64 0, .bool false, .int .i64 0] 29)).alloc (.cells #[.bool false, .bool false, .slice none 0 0, .slice none 0 0, .slice none 0 0] 37)) (w.heap.size + 1) 37 #[.bool false, .bool false, .slice none 0 0, .slice none 0 0, .slice none 0 0] := by
    have := Box.new (w.alloc (.cells #[.bool false, .slice a n c, .slice none 0 0, .bool false, .int .i64 0, .bool false, .int .i64 0] 29)) 37 #[.bool false, .bool false, .slice none 0 0, .slice none 0 0, .slice none 0 0]
    simpa using this
  replace hs := Lib.hid (hs.after B)
  replace ht := Lib.hid (ht.after B)
  replace K := Lib.hid K
  replace X := Lib.hid X
  go_enter Tryd.func16, Tryd.ntmps16
  go_upto_region 1 with fail
  change Code.wp _ _ _ _ ((w.alloc (.cells #[.bool false, .slice a n c, .slice none 0 0, .bool false, .int .i64 0, .bool false, .int .i64 0] 29)).alloc (.cells #[.bool false, .bool false, .slice none 0 0, .slice none 0 0, .slice none 0 0] 37))
  generalize ((w.alloc (.cells #[.bool false, .slice a n c, .slice none 0 0, .bool false, .int .i64 0, .bool false, .int .i64 0] 29)).alloc (.cells #[.bool false, .bool false, .slice none 0 0, .slice none 0 0, .slice none 0 0] 37)) = u0 at *
  go_wp2_with (refine wpList_load_mid rfl 24 _ rfl w.heap.size 0 rfl [.bool false, .slice a n c] _ (Box.mid K.out 0 _ (mid2 rfl rfl)) Tryd.underlying24 rfl (by kernel_rfl) ?_)
  refine (keyPut_any false a n c l u0 hs.out HN).mono ?_
  rintro e w1 h
  obtain ⟨_, ⟨kl, kh, ka1, kn1, kc1, ka2, kn2, kc2, ka3, kn3, kc3⟩, rfl, r1, hb1⟩ := Or.resolve_right h (fun hh => absurd (HM.out.symm.trans hh.1) (by decide))
  have R1 := Lib.hid (r1.mono (ok' := (fun b => w.heap.size ≤ b ∧ b ≠ w.heap.size + 1)) (fun b hb => by have := X.out.lt; have := B.size; show w.heap.size ≤ b ∧ b ≠ w.heap.size + 1; omega))
  clear r1
  replace R1 := Lib.hid (R1.out.after (Below.refl _ _))
  clear hs
  replace B := B.trans (hb1.mono B.size)
  replace K := Lib.hid (K.out.after hb1)
  replace X := Lib.hid (X.out.after hb1)
  replace ht := Lib.hid (ht.out.after hb1)
  clear hb1
  go_upto_region 2 with (refine wpList_store_box (cells := #[.bool kl, .bool kh, .slice ka1 kn1 kc1, .slice ka2 kn2 kc2, .slice ka3 kn3 kc3]) rfl 37 _ _ rfl (Box.new _ _ _) (by rfl) (by rfl) rfl (by kernel_rfl) (by simp [Value.oneCell']) ?_; intro q1 Z1 sq1)
  have bq1 : Below w1.heap.size w1 q1 := sq1.below w1.heap.size w1 (Nat.le_refl _) ((Below.refl _ _).alloc (Nat.le_refl _) _)
  replace B := B.trans (bq1.mono B.size)
  replace K := Lib.hid (K.out.after bq1)
  replace X := Lib.hid (X.out.after bq1)
  replace ht := Lib.hid (ht.out.after bq1)
  replace R1 := Lib.hid (R1.out.after bq1)
  have Y1 := Lib.hid Z1
  clear sq1 Z1 bq1
  generalize w1.heap.size = y1 at *
  have kf := K.out.cell 2 rfl
  go_wp2_with fail
  refine (sums0_any q1).mono ?_
  rintro e w2 ⟨⟨sl, sh, sa1, sn1, sc1, sa2, sn2, sc2, sa3, sn3, sc3⟩, rfl, r2, hb2⟩
  clear kf
  have R2 := Lib.hid (r2.mono (ok' := (fun b => w.heap.size ≤ b ∧ b ≠ w.heap.size + 1)) (fun b hb => by have := X.out.lt; have := B.size; show w.heap.size ≤ b ∧ b ≠ w.heap.size + 1; omega))
  clear r2
  replace B := B.trans (hb2.mono B.size)
  replace K := Lib.hid (K.out.after hb2)
  replace X := Lib.hid (X.out.after hb2)
  replace ht := Lib.hid (ht.out.after hb2)
  replace R1 := Lib.hid (R1.out.after hb2)
  replace Y1 := Lib.hid (Y1.out.after hb2)
  clear hb2
  go_upto_region 3 with (refine wpList_store_box (cells := #[.bool sl, .bool sh, .slice sa1 sn1 sc1, .slice sa2 sn2 sc2, .slice sa3 sn3 sc3]) rfl 37 _ _ rfl (Box.new _ _ _) (by rfl) (by rfl) rfl (by kernel_rfl) (by simp [Value.oneCell']) ?_; intro q2 Z2 sq2)
  have bq2 : Below w2.heap.size w2 q2 := sq2.below w2.heap.size w2 (Nat.le_refl _) ((Below.refl _ _).alloc (Nat.le_refl _) _)
  replace B := B.trans (bq2.mono B.size)
  replace K := Lib.hid (K.out.after bq2)
  replace X := Lib.hid (X.out.after bq2)
  replace ht := Lib.hid (ht.out.after bq2)
  replace R1 := Lib.hid (R1.out.after bq2)
  replace R2 := Lib.hid (R2.out.after bq2)
  replace Y1 := Lib.hid (Y1.out.after bq2)
  have Y2 := Lib.hid Z2
  clear sq2 Z2 bq2
  generalize w2.heap.size = y2 at *
  go_wp2_with (refine wpList_load_mid rfl 27 _ rfl w.heap.size 3 rfl [.bool false, .int .i64 0, .bool false, .int .i64 0] _ (Box.mid K.out 3 _ (mid4 rfl rfl rfl rfl)) Tryd.underlying27 rfl (by kernel_rfl) ?_)
  refine (winPut0_any q2).mono ?_
  rintro e w3 ⟨⟨tl, th, ta1, tn1, tc1, ta2, tn2, tc2, ta3, tn3, tc3⟩, rfl, r3, hb3⟩
  clear r3
  replace B := B.trans (hb3.mono B.size)
  replace K := Lib.hid (K.out.after hb3)
  replace X := Lib.hid (X.out.after hb3)
  replace ht := Lib.hid (ht.out.after hb3)
  replace R1 := Lib.hid (R1.out.after hb3)
  replace R2 := Lib.hid (R2.out.after hb3)
  replace Y1 := Lib.hid (Y1.out.after hb3)
  replace Y2 := Lib.hid (Y2.out.after hb3)
  clear hb3
  go_upto_region 4 with (refine wpList_store_box (cells := #[.bool tl, .bool th, .slice ta1 tn1 tc1, .slice ta2 tn2 tc2, .slice ta3 tn3 tc3]) rfl 37 _ _ rfl (Box.new _ _ _) (by rfl) (by rfl) rfl (by kernel_rfl) (by simp [Value.oneCell']) ?_; intro q3 Z3 sq3)
  have bq3 : Below w3.heap.size w3 q3 := sq3.below w3.heap.size w3 (Nat.le_refl _) ((Below.refl _ _).alloc (Nat.le_refl _) _)
  replace B := B.trans (bq3.mono B.size)
  replace K := Lib.hid (K.out.after bq3)
  replace X := Lib.hid (X.out.after bq3)
  replace ht := Lib.hid (ht.out.after bq3)
  replace R1 := Lib.hid (R1.out.after bq3)
  replace R2 := Lib.hid (R2.out.after bq3)
  replace Y1 := Lib.hid (Y1.out.after bq3)
  replace Y2 := Lib.hid (Y2.out.after bq3)
  have Y3 := Lib.hid Z3
  clear sq3 Z3 bq3
  generalize w3.heap.size = y3 at *
  clear Y3
  clear h
  go_upto_region 6 with fail
  have hxq := X.out.lt
  have hKS : Keeps (fun w' => (Box w' y1 37 #[.bool kl, .bool kh, .slice ka1 kn1 kc1, .slice ka2 kn2 kc2, .slice ka3 kn3 kc3] ∧ Box w' y2 37 #[.bool sl, .bool sh, .slice sa1 sn1 sc1, .slice sa2 sn2 sc2, .slice sa3 sn3 sc3]) ∧ (RdI (fun b => (w.heap.size ≤ b ∧ b ≠ w.heap.size + 1) ∧ b < q3.heap.size) w' ⟨kl, kh, ka1, kn1, kc1, ka2, kn2, kc2, ka3, kn3, kc3⟩ (keyS false l) ∧ RdI (fun b => (w.heap.size ≤ b ∧ b ≠ w.heap.size + 1) ∧ b < q3.heap.size) w' ⟨sl, sh, sa1, sn1, sc1, sa2, sn2, sc2, sa3, sn3, sc3⟩ (.mk true false [] [] [(.mk false false [] [99, 97, 110, 99, 101, 108, 101, 100] [])])) ∧ Box w' (w.heap.size + 1) 37 #[.bool false, .bool false, .slice none 0 0, .slice none 0 0, .slice none 0 0] ∧ Below q3.heap.size q3 w') := fun w1 w2 h b => ⟨⟨h.1.1.after b, h.1.2.after b⟩, ⟨h.2.1.1.after b, h.2.1.2.after b⟩, h.2.2.1.after b, h.2.2.2.trans (b.mono h.2.2.2.size)⟩
  refine wp_region_W (w := q3) [9] (fun w' => (Box w' y1 37 #[.bool kl, .bool kh, .slice ka1 kn1 kc1, .slice ka2 kn2 kc2, .slice ka3 kn3 kc3] ∧ Box w' y2 37 #[.bool sl, .bool sh, .slice sa1 sn1 sc1, .slice sa2 sn2 sc2, .slice sa3 sn3 sc3]) ∧ (RdI (fun b => (w.heap.size ≤ b ∧ b ≠ w.heap.size + 1) ∧ b < q3.heap.size) w' ⟨kl, kh, ka1, kn1, kc1, ka2, kn2, kc2, ka3, kn3, kc3⟩ (keyS false l) ∧ RdI (fun b => (w.heap.size ≤ b ∧ b ≠ w.heap.size + 1) ∧ b < q3.heap.size) w' ⟨sl, sh, sa1, sn1, sc1, sa2, sn2, sc2, sa3, sn3, sc3⟩ (.mk true false [] [] [(.mk false false [] [99, 97, 110, 99, 101, 108, 101, 100] [])])) ∧ Box w' (w.heap.size + 1) 37 #[.bool false, .bool false, .slice none 0 0, .slice none 0 0, .slice none 0 0] ∧ Below q3.heap.size q3 w') rfl (hKS _ _ ⟨⟨Y1.out, Y2.out⟩, ⟨R1.out.there, R2.out.there⟩, X.out, Below.refl _ _⟩ (Below.refl _ _).drew) ?_
  refine wpW_val 2 hKS rfl (by kernel_rfl) (by kernel_rfl) (by kernel_rfl) (by kernel_rfl) rfl (fun _ _ _ _ h => h) (.agg #[.bool kl, .bool kh, .slice ka1 kn1 kc1, .slice ka2 kn2 kc2, .slice ka3 kn3 kc3]) (fun w' h => run_load_box rfl h.1.1 (by rfl) Tryd.underlying37 rfl (by kernel_rfl)) ?_
  simp only [Act.put, List.setIfInBounds_toArray, List.set_cons_zero, List.set_cons_succ]
  refine wpW_val 5 hKS rfl (by kernel_rfl) (by kernel_rfl) (by kernel_rfl) (by kernel_rfl) rfl (fun _ _ _ _ h => h) (.agg #[.bool sl, .bool sh, .slice sa1 sn1 sc1, .slice sa2 sn2 sc2, .slice sa3 sn3 sc3]) (fun w' h => run_load_box rfl h.1.2 (by rfl) Tryd.underlying37 rfl (by kernel_rfl)) ?_
  simp only [Act.put, List.setIfInBounds_toArray, List.set_cons_zero, List.set_cons_succ]
  refine wpW_two 0 8 rfl rfl (by kernel_rfl) rfl rfl rfl rfl ?_ ?_
  · intro z11 b11 s11
    refine wp_callR 40 #[.string ⟨#[99, 114, 108]⟩] (by simp [go_sem]) _ (atomI_any (fun b => w.heap.size ≤ b ∧ b ≠ w.heap.size + 1) ⟨#[99, 114, 108]⟩ (by decide) z11 (fun b hb => by have := s11.2.2.1.lt; omega)) ?_
    rintro e w12 ⟨vA, rfl, rA, c12⟩
    refine ⟨_, rfl, hKS _ _ s11 c12, ?_⟩
    simp only [Act.put, List.setIfInBounds_toArray, List.set_cons_zero, List.set_cons_succ]
    refine wpW_two 1 8 rfl rfl (by kernel_rfl) rfl rfl rfl rfl ?_ ?_
    · intro z13 b13 s13
      replace rA := rA.after b13
      refine wp_callR 40 #[.string ⟨#[105, 115, 115, 117, 101, 114]⟩] (by simp [go_sem]) _ (atomI_any (fun b => w.heap.size ≤ b ∧ b ≠ w.heap.size + 1) ⟨#[105, 115, 115, 117, 101, 114]⟩ (by decide) z13 (fun b hb => by have := s13.2.2.1.lt; omega)) ?_
      rintro e w14 ⟨vB, rfl, rB, c14⟩
      replace rA := rA.after c14
      refine ⟨_, rfl, hKS _ _ s13 c14, ?_⟩
      simp only [Act.put, List.setIfInBounds_toArray, List.set_cons_zero, List.set_cons_succ]
      refine wpW_two 3 8 rfl rfl (by kernel_rfl) rfl rfl rfl rfl ?_ ?_
      · intro z15 b15 s15
        replace rA := rA.after b15
        replace rB := rB.after b15
        refine wp_of_run (.slice (some ⟨z15.heap.size, 0, none⟩) 2 2) (z15.alloc (.cells #[.bool vB.l, .bool vB.h, .slice vB.a1 vB.n1 vB.c1, .slice vB.a2 vB.n2 vB.c2, .slice vB.a3 vB.n3 vB.c3, .bool (⟨kl, kh, ka1, kn1, kc1, ka2, kn2, kc2, ka3, kn3, kc3⟩ : SV).l, .bool (⟨kl, kh, ka1, kn1, kc1, ka2, kn2, kc2, ka3, kn3, kc3⟩ : SV).h, .slice (⟨kl, kh, ka1, kn1, kc1, ka2, kn2, kc2, ka3, kn3, kc3⟩ : SV).a1 (⟨kl, kh, ka1, kn1, kc1, ka2, kn2, kc2, ka3, kn3, kc3⟩ : SV).n1 (⟨kl, kh, ka1, kn1, kc1, ka2, kn2, kc2, ka3, kn3, kc3⟩ : SV).c1, .slice (⟨kl, kh, ka1, kn1, kc1, ka2, kn2, kc2, ka3, kn3, kc3⟩ : SV).a2 (⟨kl, kh, ka1, kn1, kc1, ka2, kn2, kc2, ka3, kn3, kc3⟩ : SV).n2 (⟨kl, kh, ka1, kn1, kc1, ka2, kn2, kc2, ka3, kn3, kc3⟩ : SV).c2, .slice (⟨kl, kh, ka1, kn1, kc1, ka2, kn2, kc2, ka3, kn3, kc3⟩ : SV).a3 (⟨kl, kh, ka1, kn1, kc1, ka2, kn2, kc2, ka3, kn3, kc3⟩ : SV).n3 (⟨kl, kh, ka1, kn1, kc1, ka2, kn2, kc2, ka3, kn3, kc3⟩ : SV).c3] 37)) (by simp [go_sem, SV.val]) ?_
        have c16 : Below z15.heap.size z15 (z15.alloc (.cells #[.bool vB.l, .bool vB.h, .slice vB.a1 vB.n1 vB.c1, .slice vB.a2 vB.n2 vB.c2, .slice vB.a3 vB.n3 vB.c3, .bool (⟨kl, kh, ka1, kn1, kc1, ka2, kn2, kc2, ka3, kn3, kc3⟩ : SV).l, .bool (⟨kl, kh, ka1, kn1, kc1, ka2, kn2, kc2, ka3, kn3, kc3⟩ : SV).h, .slice (⟨kl, kh, ka1, kn1, kc1, ka2, kn2, kc2, ka3, kn3, kc3⟩ : SV).a1 (⟨kl, kh, ka1, kn1, kc1, ka2, kn2, kc2, ka3, kn3, kc3⟩ : SV).n1 (⟨kl, kh, ka1, kn1, kc1, ka2, kn2, kc2, ka3, kn3, kc3⟩ : SV).c1, .slice (⟨kl, kh, ka1, kn1, kc1, ka2, kn2, kc2, ka3, kn3, kc3⟩ : SV).a2 (⟨kl, kh, ka1, kn1, kc1, ka2, kn2, kc2, ka3, kn3, kc3⟩ : SV).n2 (⟨kl, kh, ka1, kn1, kc1, ka2, kn2, kc2, ka3, kn3, kc3⟩ : SV).c2, .slice (⟨kl, kh, ka1, kn1, kc1, ka2, kn2, kc2, ka3, kn3, kc3⟩ : SV).a3 (⟨kl, kh, ka1, kn1, kc1, ka2, kn2, kc2, ka3, kn3, kc3⟩ : SV).n3 (⟨kl, kh, ka1, kn1, kc1, ka2, kn2, kc2, ka3, kn3, kc3⟩ : SV).c3] 37)) := (Below.refl _ _).alloc (Nat.le_refl _) _
        have rW := row_two z15 vB (⟨kl, kh, ka1, kn1, kc1, ka2, kn2, kc2, ka3, kn3, kc3⟩ : SV) 37
        replace rA := rA.after c16
        replace rB := rB.after c16
        refine ⟨hKS _ _ s15 c16, ?_⟩
        simp only [Act.put, List.setIfInBounds_toArray, List.set_cons_zero, List.set_cons_succ]
        generalize (z15.alloc (.cells #[.bool vB.l, .bool vB.h, .slice vB.a1 vB.n1 vB.c1, .slice vB.a2 vB.n2 vB.c2, .slice vB.a3 vB.n3 vB.c3, .bool (⟨kl, kh, ka1, kn1, kc1, ka2, kn2, kc2, ka3, kn3, kc3⟩ : SV).l, .bool (⟨kl, kh, ka1, kn1, kc1, ka2, kn2, kc2, ka3, kn3, kc3⟩ : SV).h, .slice (⟨kl, kh, ka1, kn1, kc1, ka2, kn2, kc2, ka3, kn3, kc3⟩ : SV).a1 (⟨kl, kh, ka1, kn1, kc1, ka2, kn2, kc2, ka3, kn3, kc3⟩ : SV).n1 (⟨kl, kh, ka1, kn1, kc1, ka2, kn2, kc2, ka3, kn3, kc3⟩ : SV).c1, .slice (⟨kl, kh, ka1, kn1, kc1, ka2, kn2, kc2, ka3, kn3, kc3⟩ : SV).a2 (⟨kl, kh, ka1, kn1, kc1, ka2, kn2, kc2, ka3, kn3, kc3⟩ : SV).n2 (⟨kl, kh, ka1, kn1, kc1, ka2, kn2, kc2, ka3, kn3, kc3⟩ : SV).c2, .slice (⟨kl, kh, ka1, kn1, kc1, ka2, kn2, kc2, ka3, kn3, kc3⟩ : SV).a3 (⟨kl, kh, ka1, kn1, kc1, ka2, kn2, kc2, ka3, kn3, kc3⟩ : SV).n3 (⟨kl, kh, ka1, kn1, kc1, ka2, kn2, kc2, ka3, kn3, kc3⟩ : SV).c3] 37)) = y16 at *
        refine wpW_two 4 8 rfl rfl (by kernel_rfl) rfl rfl rfl rfl ?_ ?_
        · intro z17 b17 s17
          replace rA := rA.after b17
          replace rB := rB.after b17
          replace rW := rW.after b17
          refine wp_callR 39 #[.slice (some ⟨_, 0, none⟩) 2 2] (by simp [go_sem]) _ (listI_any (fun b => w.heap.size ≤ b ∧ b ≠ w.heap.size + 1) _ 2 2 _ [(.mk false false [] [105, 115, 115, 117, 101, 114] []), keyS false l] z17 rW (by omega) rfl (fun i hi => match i, hi with | 0, _ => rB | 1, _ => (s17.2.1.1.mono (ok' := (fun b => w.heap.size ≤ b ∧ b ≠ w.heap.size + 1)) (fun b hb => hb.1))) (fun b hb => by have := s17.2.2.1.lt; omega)) ?_
          rintro e w18 ⟨vM, rfl, rM, c18⟩
          clear rW
          replace rA := rA.after c18
          replace rB := rB.after c18
          refine ⟨_, rfl, hKS _ _ s17 c18, ?_⟩
          simp only [Act.put, List.setIfInBounds_toArray, List.set_cons_zero, List.set_cons_succ]
          refine wpW_two 6 8 rfl rfl (by kernel_rfl) rfl rfl rfl rfl ?_ ?_
          · intro z19 b19 s19
            replace rA := rA.after b19
            replace rB := rB.after b19
            replace rM := rM.after b19
            refine wp_of_run (.slice (some ⟨z19.heap.size, 0, none⟩) 3 3) (z19.alloc (.cells #[.bool vA.l, .bool vA.h, .slice vA.a1 vA.n1 vA.c1, .slice vA.a2 vA.n2 vA.c2, .slice vA.a3 vA.n3 vA.c3, .bool vM.l, .bool vM.h, .slice vM.a1 vM.n1 vM.c1, .slice vM.a2 vM.n2 vM.c2, .slice vM.a3 vM.n3 vM.c3, .bool (⟨sl, sh, sa1, sn1, sc1, sa2, sn2, sc2, sa3, sn3, sc3⟩ : SV).l, .bool (⟨sl, sh, sa1, sn1, sc1, sa2, sn2, sc2, sa3, sn3, sc3⟩ : SV).h, .slice (⟨sl, sh, sa1, sn1, sc1, sa2, sn2, sc2, sa3, sn3, sc3⟩ : SV).a1 (⟨sl, sh, sa1, sn1, sc1, sa2, sn2, sc2, sa3, sn3, sc3⟩ : SV).n1 (⟨sl, sh, sa1, sn1, sc1, sa2, sn2, sc2, sa3, sn3, sc3⟩ : SV).c1, .slice (⟨sl, sh, sa1, sn1, sc1, sa2, sn2, sc2, sa3, sn3, sc3⟩ : SV).a2 (⟨sl, sh, sa1, sn1, sc1, sa2, sn2, sc2, sa3, sn3, sc3⟩ : SV).n2 (⟨sl, sh, sa1, sn1, sc1, sa2, sn2, sc2, sa3, sn3, sc3⟩ : SV).c2, .slice (⟨sl, sh, sa1, sn1, sc1, sa2, sn2, sc2, sa3, sn3, sc3⟩ : SV).a3 (⟨sl, sh, sa1, sn1, sc1, sa2, sn2, sc2, sa3, sn3, sc3⟩ : SV).n3 (⟨sl, sh, sa1, sn1, sc1, sa2, sn2, sc2, sa3, sn3, sc3⟩ : SV).c3] 37)) (by simp [go_sem, SV.val]) ?_
            have c20 : Below z19.heap.size z19 (z19.alloc (.cells #[.bool vA.l, .bool vA.h, .slice vA.a1 vA.n1 vA.c1, .slice vA.a2 vA.n2 vA.c2, .slice vA.a3 vA.n3 vA.c3, .bool vM.l, .bool vM.h, .slice vM.a1 vM.n1 vM.c1, .slice vM.a2 vM.n2 vM.c2, .slice vM.a3 vM.n3 vM.c3, .bool (⟨sl, sh, sa1, sn1, sc1, sa2, sn2, sc2, sa3, sn3, sc3⟩ : SV).l, .bool (⟨sl, sh, sa1, sn1, sc1, sa2, sn2, sc2, sa3, sn3, sc3⟩ : SV).h, .slice (⟨sl, sh, sa1, sn1, sc1, sa2, sn2, sc2, sa3, sn3, sc3⟩ : SV).a1 (⟨sl, sh, sa1, sn1, sc1, sa2, sn2, sc2, sa3, sn3, sc3⟩ : SV).n1 (⟨sl, sh, sa1, sn1, sc1, sa2, sn2, sc2, sa3, sn3, sc3⟩ : SV).c1, .slice (⟨sl, sh, sa1, sn1, sc1, sa2, sn2, sc2, sa3, sn3, sc3⟩ : SV).a2 (⟨sl, sh, sa1, sn1, sc1, sa2, sn2, sc2, sa3, sn3, sc3⟩ : SV).n2 (⟨sl, sh, sa1, sn1, sc1, sa2, sn2, sc2, sa3, sn3, sc3⟩ : SV).c2, .slice (⟨sl, sh, sa1, sn1, sc1, sa2, sn2, sc2, sa3, sn3, sc3⟩ : SV).a3 (⟨sl, sh, sa1, sn1, sc1, sa2, sn2, sc2, sa3, sn3, sc3⟩ : SV).n3 (⟨sl, sh, sa1, sn1, sc1, sa2, sn2, sc2, sa3, sn3, sc3⟩ : SV).c3] 37)) := (Below.refl _ _).alloc (Nat.le_refl _) _
            have rW := row_three z19 vA vM (⟨sl, sh, sa1, sn1, sc1, sa2, sn2, sc2, sa3, sn3, sc3⟩ : SV) 37
            replace rA := rA.after c20
            replace rB := rB.after c20
            replace rM := rM.after c20
            refine ⟨hKS _ _ s19 c20, ?_⟩
            simp only [Act.put, List.setIfInBounds_toArray, List.set_cons_zero, List.set_cons_succ]
            generalize (z19.alloc (.cells #[.bool vA.l, .bool vA.h, .slice vA.a1 vA.n1 vA.c1, .slice vA.a2 vA.n2 vA.c2, .slice vA.a3 vA.n3 vA.c3, .bool vM.l, .bool vM.h, .slice vM.a1 vM.n1 vM.c1, .slice vM.a2 vM.n2 vM.c2, .slice vM.a3 vM.n3 vM.c3, .bool (⟨sl, sh, sa1, sn1, sc1, sa2, sn2, sc2, sa3, sn3, sc3⟩ : SV).l, .bool (⟨sl, sh, sa1, sn1, sc1, sa2, sn2, sc2, sa3, sn3, sc3⟩ : SV).h, .slice (⟨sl, sh, sa1, sn1, sc1, sa2, sn2, sc2, sa3, sn3, sc3⟩ : SV).a1 (⟨sl, sh, sa1, sn1, sc1, sa2, sn2, sc2, sa3, sn3, sc3⟩ : SV).n1 (⟨sl, sh, sa1, sn1, sc1, sa2, sn2, sc2, sa3, sn3, sc3⟩ : SV).c1, .slice (⟨sl, sh, sa1, sn1, sc1, sa2, sn2, sc2, sa3, sn3, sc3⟩ : SV).a2 (⟨sl, sh, sa1, sn1, sc1, sa2, sn2, sc2, sa3, sn3, sc3⟩ : SV).n2 (⟨sl, sh, sa1, sn1, sc1, sa2, sn2, sc2, sa3, sn3, sc3⟩ : SV).c2, .slice (⟨sl, sh, sa1, sn1, sc1, sa2, sn2, sc2, sa3, sn3, sc3⟩ : SV).a3 (⟨sl, sh, sa1, sn1, sc1, sa2, sn2, sc2, sa3, sn3, sc3⟩ : SV).n3 (⟨sl, sh, sa1, sn1, sc1, sa2, sn2, sc2, sa3, sn3, sc3⟩ : SV).c3] 37)) = y20 at *
            refine wpW_two 7 8 rfl rfl (by kernel_rfl) rfl rfl rfl rfl ?_ ?_
            · intro z21 b21 s21
              replace rA := rA.after b21
              replace rB := rB.after b21
              replace rM := rM.after b21
              replace rW := rW.after b21
              refine wp_callR 39 #[.slice (some ⟨_, 0, none⟩) 3 3] (by simp [go_sem]) _ (listI_any (fun b => w.heap.size ≤ b ∧ b ≠ w.heap.size + 1) _ 3 3 _ [(.mk false false [] [99, 114, 108] []), .mk true false [] [] [(.mk false false [] [105, 115, 115, 117, 101, 114] []), keyS false l], .mk true false [] [] [(.mk false false [] [99, 97, 110, 99, 101, 108, 101, 100] [])]] z21 rW (by omega) rfl (fun i hi => match i, hi with | 0, _ => rA | 1, _ => rM | 2, _ => (s21.2.1.2.mono (ok' := (fun b => w.heap.size ≤ b ∧ b ≠ w.heap.size + 1)) (fun b hb => hb.1))) (fun b hb => by have := s21.2.2.1.lt; omega)) ?_
              rintro e w22 ⟨vL, rfl, rL, c22⟩
              clear rW
              replace rA := rA.after c22
              replace rB := rB.after c22
              replace rM := rM.after c22
              refine ⟨_, rfl, hKS _ _ s21 c22, ?_⟩
              simp only [Act.put, List.setIfInBounds_toArray, List.set_cons_zero, List.set_cons_succ]
              refine wpW_one 8 rfl (by kernel_rfl) rfl rfl ?_
              intro z23 b23 s23
              replace rA := rA.after b23
              replace rB := rB.after b23
              replace rM := rM.after b23
              replace rL := rL.after b23
              refine wp_alloc_new 37 rfl #[.bool false, .bool false, .slice none 0 0, .slice none 0 0, .slice none 0 0] (by intro w; simp [go_sem]) ?_
              intro g10 w24 rG lg0 c24
              have lg : q3.heap.size ≤ g10 := Nat.le_trans s23.2.2.2.size lg0
              replace rA := ((rA.there).mono (ok' := (fun b => (w.heap.size ≤ b ∧ b ≠ w.heap.size + 1) ∧ b ≠ g10)) (fun b hb => ⟨hb.1, by have := hb.2; omega⟩)).after c24
              replace rB := ((rB.there).mono (ok' := (fun b => (w.heap.size ≤ b ∧ b ≠ w.heap.size + 1) ∧ b ≠ g10)) (fun b hb => ⟨hb.1, by have := hb.2; omega⟩)).after c24
              replace rM := ((rM.there).mono (ok' := (fun b => (w.heap.size ≤ b ∧ b ≠ w.heap.size + 1) ∧ b ≠ g10)) (fun b hb => ⟨hb.1, by have := hb.2; omega⟩)).after c24
              replace rL := ((rL.there).mono (ok' := (fun b => (w.heap.size ≤ b ∧ b ≠ w.heap.size + 1) ∧ b ≠ g10)) (fun b hb => ⟨hb.1, by have := hb.2; omega⟩)).after c24
              refine ⟨hKS _ _ s23 c24, ?_⟩
              simp only [Act.put, List.setIfInBounds_toArray, List.set_cons_zero, List.set_cons_succ]
              clear lg0
              refine wpW_write 9 rfl (by kernel_rfl) (by kernel_rfl) rfl ?_
              intro z25 b25 s25
              replace rA := rA.after b25
              replace rB := rB.after b25
              replace rM := rM.after b25
              replace rL := rL.after b25
              replace rG := rG.after b25
              obtain ⟨vl, vh, va1, vn1, vc1, va2, vn2, vc2, va3, vn3, vc3⟩ := vL
              refine wp_store_box 37 _ _ rfl rG (by rfl) (by rfl) rfl (by kernel_rfl) (by simp [Value.oneCell']) (cells := #[.bool vl, .bool vh, .slice va1 vn1 vc1, .slice va2 vn2 vc2, .slice va3 vn3 vc3]) ?_
              intro zx Xx stx
              have RLx := Lib.hid (rL.keep (w' := zx) (fun b hb => stx.other b hb.2))
              have Bx := stx.below q3.heap.size q3 lg s25.2.2.2
              simp only [Act.put, List.setIfInBounds_toArray, List.set_cons_zero, List.set_cons_succ]
              refine wpU_done rfl (fun w9 b9 _ => ?_)
              have D := Bx.trans (b9.mono Bx.size)
              have B9 := B.trans (D.mono B.size)
              have K9 := Lib.hid (K.out.after D)
              have X9 := Lib.hid (X.out.after D)
              have T9 := Lib.hid (ht.out.after D)
              have G9 := Lib.hid (Xx.after b9)
              have RL9 := Lib.hid (RLx.out.after b9)
              clear stx RLx Xx b9 Bx D rL s25 hKS K X ht R1 R2 Y1 Y2 B
              go_wp2_with (first | (refine wpList_load_mid rfl 27 _ rfl w.heap.size 3 rfl [.bool false, .int .i64 0, .bool false, .int .i64 0] _ (Box.mid K9.out 3 _ (mid4 rfl rfl rfl rfl)) Tryd.underlying27 rfl (by kernel_rfl) ?_) | (refine wpList_load_box rfl 37 _ rfl G9.out (by rfl) Tryd.underlying37 rfl (by kernel_rfl) ?_))
              refine (may_any (crl0S l) ⟨vl, vh, va1, vn1, vc1, va2, vn2, vc2, va3, vn3, vc3⟩ w9 (RL9.out.mono (fun _ _ => trivial)) 0 HW.out T9.out).mono ?_
              rintro e wA ⟨rfl, hbA⟩
              rw [HY.out]
              have BA := B9.trans (hbA.mono B9.size)
              have XA := Lib.hid (X9.out.after hbA)
              have GA := Lib.hid (G9.out.after hbA)
              have RLA := Lib.hid (RL9.out.after hbA)
              clear RL9 G9 X9 K9 T9 B9 hbA
              go_wp2_with (first | (refine wpList_load_box rfl 37 _ rfl GA.out (by rfl) Tryd.underlying37 rfl (by kernel_rfl) ?_) | (refine wpList_store_box (cells := #[.bool vl, .bool vh, .slice va1 vn1 vc1, .slice va2 vn2 vc2, .slice va3 vn3 vc3]) rfl 37 _ _ rfl XA.out (by rfl) (by rfl) rfl (by kernel_rfl) (by simp [Value.oneCell']) ?_; intro uE XE stE))
              have BE := stE.below w.heap.size w (by omega) BA
              have RE := (RLA.out.keep (w' := uE) (fun b hb => stE.other b hb.1.2)).mono (ok' := fun b => w.heap.size ≤ b) (fun _ h => h.1.1)
              exact bodyPost_ret (v := .tuple #[.agg #[.bool vl, .bool vh, .slice va1 vn1 vc1, .slice va2 vn2 vc2, .slice va3 vn3 vc3], .int .i64 0]) (box_result2 (p := 2) (q := 3) rfl _ _ (by rfl) XE Tryd.underlying37 rfl (by kernel_rfl)) rfl ⟨⟨vl, vh, va1, vn1, vc1, va2, vn2, vc2, va3, vn3, vc3⟩, rfl, RE, BE⟩
            · intro z21 b21 s21
              replace rA := rA.after b21
              replace rB := rB.after b21
              replace rM := rM.after b21
              replace rW := rW.after b21
              refine wp_alloc_new 37 rfl #[.bool false, .bool false, .slice none 0 0, .slice none 0 0, .slice none 0 0] (by intro w; simp [go_sem]) ?_
              intro g10 w26 rG lg0 c26
              have lg : q3.heap.size ≤ g10 := Nat.le_trans s21.2.2.2.size lg0
              replace rA := ((rA.there).mono (ok' := (fun b => (w.heap.size ≤ b ∧ b ≠ w.heap.size + 1) ∧ b ≠ g10)) (fun b hb => ⟨hb.1, by have := hb.2; omega⟩)).after c26
              replace rB := ((rB.there).mono (ok' := (fun b => (w.heap.size ≤ b ∧ b ≠ w.heap.size + 1) ∧ b ≠ g10)) (fun b hb => ⟨hb.1, by have := hb.2; omega⟩)).after c26
              replace rM := ((rM.there).mono (ok' := (fun b => (w.heap.size ≤ b ∧ b ≠ w.heap.size + 1) ∧ b ≠ g10)) (fun b hb => ⟨hb.1, by have := hb.2; omega⟩)).after c26
              replace rW := rW.after c26
              refine ⟨hKS _ _ s21 c26, ?_⟩
              simp only [Act.put, List.setIfInBounds_toArray, List.set_cons_zero, List.set_cons_succ]
              clear lg0
              refine wpW_one 7 rfl (by kernel_rfl) rfl rfl ?_
              intro z27 b27 s27
              replace rA := rA.after b27
              replace rB := rB.after b27
              replace rM := rM.after b27
              replace rW := rW.after b27
              replace rG := rG.after b27
              refine wp_callR 39 #[.slice (some ⟨_, 0, none⟩) 3 3] (by simp [go_sem]) _ (listI_any (fun b => (w.heap.size ≤ b ∧ b ≠ w.heap.size + 1) ∧ b ≠ g10) _ 3 3 _ [(.mk false false [] [99, 114, 108] []), .mk true false [] [] [(.mk false false [] [105, 115, 115, 117, 101, 114] []), keyS false l], .mk true false [] [] [(.mk false false [] [99, 97, 110, 99, 101, 108, 101, 100] [])]] z27 rW (by omega) rfl (fun i hi => match i, hi with | 0, _ => rA | 1, _ => rM | 2, _ => (s27.2.1.2.mono (ok' := (fun b => (w.heap.size ≤ b ∧ b ≠ w.heap.size + 1) ∧ b ≠ g10)) (fun b hb => ⟨hb.1, by have := hb.2; omega⟩))) (fun b hb => by have := s27.2.2.1.lt; have := rG.lt; omega)) ?_
              rintro e w28 ⟨vL, rfl, rL, c28⟩
              clear rW
              replace rA := rA.after c28
              replace rB := rB.after c28
              replace rM := rM.after c28
              replace rG := rG.after c28
              refine ⟨_, rfl, hKS _ _ s27 c28, ?_⟩
              simp only [Act.put, List.setIfInBounds_toArray, List.set_cons_zero, List.set_cons_succ]
              refine wpW_write 9 rfl (by kernel_rfl) (by kernel_rfl) rfl ?_
              intro z29 b29 s29
              replace rA := rA.after b29
              replace rB := rB.after b29
              replace rM := rM.after b29
              replace rG := rG.after b29
              replace rL := rL.after b29
              obtain ⟨vl, vh, va1, vn1, vc1, va2, vn2, vc2, va3, vn3, vc3⟩ := vL
              refine wp_store_box 37 _ _ rfl rG (by rfl) (by rfl) rfl (by kernel_rfl) (by simp [Value.oneCell']) (cells := #[.bool vl, .bool vh, .slice va1 vn1 vc1, .slice va2 vn2 vc2, .slice va3 vn3 vc3]) ?_
              intro zx Xx stx
              have RLx := Lib.hid (rL.keep (w' := zx) (fun b hb => stx.other b hb.2))
              have Bx := stx.below q3.heap.size q3 lg s29.2.2.2
              simp only [Act.put, List.setIfInBounds_toArray, List.set_cons_zero, List.set_cons_succ]
              refine wpU_done rfl (fun w9 b9 _ => ?_)
              have D := Bx.trans (b9.mono Bx.size)
              have B9 := B.trans (D.mono B.size)
              have K9 := Lib.hid (K.out.after D)
              have X9 := Lib.hid (X.out.after D)
              have T9 := Lib.hid (ht.out.after D)
              have G9 := Lib.hid (Xx.after b9)
              have RL9 := Lib.hid (RLx.out.after b9)
              clear stx RLx Xx b9 Bx D rL s29 hKS K X ht R1 R2 Y1 Y2 B
              go_wp2_with (first | (refine wpList_load_mid rfl 27 _ rfl w.heap.size 3 rfl [.bool false, .int .i64 0, .bool false, .int .i64 0] _ (Box.mid K9.out 3 _ (mid4 rfl rfl rfl rfl)) Tryd.underlying27 rfl (by kernel_rfl) ?_) | (refine wpList_load_box rfl 37 _ rfl G9.out (by rfl) Tryd.underlying37 rfl (by kernel_rfl) ?_))
              refine (may_any (crl0S l) ⟨vl, vh, va1, vn1, vc1, va2, vn2, vc2, va3, vn3, vc3⟩ w9 (RL9.out.mono (fun _ _ => trivial)) 0 HW.out T9.out).mono ?_
              rintro e wA ⟨rfl, hbA⟩
              rw [HY.out]
              have BA := B9.trans (hbA.mono B9.size)
              have XA := Lib.hid (X9.out.after hbA)
              have GA := Lib.hid (G9.out.after hbA)
              have RLA := Lib.hid (RL9.out.after hbA)
              clear RL9 G9 X9 K9 T9 B9 hbA
              go_wp2_with (first | (refine wpList_load_box rfl 37 _ rfl GA.out (by rfl) Tryd.underlying37 rfl (by kernel_rfl) ?_) | (refine wpList_store_box (cells := #[.bool vl, .bool vh, .slice va1 vn1 vc1, .slice va2 vn2 vc2, .slice va3 vn3 vc3]) rfl 37 _ _ rfl XA.out (by rfl) (by rfl) rfl (by kernel_rfl) (by simp [Value.oneCell']) ?_; intro uE XE stE))
              have BE := stE.below w.heap.size w (by omega) BA
              have RE := (RLA.out.keep (w' := uE) (fun b hb => stE.other b hb.1.2)).mono (ok' := fun b => w.heap.size ≤ b) (fun _ h => h.1.1)
              exact bodyPost_ret (v := .tuple #[.agg #[.bool vl, .bool vh, .slice va1 vn1 vc1, .slice va2 vn2 vc2, .slice va3 vn3 vc3], .int .i64 0]) (box_result2 (p := 2) (q := 3) rfl _ _ (by rfl) XE Tryd.underlying37 rfl (by kernel_rfl)) rfl ⟨⟨vl, vh, va1, vn1, vc1, va2, vn2, vc2, va3, vn3, vc3⟩, rfl, RE, BE⟩
          · intro z19 b19 s19
            replace rA := rA.after b19
            replace rB := rB.after b19
            replace rM := rM.after b19
            refine wp_alloc_new 37 rfl #[.bool false, .bool false, .slice none 0 0, .slice none 0 0, .slice none 0 0] (by intro w; simp [go_sem]) ?_
            intro g10 w30 rG lg0 c30
            have lg : q3.heap.size ≤ g10 := Nat.le_trans s19.2.2.2.size lg0
            replace rA := ((rA.there).mono (ok' := (fun b => (w.heap.size ≤ b ∧ b ≠ w.heap.size + 1) ∧ b ≠ g10)) (fun b hb => ⟨hb.1, by have := hb.2; omega⟩)).after c30
            replace rB := ((rB.there).mono (ok' := (fun b => (w.heap.size ≤ b ∧ b ≠ w.heap.size + 1) ∧ b ≠ g10)) (fun b hb => ⟨hb.1, by have := hb.2; omega⟩)).after c30
            replace rM := ((rM.there).mono (ok' := (fun b => (w.heap.size ≤ b ∧ b ≠ w.heap.size + 1) ∧ b ≠ g10)) (fun b hb => ⟨hb.1, by have := hb.2; omega⟩)).after c30
            refine ⟨hKS _ _ s19 c30, ?_⟩
            simp only [Act.put, List.setIfInBounds_toArray, List.set_cons_zero, List.set_cons_succ]
            clear lg0
            refine wpW_one 6 rfl (by kernel_rfl) rfl rfl ?_
            intro z31 b31 s31
            replace rA := rA.after b31
            replace rB := rB.after b31
            replace rM := rM.after b31
            replace rG := rG.after b31
            refine wp_of_run (.slice (some ⟨z31.heap.size, 0, none⟩) 3 3) (z31.alloc (.cells #[.bool vA.l, .bool vA.h, .slice vA.a1 vA.n1 vA.c1, .slice vA.a2 vA.n2 vA.c2, .slice vA.a3 vA.n3 vA.c3, .bool vM.l, .bool vM.h, .slice vM.a1 vM.n1 vM.c1, .slice vM.a2 vM.n2 vM.c2, .slice vM.a3 vM.n3 vM.c3, .bool (⟨sl, sh, sa1, sn1, sc1, sa2, sn2, sc2, sa3, sn3, sc3⟩ : SV).l, .bool (⟨sl, sh, sa1, sn1, sc1, sa2, sn2, sc2, sa3, sn3, sc3⟩ : SV).h, .slice (⟨sl, sh, sa1, sn1, sc1, sa2, sn2, sc2, sa3, sn3, sc3⟩ : SV).a1 (⟨sl, sh, sa1, sn1, sc1, sa2, sn2, sc2, sa3, sn3, sc3⟩ : SV).n1 (⟨sl, sh, sa1, sn1, sc1, sa2, sn2, sc2, sa3, sn3, sc3⟩ : SV).c1, .slice (⟨sl, sh, sa1, sn1, sc1, sa2, sn2, sc2, sa3, sn3, sc3⟩ : SV).a2 (⟨sl, sh, sa1, sn1, sc1, sa2, sn2, sc2, sa3, sn3, sc3⟩ : SV).n2 (⟨sl, sh, sa1, sn1, sc1, sa2, sn2, sc2, sa3, sn3, sc3⟩ : SV).c2, .slice (⟨sl, sh, sa1, sn1, sc1, sa2, sn2, sc2, sa3, sn3, sc3⟩ : SV).a3 (⟨sl, sh, sa1, sn1, sc1, sa2, sn2, sc2, sa3, sn3, sc3⟩ : SV).n3 (⟨sl, sh, sa1, sn1, sc1, sa2, sn2, sc2, sa3, sn3, sc3⟩ : SV).c3] 37)) (by simp [go_sem, SV.val]) ?_
            have c32 : Below z31.heap.size z31 (z31.alloc (.cells #[.bool vA.l, .bool vA.h, .slice vA.a1 vA.n1 vA.c1, .slice vA.a2 vA.n2 vA.c2, .slice vA.a3 vA.n3 vA.c3, .bool vM.l, .bool vM.h, .slice vM.a1 vM.n1 vM.c1, .slice vM.a2 vM.n2 vM.c2, .slice vM.a3 vM.n3 vM.c3, .bool (⟨sl, sh, sa1, sn1, sc1, sa2, sn2, sc2, sa3, sn3, sc3⟩ : SV).l, .bool (⟨sl, sh, sa1, sn1, sc1, sa2, sn2, sc2, sa3, sn3, sc3⟩ : SV).h, .slice (⟨sl, sh, sa1, sn1, sc1, sa2, sn2, sc2, sa3, sn3, sc3⟩ : SV).a1 (⟨sl, sh, sa1, sn1, sc1, sa2, sn2, sc2, sa3, sn3, sc3⟩ : SV).n1 (⟨sl, sh, sa1, sn1, sc1, sa2, sn2, sc2, sa3, sn3, sc3⟩ : SV).c1, .slice (⟨sl, sh, sa1, sn1, sc1, sa2, sn2, sc2, sa3, sn3, sc3⟩ : SV).a2 (⟨sl, sh, sa1, sn1, sc1, sa2, sn2, sc2, sa3, sn3, sc3⟩ : SV).n2 (⟨sl, sh, sa1, sn1, sc1, sa2, sn2, sc2, sa3, sn3, sc3⟩ : SV).c2, .slice (⟨sl, sh, sa1, sn1, sc1, sa2, sn2, sc2, sa3, sn3, sc3⟩ : SV).a3 (⟨sl, sh, sa1, sn1, sc1, sa2, sn2, sc2, sa3, sn3, sc3⟩ : SV).n3 (⟨sl, sh, sa1, sn1, sc1, sa2, sn2, sc2, sa3, sn3, sc3⟩ : SV).c3] 37)) := (Below.refl _ _).alloc (Nat.le_refl _) _
            have rW := row_three z31 vA vM (⟨sl, sh, sa1, sn1, sc1, sa2, sn2, sc2, sa3, sn3, sc3⟩ : SV) 37
            replace rA := rA.after c32
            replace rB := rB.after c32
            replace rM := rM.after c32
            replace rG := rG.after c32
            refine ⟨hKS _ _ s31 c32, ?_⟩
            simp only [Act.put, List.setIfInBounds_toArray, List.set_cons_zero, List.set_cons_succ]
            generalize (z31.alloc (.cells #[.bool vA.l, .bool vA.h, .slice vA.a1 vA.n1 vA.c1, .slice vA.a2 vA.n2 vA.c2, .slice vA.a3 vA.n3 vA.c3, .bool vM.l, .bool vM.h, .slice vM.a1 vM.n1 vM.c1, .slice vM.a2 vM.n2 vM.c2, .slice vM.a3 vM.n3 vM.c3, .bool (⟨sl, sh, sa1, sn1, sc1, sa2, sn2, sc2, sa3, sn3, sc3⟩ : SV).l, .bool (⟨sl, sh, sa1, sn1, sc1, sa2, sn2, sc2, sa3, sn3, sc3⟩ : SV).h, .slice (⟨sl, sh, sa1, sn1, sc1, sa2, sn2, sc2, sa3, sn3, sc3⟩ : SV).a1 (⟨sl, sh, sa1, sn1, sc1, sa2, sn2, sc2, sa3, sn3, sc3⟩ : SV).n1 (⟨sl, sh, sa1, sn1, sc1, sa2, sn2, sc2, sa3, sn3, sc3⟩ : SV).c1, .slice (⟨sl, sh, sa1, sn1, sc1, sa2, sn2, sc2, sa3, sn3, sc3⟩ : SV).a2 (⟨sl, sh, sa1, sn1, sc1, sa2, sn2, sc2, sa3, sn3, sc3⟩ : SV).n2 (⟨sl, sh, sa1, sn1, sc1, sa2, sn2, sc2, sa3, sn3, sc3⟩ : SV).c2, .slice (⟨sl, sh, sa1, sn1, sc1, sa2, sn2, sc2, sa3, sn3, sc3⟩ : SV).a3 (⟨sl, sh, sa1, sn1, sc1, sa2, sn2, sc2, sa3, sn3, sc3⟩ : SV).n3 (⟨sl, sh, sa1, sn1, sc1, sa2, sn2, sc2, sa3, sn3, sc3⟩ : SV).c3] 37)) = y32 at *
            refine wpW_one 7 rfl (by kernel_rfl) rfl rfl ?_
            intro z33 b33 s33
            replace rA := rA.after b33
            replace rB := rB.after b33
            replace rM := rM.after b33
            replace rG := rG.after b33
            replace rW := rW.after b33
            refine wp_callR 39 #[.slice (some ⟨_, 0, none⟩) 3 3] (by simp [go_sem]) _ (listI_any (fun b => (w.heap.size ≤ b ∧ b ≠ w.heap.size + 1) ∧ b ≠ g10) _ 3 3 _ [(.mk false false [] [99, 114, 108] []), .mk true false [] [] [(.mk false false [] [105, 115, 115, 117, 101, 114] []), keyS false l], .mk true false [] [] [(.mk false false [] [99, 97, 110, 99, 101, 108, 101, 100] [])]] z33 rW (by omega) rfl (fun i hi => match i, hi with | 0, _ => rA | 1, _ => rM | 2, _ => (s33.2.1.2.mono (ok' := (fun b => (w.heap.size ≤ b ∧ b ≠ w.heap.size + 1) ∧ b ≠ g10)) (fun b hb => ⟨hb.1, by have := hb.2; omega⟩))) (fun b hb => by have := s33.2.2.1.lt; have := rG.lt; omega)) ?_
            rintro e w34 ⟨vL, rfl, rL, c34⟩
            clear rW
            replace rA := rA.after c34
            replace rB := rB.after c34
            replace rM := rM.after c34
            replace rG := rG.after c34
            refine ⟨_, rfl, hKS _ _ s33 c34, ?_⟩
            simp only [Act.put, List.setIfInBounds_toArray, List.set_cons_zero, List.set_cons_succ]
            refine wpW_write 9 rfl (by kernel_rfl) (by kernel_rfl) rfl ?_
            intro z35 b35 s35
            replace rA := rA.after b35
            replace rB := rB.after b35
            replace rM := rM.after b35
            replace rG := rG.after b35
            replace rL := rL.after b35
            obtain ⟨vl, vh, va1, vn1, vc1, va2, vn2, vc2, va3, vn3, vc3⟩ := vL
            refine wp_store_box 37 _ _ rfl rG (by rfl) (by rfl) rfl (by kernel_rfl) (by simp [Value.oneCell']) (cells := #[.bool vl, .bool vh, .slice va1 vn1 vc1, .slice va2 vn2 vc2, .slice va3 vn3 vc3]) ?_
            intro zx Xx stx
            have RLx := Lib.hid (rL.keep (w' := zx) (fun b hb => stx.other b hb.2))
            have Bx := stx.below q3.heap.size q3 lg s35.2.2.2
            simp only [Act.put, List.setIfInBounds_toArray, List.set_cons_zero, List.set_cons_succ]
            refine wpU_done rfl (fun w9 b9 _ => ?_)
            have D := Bx.trans (b9.mono Bx.size)
            have B9 := B.trans (D.mono B.size)
            have K9 := Lib.hid (K.out.after D)
            have X9 := Lib.hid (X.out.after D)
            have T9 := Lib.hid (ht.out.after D)
            have G9 := Lib.hid (Xx.after b9)
            have RL9 := Lib.hid (RLx.out.after b9)
            clear stx RLx Xx b9 Bx D rL s35 hKS K X ht R1 R2 Y1 Y2 B
            go_wp2_with (first | (refine wpList_load_mid rfl 27 _ rfl w.heap.size 3 rfl [.bool false, .int .i64 0, .bool false, .int .i64 0] _ (Box.mid K9.out 3 _ (mid4 rfl rfl rfl rfl)) Tryd.underlying27 rfl (by kernel_rfl) ?_) | (refine wpList_load_box rfl 37 _ rfl G9.out (by rfl) Tryd.underlying37 rfl (by kernel_rfl) ?_))
            refine (may_any (crl0S l) ⟨vl, vh, va1, vn1, vc1, va2, vn2, vc2, va3, vn3, vc3⟩ w9 (RL9.out.mono (fun _ _ => trivial)) 0 HW.out T9.out).mono ?_
            rintro e wA ⟨rfl, hbA⟩
            rw [HY.out]
            have BA := B9.trans (hbA.mono B9.size)
            have XA := Lib.hid (X9.out.after hbA)
            have GA := Lib.hid (G9.out.after hbA)
            have RLA := Lib.hid (RL9.out.after hbA)
            clear RL9 G9 X9 K9 T9 B9 hbA
            go_wp2_with (first | (refine wpList_load_box rfl 37 _ rfl GA.out (by rfl) Tryd.underlying37 rfl (by kernel_rfl) ?_) | (refine wpList_store_box (cells := #[.bool vl, .bool vh, .slice va1 vn1 vc1, .slice va2 vn2 vc2, .slice va3 vn3 vc3]) rfl 37 _ _ rfl XA.out (by rfl) (by rfl) rfl (by kernel_rfl) (by simp [Value.oneCell']) ?_; intro uE XE stE))
            have BE := stE.below w.heap.size w (by omega) BA
            have RE := (RLA.out.keep (w' := uE) (fun b hb => stE.other b hb.1.2)).mono (ok' := fun b => w.heap.size ≤ b) (fun _ h => h.1.1)
            exact bodyPost_ret (v := .tuple #[.agg #[.bool vl, .bool vh, .slice va1 vn1 vc1, .slice va2 vn2 vc2, .slice va3 vn3 vc3], .int .i64 0]) (box_result2 (p := 2) (q := 3) rfl _ _ (by rfl) XE Tryd.underlying37 rfl (by kernel_rfl)) rfl ⟨⟨vl, vh, va1, vn1, vc1, va2, vn2, vc2, va3, vn3, vc3⟩, rfl, RE, BE⟩
        · intro z17 b17 s17
          replace rA := rA.after b17
          replace rB := rB.after b17
          replace rW := rW.after b17
          refine wp_alloc_new 37 rfl #[.bool false, .bool false, .slice none 0 0, .slice none 0 0, .slice none 0 0] (by intro w; simp [go_sem]) ?_
          intro g10 w36 rG lg0 c36
          have lg : q3.heap.size ≤ g10 := Nat.le_trans s17.2.2.2.size lg0
          replace rA := ((rA.there).mono (ok' := (fun b => (w.heap.size ≤ b ∧ b ≠ w.heap.size + 1) ∧ b ≠ g10)) (fun b hb => ⟨hb.1, by have := hb.2; omega⟩)).after c36
          replace rB := ((rB.there).mono (ok' := (fun b => (w.heap.size ≤ b ∧ b ≠ w.heap.size + 1) ∧ b ≠ g10)) (fun b hb => ⟨hb.1, by have := hb.2; omega⟩)).after c36
          replace rW := rW.after c36
          refine ⟨hKS _ _ s17 c36, ?_⟩
          simp only [Act.put, List.setIfInBounds_toArray, List.set_cons_zero, List.set_cons_succ]
          clear lg0
          refine wpW_one 4 rfl (by kernel_rfl) rfl rfl ?_
          intro z37 b37 s37
          replace rA := rA.after b37
          replace rB := rB.after b37
          replace rW := rW.after b37
          replace rG := rG.after b37
          refine wp_callR 39 #[.slice (some ⟨_, 0, none⟩) 2 2] (by simp [go_sem]) _ (listI_any (fun b => (w.heap.size ≤ b ∧ b ≠ w.heap.size + 1) ∧ b ≠ g10) _ 2 2 _ [(.mk false false [] [105, 115, 115, 117, 101, 114] []), keyS false l] z37 rW (by omega) rfl (fun i hi => match i, hi with | 0, _ => rB | 1, _ => (s37.2.1.1.mono (ok' := (fun b => (w.heap.size ≤ b ∧ b ≠ w.heap.size + 1) ∧ b ≠ g10)) (fun b hb => ⟨hb.1, by have := hb.2; omega⟩))) (fun b hb => by have := s37.2.2.1.lt; have := rG.lt; omega)) ?_
          rintro e w38 ⟨vM, rfl, rM, c38⟩
          clear rW
          replace rA := rA.after c38
          replace rB := rB.after c38
          replace rG := rG.after c38
          refine ⟨_, rfl, hKS _ _ s37 c38, ?_⟩
          simp only [Act.put, List.setIfInBounds_toArray, List.set_cons_zero, List.set_cons_succ]
          refine wpW_one 6 rfl (by kernel_rfl) rfl rfl ?_
          intro z39 b39 s39
          replace rA := rA.after b39
          replace rB := rB.after b39
          replace rG := rG.after b39
          replace rM := rM.after b39
          refine wp_of_run (.slice (some ⟨z39.heap.size, 0, none⟩) 3 3) (z39.alloc (.cells #[.bool vA.l, .bool vA.h, .slice vA.a1 vA.n1 vA.c1, .slice vA.a2 vA.n2 vA.c2, .slice vA.a3 vA.n3 vA.c3, .bool vM.l, .bool vM.h, .slice vM.a1 vM.n1 vM.c1, .slice vM.a2 vM.n2 vM.c2, .slice vM.a3 vM.n3 vM.c3, .bool (⟨sl, sh, sa1, sn1, sc1, sa2, sn2, sc2, sa3, sn3, sc3⟩ : SV).l, .bool (⟨sl, sh, sa1, sn1, sc1, sa2, sn2, sc2, sa3, sn3, sc3⟩ : SV).h, .slice (⟨sl, sh, sa1, sn1, sc1, sa2, sn2, sc2, sa3, sn3, sc3⟩ : SV).a1 (⟨sl, sh, sa1, sn1, sc1, sa2, sn2, sc2, sa3, sn3, sc3⟩ : SV).n1 (⟨sl, sh, sa1, sn1, sc1, sa2, sn2, sc2, sa3, sn3, sc3⟩ : SV).c1, .slice (⟨sl, sh, sa1, sn1, sc1, sa2, sn2, sc2, sa3, sn3, sc3⟩ : SV).a2 (⟨sl, sh, sa1, sn1, sc1, sa2, sn2, sc2, sa3, sn3, sc3⟩ : SV).n2 (⟨sl, sh, sa1, sn1, sc1, sa2, sn2, sc2, sa3, sn3, sc3⟩ : SV).c2, .slice (⟨sl, sh, sa1, sn1, sc1, sa2, sn2, sc2, sa3, sn3, sc3⟩ : SV).a3 (⟨sl, sh, sa1, sn1, sc1, sa2, sn2, sc2, sa3, sn3, sc3⟩ : SV).n3 (⟨sl, sh, sa1, sn1, sc1, sa2, sn2, sc2, sa3, sn3, sc3⟩ : SV).c3] 37)) (by simp [go_sem, SV.val]) ?_
          have c40 : Below z39.heap.size z39 (z39.alloc (.cells #[.bool vA.l, .bool vA.h, .slice vA.a1 vA.n1 vA.c1, .slice vA.a2 vA.n2 vA.c2, .slice vA.a3 vA.n3 vA.c3, .bool vM.l, .bool vM.h, .slice vM.a1 vM.n1 vM.c1, .slice vM.a2 vM.n2 vM.c2, .slice vM.a3 vM.n3 vM.c3, .bool (⟨sl, sh, sa1, sn1, sc1, sa2, sn2, sc2, sa3, sn3, sc3⟩ : SV).l, .bool (⟨sl, sh, sa1, sn1, sc1, sa2, sn2, sc2, sa3, sn3, sc3⟩ : SV).h, .slice (⟨sl, sh, sa1, sn1, sc1, sa2, sn2, sc2, sa3, sn3, sc3⟩ : SV).a1 (⟨sl, sh, sa1, sn1, sc1, sa2, sn2, sc2, sa3, sn3, sc3⟩ : SV).n1 (⟨sl, sh, sa1, sn1, sc1, sa2, sn2, sc2, sa3, sn3, sc3⟩ : SV).c1, .slice (⟨sl, sh, sa1, sn1, sc1, sa2, sn2, sc2, sa3, sn3, sc3⟩ : SV).a2 (⟨sl, sh, sa1, sn1, sc1, sa2, sn2, sc2, sa3, sn3, sc3⟩ : SV).n2 (⟨sl, sh, sa1, sn1, sc1, sa2, sn2, sc2, sa3, sn3, sc3⟩ : SV).c2, .slice (⟨sl, sh, sa1, sn1, sc1, sa2, sn2, sc2, sa3, sn3, sc3⟩ : SV).a3 (⟨sl, sh, sa1, sn1, sc1, sa2, sn2, sc2, sa3, sn3, sc3⟩ : SV).n3 (⟨sl, sh, sa1, sn1, sc1, sa2, sn2, sc2, sa3, sn3, sc3⟩ : SV).c3] 37)) := (Below.refl _ _).alloc (Nat.le_refl _) _
          have rW := row_three z39 vA vM (⟨sl, sh, sa1, sn1, sc1, sa2, sn2, sc2, sa3, sn3, sc3⟩ : SV) 37
          replace rA := rA.after c40
          replace rB := rB.after c40
          replace rG := rG.after c40
          replace rM := rM.after c40
          refine ⟨hKS _ _ s39 c40, ?_⟩
          simp only [Act.put, List.setIfInBounds_toArray, List.set_cons_zero, List.set_cons_succ]
          generalize (z39.alloc (.cells #[.bool vA.l, .bool vA.h, .slice vA.a1 vA.n1 vA.c1, .slice vA.a2 vA.n2 vA.c2, .slice vA.a3 vA.n3 vA.c3, .bool vM.l, .bool vM.h, .slice vM.a1 vM.n1 vM.c1, .slice vM.a2 vM.n2 vM.c2, .slice vM.a3 vM.n3 vM.c3, .bool (⟨sl, sh, sa1, sn1, sc1, sa2, sn2, sc2, sa3, sn3, sc3⟩ : SV).l, .bool (⟨sl, sh, sa1, sn1, sc1, sa2, sn2, sc2, sa3, sn3, sc3⟩ : SV).h, .slice (⟨sl, sh, sa1, sn1, sc1, sa2, sn2, sc2, sa3, sn3, sc3⟩ : SV).a1 (⟨sl, sh, sa1, sn1, sc1, sa2, sn2, sc2, sa3, sn3, sc3⟩ : SV).n1 (⟨sl, sh, sa1, sn1, sc1, sa2, sn2, sc2, sa3, sn3, sc3⟩ : SV).c1, .slice (⟨sl, sh, sa1, sn1, sc1, sa2, sn2, sc2, sa3, sn3, sc3⟩ : SV).a2 (⟨sl, sh, sa1, sn1, sc1, sa2, sn2, sc2, sa3, sn3, sc3⟩ : SV).n2 (⟨sl, sh, sa1, sn1, sc1, sa2, sn2, sc2, sa3, sn3, sc3⟩ : SV).c2, .slice (⟨sl, sh, sa1, sn1, sc1, sa2, sn2, sc2, sa3, sn3, sc3⟩ : SV).a3 (⟨sl, sh, sa1, sn1, sc1, sa2, sn2, sc2, sa3, sn3, sc3⟩ : SV).n3 (⟨sl, sh, sa1, sn1, sc1, sa2, sn2, sc2, sa3, sn3, sc3⟩ : SV).c3] 37)) = y40 at *
          refine wpW_one 7 rfl (by kernel_rfl) rfl rfl ?_
          intro z41 b41 s41
          replace rA := rA.after b41
          replace rB := rB.after b41
          replace rG := rG.after b41
          replace rM := rM.after b41
          replace rW := rW.after b41
          refine wp_callR 39 #[.slice (some ⟨_, 0, none⟩) 3 3] (by simp [go_sem]) _ (listI_any (fun b => (w.heap.size ≤ b ∧ b ≠ w.heap.size + 1) ∧ b ≠ g10) _ 3 3 _ [(.mk false false [] [99, 114, 108] []), .mk true false [] [] [(.mk false false [] [105, 115, 115, 117, 101, 114] []), keyS false l], .mk true false [] [] [(.mk false false [] [99, 97, 110, 99, 101, 108, 101, 100] [])]] z41 rW (by omega) rfl (fun i hi => match i, hi with | 0, _ => rA | 1, _ => rM | 2, _ => (s41.2.1.2.mono (ok' := (fun b => (w.heap.size ≤ b ∧ b ≠ w.heap.size + 1) ∧ b ≠ g10)) (fun b hb => ⟨hb.1, by have := hb.2; omega⟩))) (fun b hb => by have := s41.2.2.1.lt; have := rG.lt; omega)) ?_
          rintro e w42 ⟨vL, rfl, rL, c42⟩
          clear rW
          replace rA := rA.after c42
          replace rB := rB.after c42
          replace rG := rG.after c42
          replace rM := rM.after c42
          refine ⟨_, rfl, hKS _ _ s41 c42, ?_⟩
          simp only [Act.put, List.setIfInBounds_toArray, List.set_cons_zero, List.set_cons_succ]
          refine wpW_write 9 rfl (by kernel_rfl) (by kernel_rfl) rfl ?_
          intro z43 b43 s43
          replace rA := rA.after b43
          replace rB := rB.after b43
          replace rG := rG.after b43
          replace rM := rM.after b43
          replace rL := rL.after b43
          obtain ⟨vl, vh, va1, vn1, vc1, va2, vn2, vc2, va3, vn3, vc3⟩ := vL
          refine wp_store_box 37 _ _ rfl rG (by rfl) (by rfl) rfl (by kernel_rfl) (by simp [Value.oneCell']) (cells := #[.bool vl, .bool vh, .slice va1 vn1 vc1, .slice va2 vn2 vc2, .slice va3 vn3 vc3]) ?_
          intro zx Xx stx
          have RLx := Lib.hid (rL.keep (w' := zx) (fun b hb => stx.other b hb.2))
          have Bx := stx.below q3.heap.size q3 lg s43.2.2.2
          simp only [Act.put, List.setIfInBounds_toArray, List.set_cons_zero, List.set_cons_succ]
          refine wpU_done rfl (fun w9 b9 _ => ?_)
          have D := Bx.trans (b9.mono Bx.size)
          have B9 := B.trans (D.mono B.size)
          have K9 := Lib.hid (K.out.after D)
          have X9 := Lib.hid (X.out.after D)
          have T9 := Lib.hid (ht.out.after D)
          have G9 := Lib.hid (Xx.after b9)
          have RL9 := Lib.hid (RLx.out.after b9)
          clear stx RLx Xx b9 Bx D rL s43 hKS K X ht R1 R2 Y1 Y2 B
          go_wp2_with (first | (refine wpList_load_mid rfl 27 _ rfl w.heap.size 3 rfl [.bool false, .int .i64 0, .bool false, .int .i64 0] _ (Box.mid K9.out 3 _ (mid4 rfl rfl rfl rfl)) Tryd.underlying27 rfl (by kernel_rfl) ?_) | (refine wpList_load_box rfl 37 _ rfl G9.out (by rfl) Tryd.underlying37 rfl (by kernel_rfl) ?_))
          refine (may_any (crl0S l) ⟨vl, vh, va1, vn1, vc1, va2, vn2, vc2, va3, vn3, vc3⟩ w9 (RL9.out.mono (fun _ _ => trivial)) 0 HW.out T9.out).mono ?_
          rintro e wA ⟨rfl, hbA⟩
          rw [HY.out]
          have BA := B9.trans (hbA.mono B9.size)
          have XA := Lib.hid (X9.out.after hbA)
          have GA := Lib.hid (G9.out.after hbA)
          have RLA := Lib.hid (RL9.out.after hbA)
          clear RL9 G9 X9 K9 T9 B9 hbA
          go_wp2_with (first | (refine wpList_load_box rfl 37 _ rfl GA.out (by rfl) Tryd.underlying37 rfl (by kernel_rfl) ?_) | (refine wpList_store_box (cells := #[.bool vl, .bool vh, .slice va1 vn1 vc1, .slice va2 vn2 vc2, .slice va3 vn3 vc3]) rfl 37 _ _ rfl XA.out (by rfl) (by rfl) rfl (by kernel_rfl) (by simp [Value.oneCell']) ?_; intro uE XE stE))
          have BE := stE.below w.heap.size w (by omega) BA
          have RE := (RLA.out.keep (w' := uE) (fun b hb => stE.other b hb.1.2)).mono (ok' := fun b => w.heap.size ≤ b) (fun _ h => h.1.1)
          exact bodyPost_ret (v := .tuple #[.agg #[.bool vl, .bool vh, .slice va1 vn1 vc1, .slice va2 vn2 vc2, .slice va3 vn3 vc3], .int .i64 0]) (box_result2 (p := 2) (q := 3) rfl _ _ (by rfl) XE Tryd.underlying37 rfl (by kernel_rfl)) rfl ⟨⟨vl, vh, va1, vn1, vc1, va2, vn2, vc2, va3, vn3, vc3⟩, rfl, RE, BE⟩
      · intro z15 b15 s15
        replace rA := rA.after b15
        replace rB := rB.after b15
        refine wp_alloc_new 37 rfl #[.bool false, .bool false, .slice none 0 0, .slice none 0 0, .slice none 0 0] (by intro w; simp [go_sem]) ?_
        intro g10 w44 rG lg0 c44
        have lg : q3.heap.size ≤ g10 := Nat.le_trans s15.2.2.2.size lg0
        replace rA := ((rA.there).mono (ok' := (fun b => (w.heap.size ≤ b ∧ b ≠ w.heap.size + 1) ∧ b ≠ g10)) (fun b hb => ⟨hb.1, by have := hb.2; omega⟩)).after c44
        replace rB := ((rB.there).mono (ok' := (fun b => (w.heap.size ≤ b ∧ b ≠ w.heap.size + 1) ∧ b ≠ g10)) (fun b hb => ⟨hb.1, by have := hb.2; omega⟩)).after c44
        refine ⟨hKS _ _ s15 c44, ?_⟩
        simp only [Act.put, List.setIfInBounds_toArray, List.set_cons_zero, List.set_cons_succ]
        clear lg0
        refine wpW_one 3 rfl (by kernel_rfl) rfl rfl ?_
        intro z45 b45 s45
        replace rA := rA.after b45
        replace rB := rB.after b45
        replace rG := rG.after b45
        refine wp_of_run (.slice (some ⟨z45.heap.size, 0, none⟩) 2 2) (z45.alloc (.cells #[.bool vB.l, .bool vB.h, .slice vB.a1 vB.n1 vB.c1, .slice vB.a2 vB.n2 vB.c2, .slice vB.a3 vB.n3 vB.c3, .bool (⟨kl, kh, ka1, kn1, kc1, ka2, kn2, kc2, ka3, kn3, kc3⟩ : SV).l, .bool (⟨kl, kh, ka1, kn1, kc1, ka2, kn2, kc2, ka3, kn3, kc3⟩ : SV).h, .slice (⟨kl, kh, ka1, kn1, kc1, ka2, kn2, kc2, ka3, kn3, kc3⟩ : SV).a1 (⟨kl, kh, ka1, kn1, kc1, ka2, kn2, kc2, ka3, kn3, kc3⟩ : SV).n1 (⟨kl, kh, ka1, kn1, kc1, ka2, kn2, kc2, ka3, kn3, kc3⟩ : SV).c1, .slice (⟨kl, kh, ka1, kn1, kc1, ka2, kn2, kc2, ka3, kn3, kc3⟩ : SV).a2 (⟨kl, kh, ka1, kn1, kc1, ka2, kn2, kc2, ka3, kn3, kc3⟩ : SV).n2 (⟨kl, kh, ka1, kn1, kc1, ka2, kn2, kc2, ka3, kn3, kc3⟩ : SV).c2, .slice (⟨kl, kh, ka1, kn1, kc1, ka2, kn2, kc2, ka3, kn3, kc3⟩ : SV).a3 (⟨kl, kh, ka1, kn1, kc1, ka2, kn2, kc2, ka3, kn3, kc3⟩ : SV).n3 (⟨kl, kh, ka1, kn1, kc1, ka2, kn2, kc2, ka3, kn3, kc3⟩ : SV).c3] 37)) (by simp [go_sem, SV.val]) ?_
        have c46 : Below z45.heap.size z45 (z45.alloc (.cells #[.bool vB.l, .bool vB.h, .slice vB.a1 vB.n1 vB.c1, .slice vB.a2 vB.n2 vB.c2, .slice vB.a3 vB.n3 vB.c3, .bool (⟨kl, kh, ka1, kn1, kc1, ka2, kn2, kc2, ka3, kn3, kc3⟩ : SV).l, .bool (⟨kl, kh, ka1, kn1, kc1, ka2, kn2, kc2, ka3, kn3, kc3⟩ : SV).h, .slice (⟨kl, kh, ka1, kn1, kc1, ka2, kn2, kc2, ka3, kn3, kc3⟩ : SV).a1 (⟨kl, kh, ka1, kn1, kc1, ka2, kn2, kc2, ka3, kn3, kc3⟩ : SV).n1 (⟨kl, kh, ka1, kn1, kc1, ka2, kn2, kc2, ka3, kn3, kc3⟩ : SV).c1, .slice (⟨kl, kh, ka1, kn1, kc1, ka2, kn2, kc2, ka3, kn3, kc3⟩ : SV).a2 (⟨kl, kh, ka1, kn1, kc1, ka2, kn2, kc2, ka3, kn3, kc3⟩ : SV).n2 (⟨kl, kh, ka1, kn1, kc1, ka2, kn2, kc2, ka3, kn3, kc3⟩ : SV).c2, .slice (⟨kl, kh, ka1, kn1, kc1, ka2, kn2, kc2, ka3, kn3, kc3⟩ : SV).a3 (⟨kl, kh, ka1, kn1, kc1, ka2, kn2, kc2, ka3, kn3, kc3⟩ : SV).n3 (⟨kl, kh, ka1, kn1, kc1, ka2, kn2, kc2, ka3, kn3, kc3⟩ : SV).c3] 37)) := (Below.refl _ _).alloc (Nat.le_refl _) _
        have rW := row_two z45 vB (⟨kl, kh, ka1, kn1, kc1, ka2, kn2, kc2, ka3, kn3, kc3⟩ : SV) 37
        replace rA := rA.after c46
        replace rB := rB.after c46
        replace rG := rG.after c46
        refine ⟨hKS _ _ s45 c46, ?_⟩
        simp only [Act.put, List.setIfInBounds_toArray, List.set_cons_zero, List.set_cons_succ]
        generalize (z45.alloc (.cells #[.bool vB.l, .bool vB.h, .slice vB.a1 vB.n1 vB.c1, .slice vB.a2 vB.n2 vB.c2, .slice vB.a3 vB.n3 vB.c3, .bool (⟨kl, kh, ka1, kn1, kc1, ka2, kn2, kc2, ka3, kn3, kc3⟩ : SV).l, .bool (⟨kl, kh, ka1, kn1, kc1, ka2, kn2, kc2, ka3, kn3, kc3⟩ : SV).h, .slice (⟨kl, kh, ka1, kn1, kc1, ka2, kn2, kc2, ka3, kn3, kc3⟩ : SV).a1 (⟨kl, kh, ka1, kn1, kc1, ka2, kn2, kc2, ka3, kn3, kc3⟩ : SV).n1 (⟨kl, kh, ka1, kn1, kc1, ka2, kn2, kc2, ka3, kn3, kc3⟩ : SV).c1, .slice (⟨kl, kh, ka1, kn1, kc1, ka2, kn2, kc2, ka3, kn3, kc3⟩ : SV).a2 (⟨kl, kh, ka1, kn1, kc1, ka2, kn2, kc2, ka3, kn3, kc3⟩ : SV).n2 (⟨kl, kh, ka1, kn1, kc1, ka2, kn2, kc2, ka3, kn3, kc3⟩ : SV).c2, .slice (⟨kl, kh, ka1, kn1, kc1, ka2, kn2, kc2, ka3, kn3, kc3⟩ : SV).a3 (⟨kl, kh, ka1, kn1, kc1, ka2, kn2, kc2, ka3, kn3, kc3⟩ : SV).n3 (⟨kl, kh, ka1, kn1, kc1, ka2, kn2, kc2, ka3, kn3, kc3⟩ : SV).c3] 37)) = y46 at *
        refine wpW_one 4 rfl (by kernel_rfl) rfl rfl ?_
        intro z47 b47 s47
        replace rA := rA.after b47
        replace rB := rB.after b47
        replace rG := rG.after b47
        replace rW := rW.after b47
        refine wp_callR 39 #[.slice (some ⟨_, 0, none⟩) 2 2] (by simp [go_sem]) _ (listI_any (fun b => (w.heap.size ≤ b ∧ b ≠ w.heap.size + 1) ∧ b ≠ g10) _ 2 2 _ [(.mk false false [] [105, 115, 115, 117, 101, 114] []), keyS false l] z47 rW (by omega) rfl (fun i hi => match i, hi with | 0, _ => rB | 1, _ => (s47.2.1.1.mono (ok' := (fun b => (w.heap.size ≤ b ∧ b ≠ w.heap.size + 1) ∧ b ≠ g10)) (fun b hb => ⟨hb.1, by have := hb.2; omega⟩))) (fun b hb => by have := s47.2.2.1.lt; have := rG.lt; omega)) ?_
        rintro e w48 ⟨vM, rfl, rM, c48⟩
        clear rW
        replace rA := rA.after c48
        replace rB := rB.after c48
        replace rG := rG.after c48
        refine ⟨_, rfl, hKS _ _ s47 c48, ?_⟩
        simp only [Act.put, List.setIfInBounds_toArray, List.set_cons_zero, List.set_cons_succ]
        refine wpW_one 6 rfl (by kernel_rfl) rfl rfl ?_
        intro z49 b49 s49
        replace rA := rA.after b49
        replace rB := rB.after b49
        replace rG := rG.after b49
        replace rM := rM.after b49
        refine wp_of_run (.slice (some ⟨z49.heap.size, 0, none⟩) 3 3) (z49.alloc (.cells #[.bool vA.l, .bool vA.h, .slice vA.a1 vA.n1 vA.c1, .slice vA.a2 vA.n2 vA.c2, .slice vA.a3 vA.n3 vA.c3, .bool vM.l, .bool vM.h, .slice vM.a1 vM.n1 vM.c1, .slice vM.a2 vM.n2 vM.c2, .slice vM.a3 vM.n3 vM.c3, .bool (⟨sl, sh, sa1, sn1, sc1, sa2, sn2, sc2, sa3, sn3, sc3⟩ : SV).l, .bool (⟨sl, sh, sa1, sn1, sc1, sa2, sn2, sc2, sa3, sn3, sc3⟩ : SV).h, .slice (⟨sl, sh, sa1, sn1, sc1, sa2, sn2, sc2, sa3, sn3, sc3⟩ : SV).a1 (⟨sl, sh, sa1, sn1, sc1, sa2, sn2, sc2, sa3, sn3, sc3⟩ : SV).n1 (⟨sl, sh, sa1, sn1, sc1, sa2, sn2, sc2, sa3, sn3, sc3⟩ : SV).c1, .slice (⟨sl, sh, sa1, sn1, sc1, sa2, sn2, sc2, sa3, sn3, sc3⟩ : SV).a2 (⟨sl, sh, sa1, sn1, sc1, sa2, sn2, sc2, sa3, sn3, sc3⟩ : SV).n2 (⟨sl, sh, sa1, sn1, sc1, sa2, sn2, sc2, sa3, sn3, sc3⟩ : SV).c2, .slice (⟨sl, sh, sa1, sn1, sc1, sa2, sn2, sc2, sa3, sn3, sc3⟩ : SV).a3 (⟨sl, sh, sa1, sn1, sc1, sa2, sn2, sc2, sa3, sn3, sc3⟩ : SV).n3 (⟨sl, sh, sa1, sn1, sc1, sa2, sn2, sc2, sa3, sn3, sc3⟩ : SV).c3] 37)) (by simp [go_sem, SV.val]) ?_
        have c50 : Below z49.heap.size z49 (z49.alloc (.cells #[.bool vA.l, .bool vA.h, .slice vA.a1 vA.n1 vA.c1, .slice vA.a2 vA.n2 vA.c2, .slice vA.a3 vA.n3 vA.c3, .bool vM.l, .bool vM.h, .slice vM.a1 vM.n1 vM.c1, .slice vM.a2 vM.n2 vM.c2, .slice vM.a3 vM.n3 vM.c3, .bool (⟨sl, sh, sa1, sn1, sc1, sa2, sn2, sc2, sa3, sn3, sc3⟩ : SV).l, .bool (⟨sl, sh, sa1, sn1, sc1, sa2, sn2, sc2, sa3, sn3, sc3⟩ : SV).h, .slice (⟨sl, sh, sa1, sn1, sc1, sa2, sn2, sc2, sa3, sn3, sc3⟩ : SV).a1 (⟨sl, sh, sa1, sn1, sc1, sa2, sn2, sc2, sa3, sn3, sc3⟩ : SV).n1 (⟨sl, sh, sa1, sn1, sc1, sa2, sn2, sc2, sa3, sn3, sc3⟩ : SV).c1, .slice (⟨sl, sh, sa1, sn1, sc1, sa2, sn2, sc2, sa3, sn3, sc3⟩ : SV).a2 (⟨sl, sh, sa1, sn1, sc1, sa2, sn2, sc2, sa3, sn3, sc3⟩ : SV).n2 (⟨sl, sh, sa1, sn1, sc1, sa2, sn2, sc2, sa3, sn3, sc3⟩ : SV).c2, .slice (⟨sl, sh, sa1, sn1, sc1, sa2, sn2, sc2, sa3, sn3, sc3⟩ : SV).a3 (⟨sl, sh, sa1, sn1, sc1, sa2, sn2, sc2, sa3, sn3, sc3⟩ : SV).n3 (⟨sl, sh, sa1, sn1, sc1, sa2, sn2, sc2, sa3, sn3, sc3⟩ : SV).c3] 37)) := (Below.refl _ _).alloc (Nat.le_refl _) _
        have rW := row_three z49 vA vM (⟨sl, sh, sa1, sn1, sc1, sa2, sn2, sc2, sa3, sn3, sc3⟩ : SV) 37
        replace rA := rA.after c50
        replace rB := rB.after c50
        replace rG := rG.after c50
        replace rM := rM.after c50
        refine ⟨hKS _ _ s49 c50, ?_⟩
        simp only [Act.put, List.setIfInBounds_toArray, List.set_cons_zero, List.set_cons_succ]
        generalize (z49.alloc (.cells #[.bool vA.l, .bool vA.h, .slice vA.a1 vA.n1 vA.c1, .slice vA.a2 vA.n2 vA.c2, .slice vA.a3 vA.n3 vA.c3, .bool vM.l, .bool vM.h, .slice vM.a1 vM.n1 vM.c1, .slice vM.a2 vM.n2 vM.c2, .slice vM.a3 vM.n3 vM.c3, .bool (⟨sl, sh, sa1, sn1, sc1, sa2, sn2, sc2, sa3, sn3, sc3⟩ : SV).l, .bool (⟨sl, sh, sa1, sn1, sc1, sa2, sn2, sc2, sa3, sn3, sc3⟩ : SV).h, .slice (⟨sl, sh, sa1, sn1, sc1, sa2, sn2, sc2, sa3, sn3, sc3⟩ : SV).a1 (⟨sl, sh, sa1, sn1, sc1, sa2, sn2, sc2, sa3, sn3, sc3⟩ : SV).n1 (⟨sl, sh, sa1, sn1, sc1, sa2, sn2, sc2, sa3, sn3, sc3⟩ : SV).c1, .slice (⟨sl, sh, sa1, sn1, sc1, sa2, sn2, sc2, sa3, sn3, sc3⟩ : SV).a2 (⟨sl, sh, sa1, sn1, sc1, sa2, sn2, sc2, sa3, sn3, sc3⟩ : SV).n2 (⟨sl, sh, sa1, sn1, sc1, sa2, sn2, sc2, sa3, sn3, sc3⟩ : SV).c2, .slice (⟨sl, sh, sa1, sn1, sc1, sa2, sn2, sc2, sa3, sn3, sc3⟩ : SV).a3 (⟨sl, sh, sa1, sn1, sc1, sa2, sn2, sc2, sa3, sn3, sc3⟩ : SV).n3 (⟨sl, sh, sa1, sn1, sc1, sa2, sn2, sc2, sa3, sn3, sc3⟩ : SV).c3] 37)) = y50 at *
        refine wpW_one 7 rfl (by kernel_rfl) rfl rfl ?_
        intro z51 b51 s51
        replace rA := rA.after b51
        replace rB := rB.after b51
        replace rG := rG.after b51
        replace rM := rM.after b51
        replace rW := rW.after b51
        refine wp_callR 39 #[.slice (some ⟨_, 0, none⟩) 3 3] (by simp [go_sem]) _ (listI_any (fun b => (w.heap.size ≤ b ∧ b ≠ w.heap.size + 1) ∧ b ≠ g10) _ 3 3 _ [(.mk false false [] [99, 114, 108] []), .mk true false [] [] [(.mk false false [] [105, 115, 115, 117, 101, 114] []), keyS false l], .mk true false [] [] [(.mk false false [] [99, 97, 110, 99, 101, 108, 101, 100] [])]] z51 rW (by omega) rfl (fun i hi => match i, hi with | 0, _ => rA | 1, _ => rM | 2, _ => (s51.2.1.2.mono (ok' := (fun b => (w.heap.size ≤ b ∧ b ≠ w.heap.size + 1) ∧ b ≠ g10)) (fun b hb => ⟨hb.1, by have := hb.2; omega⟩))) (fun b hb => by have := s51.2.2.1.lt; have := rG.lt; omega)) ?_
        rintro e w52 ⟨vL, rfl, rL, c52⟩
        clear rW
        replace rA := rA.after c52
        replace rB := rB.after c52
        replace rG := rG.after c52
        replace rM := rM.after c52
        refine ⟨_, rfl, hKS _ _ s51 c52, ?_⟩
        simp only [Act.put, List.setIfInBounds_toArray, List.set_cons_zero, List.set_cons_succ]
        refine wpW_write 9 rfl (by kernel_rfl) (by kernel_rfl) rfl ?_
        intro z53 b53 s53
        replace rA := rA.after b53
        replace rB := rB.after b53
        replace rG := rG.after b53
        replace rM := rM.after b53
        replace rL := rL.after b53
        obtain ⟨vl, vh, va1, vn1, vc1, va2, vn2, vc2, va3, vn3, vc3⟩ := vL
        refine wp_store_box 37 _ _ rfl rG (by rfl) (by rfl) rfl (by kernel_rfl) (by simp [Value.oneCell']) (cells := #[.bool vl, .bool vh, .slice va1 vn1 vc1, .slice va2 vn2 vc2, .slice va3 vn3 vc3]) ?_
        intro zx Xx stx
        have RLx := Lib.hid (rL.keep (w' := zx) (fun b hb => stx.other b hb.2))
        have Bx := stx.below q3.heap.size q3 lg s53.2.2.2
        simp only [Act.put, List.setIfInBounds_toArray, List.set_cons_zero, List.set_cons_succ]
        refine wpU_done rfl (fun w9 b9 _ => ?_)
        have D := Bx.trans (b9.mono Bx.size)
        have B9 := B.trans (D.mono B.size)
        have K9 := Lib.hid (K.out.after D)
        have X9 := Lib.hid (X.out.after D)
        have T9 := Lib.hid (ht.out.after D)
        have G9 := Lib.hid (Xx.after b9)
        have RL9 := Lib.hid (RLx.out.after b9)
        clear stx RLx Xx b9 Bx D rL s53 hKS K X ht R1 R2 Y1 Y2 B
        go_wp2_with (first | (refine wpList_load_mid rfl 27 _ rfl w.heap.size 3 rfl [.bool false, .int .i64 0, .bool false, .int .i64 0] _ (Box.mid K9.out 3 _ (mid4 rfl rfl rfl rfl)) Tryd.underlying27 rfl (by kernel_rfl) ?_) | (refine wpList_load_box rfl 37 _ rfl G9.out (by rfl) Tryd.underlying37 rfl (by kernel_rfl) ?_))
        refine (may_any (crl0S l) ⟨vl, vh, va1, vn1, vc1, va2, vn2, vc2, va3, vn3, vc3⟩ w9 (RL9.out.mono (fun _ _ => trivial)) 0 HW.out T9.out).mono ?_
        rintro e wA ⟨rfl, hbA⟩
        rw [HY.out]
        have BA := B9.trans (hbA.mono B9.size)
        have XA := Lib.hid (X9.out.after hbA)
        have GA := Lib.hid (G9.out.after hbA)
        have RLA := Lib.hid (RL9.out.after hbA)
        clear RL9 G9 X9 K9 T9 B9 hbA
        go_wp2_with (first | (refine wpList_load_box rfl 37 _ rfl GA.out (by rfl) Tryd.underlying37 rfl (by kernel_rfl) ?_) | (refine wpList_store_box (cells := #[.bool vl, .bool vh, .slice va1 vn1 vc1, .slice va2 vn2 vc2, .slice va3 vn3 vc3]) rfl 37 _ _ rfl XA.out (by rfl) (by rfl) rfl (by kernel_rfl) (by simp [Value.oneCell']) ?_; intro uE XE stE))
        have BE := stE.below w.heap.size w (by omega) BA
        have RE := (RLA.out.keep (w' := uE) (fun b hb => stE.other b hb.1.2)).mono (ok' := fun b => w.heap.size ≤ b) (fun _ h => h.1.1)
        exact bodyPost_ret (v := .tuple #[.agg #[.bool vl, .bool vh, .slice va1 vn1 vc1, .slice va2 vn2 vc2, .slice va3 vn3 vc3], .int .i64 0]) (box_result2 (p := 2) (q := 3) rfl _ _ (by rfl) XE Tryd.underlying37 rfl (by kernel_rfl)) rfl ⟨⟨vl, vh, va1, vn1, vc1, va2, vn2, vc2, va3, vn3, vc3⟩, rfl, RE, BE⟩
    · intro z13 b13 s13
      replace rA := rA.after b13
      refine wp_alloc_new 37 rfl #[.bool false, .bool false, .slice none 0 0, .slice none 0 0, .slice none 0 0] (by intro w; simp [go_sem]) ?_
      intro g10 w54 rG lg0 c54
      have lg : q3.heap.size ≤ g10 := Nat.le_trans s13.2.2.2.size lg0
      replace rA := ((rA.there).mono (ok' := (fun b => (w.heap.size ≤ b ∧ b ≠ w.heap.size + 1) ∧ b ≠ g10)) (fun b hb => ⟨hb.1, by have := hb.2; omega⟩)).after c54
      refine ⟨hKS _ _ s13 c54, ?_⟩
      simp only [Act.put, List.setIfInBounds_toArray, List.set_cons_zero, List.set_cons_succ]
      clear lg0
      refine wpW_one 1 rfl (by kernel_rfl) rfl rfl ?_
      intro z55 b55 s55
      replace rA := rA.after b55
      replace rG := rG.after b55
      refine wp_callR 40 #[.string ⟨#[105, 115, 115, 117, 101, 114]⟩] (by simp [go_sem]) _ (atomI_any (fun b => (w.heap.size ≤ b ∧ b ≠ w.heap.size + 1) ∧ b ≠ g10) ⟨#[105, 115, 115, 117, 101, 114]⟩ (by decide) z55 (fun b hb => by have := s55.2.2.1.lt; have := rG.lt; omega)) ?_
      rintro e w56 ⟨vB, rfl, rB, c56⟩
      replace rA := rA.after c56
      replace rG := rG.after c56
      refine ⟨_, rfl, hKS _ _ s55 c56, ?_⟩
      simp only [Act.put, List.setIfInBounds_toArray, List.set_cons_zero, List.set_cons_succ]
      refine wpW_one 3 rfl (by kernel_rfl) rfl rfl ?_
      intro z57 b57 s57
      replace rA := rA.after b57
      replace rG := rG.after b57
      replace rB := rB.after b57
      refine wp_of_run (.slice (some ⟨z57.heap.size, 0, none⟩) 2 2) (z57.alloc (.cells #[.bool vB.l, .bool vB.h, .slice vB.a1 vB.n1 vB.c1, .slice vB.a2 vB.n2 vB.c2, .slice vB.a3 vB.n3 vB.c3, .bool (⟨kl, kh, ka1, kn1, kc1, ka2, kn2, kc2, ka3, kn3, kc3⟩ : SV).l, .bool (⟨kl, kh, ka1, kn1, kc1, ka2, kn2, kc2, ka3, kn3, kc3⟩ : SV).h, .slice (⟨kl, kh, ka1, kn1, kc1, ka2, kn2, kc2, ka3, kn3, kc3⟩ : SV).a1 (⟨kl, kh, ka1, kn1, kc1, ka2, kn2, kc2, ka3, kn3, kc3⟩ : SV).n1 (⟨kl, kh, ka1, kn1, kc1, ka2, kn2, kc2, ka3, kn3, kc3⟩ : SV).c1, .slice (⟨kl, kh, ka1, kn1, kc1, ka2, kn2, kc2, ka3, kn3, kc3⟩ : SV).a2 (⟨kl, kh, ka1, kn1, kc1, ka2, kn2, kc2, ka3, kn3, kc3⟩ : SV).n2 (⟨kl, kh, ka1, kn1, kc1, ka2, kn2, kc2, ka3, kn3, kc3⟩ : SV).c2, .slice (⟨kl, kh, ka1, kn1, kc1, ka2, kn2, kc2, ka3, kn3, kc3⟩ : SV).a3 (⟨kl, kh, ka1, kn1, kc1, ka2, kn2, kc2, ka3, kn3, kc3⟩ : SV).n3 (⟨kl, kh, ka1, kn1, kc1, ka2, kn2, kc2, ka3, kn3, kc3⟩ : SV).c3] 37)) (by simp [go_sem, SV.val]) ?_
      have c58 : Below z57.heap.size z57 (z57.alloc (.cells #[.bool vB.l, .bool vB.h, .slice vB.a1 vB.n1 vB.c1, .slice vB.a2 vB.n2 vB.c2, .slice vB.a3 vB.n3 vB.c3, .bool (⟨kl, kh, ka1, kn1, kc1, ka2, kn2, kc2, ka3, kn3, kc3⟩ : SV).l, .bool (⟨kl, kh, ka1, kn1, kc1, ka2, kn2, kc2, ka3, kn3, kc3⟩ : SV).h, .slice (⟨kl, kh, ka1, kn1, kc1, ka2, kn2, kc2, ka3, kn3, kc3⟩ : SV).a1 (⟨kl, kh, ka1, kn1, kc1, ka2, kn2, kc2, ka3, kn3, kc3⟩ : SV).n1 (⟨kl, kh, ka1, kn1, kc1, ka2, kn2, kc2, ka3, kn3, kc3⟩ : SV).c1, .slice (⟨kl, kh, ka1, kn1, kc1, ka2, kn2, kc2, ka3, kn3, kc3⟩ : SV).a2 (⟨kl, kh, ka1, kn1, kc1, ka2, kn2, kc2, ka3, kn3, kc3⟩ : SV).n2 (⟨kl, kh, ka1, kn1, kc1, ka2, kn2, kc2, ka3, kn3, kc3⟩ : SV).c2, .slice (⟨kl, kh, ka1, kn1, kc1, ka2, kn2, kc2, ka3, kn3, kc3⟩ : SV).a3 (⟨kl, kh, ka1, kn1, kc1, ka2, kn2, kc2, ka3, kn3, kc3⟩ : SV).n3 (⟨kl, kh, ka1, kn1, kc1, ka2, kn2, kc2, ka3, kn3, kc3⟩ : SV).c3] 37)) := (Below.refl _ _).alloc (Nat.le_refl _) _
      have rW := row_two z57 vB (⟨kl, kh, ka1, kn1, kc1, ka2, kn2, kc2, ka3, kn3, kc3⟩ : SV) 37
      replace rA := rA.after c58
      replace rG := rG.after c58
      replace rB := rB.after c58
      refine ⟨hKS _ _ s57 c58, ?_⟩
      simp only [Act.put, List.setIfInBounds_toArray, List.set_cons_zero, List.set_cons_succ]
      generalize (z57.alloc (.cells #[.bool vB.l, .bool vB.h, .slice vB.a1 vB.n1 vB.c1, .slice vB.a2 vB.n2 vB.c2, .slice vB.a3 vB.n3 vB.c3, .bool (⟨kl, kh, ka1, kn1, kc1, ka2, kn2, kc2, ka3, kn3, kc3⟩ : SV).l, .bool (⟨kl, kh, ka1, kn1, kc1, ka2, kn2, kc2, ka3, kn3, kc3⟩ : SV).h, .slice (⟨kl, kh, ka1, kn1, kc1, ka2, kn2, kc2, ka3, kn3, kc3⟩ : SV).a1 (⟨kl, kh, ka1, kn1, kc1, ka2, kn2, kc2, ka3, kn3, kc3⟩ : SV).n1 (⟨kl, kh, ka1, kn1, kc1, ka2, kn2, kc2, ka3, kn3, kc3⟩ : SV).c1, .slice (⟨kl, kh, ka1, kn1, kc1, ka2, kn2, kc2, ka3, kn3, kc3⟩ : SV).a2 (⟨kl, kh, ka1, kn1, kc1, ka2, kn2, kc2, ka3, kn3, kc3⟩ : SV).n2 (⟨kl, kh, ka1, kn1, kc1, ka2, kn2, kc2, ka3, kn3, kc3⟩ : SV).c2, .slice (⟨kl, kh, ka1, kn1, kc1, ka2, kn2, kc2, ka3, kn3, kc3⟩ : SV).a3 (⟨kl, kh, ka1, kn1, kc1, ka2, kn2, kc2, ka3, kn3, kc3⟩ : SV).n3 (⟨kl, kh, ka1, kn1, kc1, ka2, kn2, kc2, ka3, kn3, kc3⟩ : SV).c3] 37)) = y58 at *
      refine wpW_one 4 rfl (by kernel_rfl) rfl rfl ?_
      intro z59 b59 s59
      replace rA := rA.after b59
      replace rG := rG.after b59
      replace rB := rB.after b59
      replace rW := rW.after b59
      refine wp_callR 39 #[.slice (some ⟨_, 0, none⟩) 2 2] (by simp [go_sem]) _ (listI_any (fun b => (w.heap.size ≤ b ∧ b ≠ w.heap.size + 1) ∧ b ≠ g10) _ 2 2 _ [(.mk false false [] [105, 115, 115, 117, 101, 114] []), keyS false l] z59 rW (by omega) rfl (fun i hi => match i, hi with | 0, _ => rB | 1, _ => (s59.2.1.1.mono (ok' := (fun b => (w.heap.size ≤ b ∧ b ≠ w.heap.size + 1) ∧ b ≠ g10)) (fun b hb => ⟨hb.1, by have := hb.2; omega⟩))) (fun b hb => by have := s59.2.2.1.lt; have := rG.lt; omega)) ?_
      rintro e w60 ⟨vM, rfl, rM, c60⟩
      clear rW
      replace rA := rA.after c60
      replace rG := rG.after c60
      replace rB := rB.after c60
      refine ⟨_, rfl, hKS _ _ s59 c60, ?_⟩
      simp only [Act.put, List.setIfInBounds_toArray, List.set_cons_zero, List.set_cons_succ]
      refine wpW_one 6 rfl (by kernel_rfl) rfl rfl ?_
      intro z61 b61 s61
      replace rA := rA.after b61
      replace rG := rG.after b61
      replace rB := rB.after b61
      replace rM := rM.after b61
      refine wp_of_run (.slice (some ⟨z61.heap.size, 0, none⟩) 3 3) (z61.alloc (.cells #[.bool vA.l, .bool vA.h, .slice vA.a1 vA.n1 vA.c1, .slice vA.a2 vA.n2 vA.c2, .slice vA.a3 vA.n3 vA.c3, .bool vM.l, .bool vM.h, .slice vM.a1 vM.n1 vM.c1, .slice vM.a2 vM.n2 vM.c2, .slice vM.a3 vM.n3 vM.c3, .bool (⟨sl, sh, sa1, sn1, sc1, sa2, sn2, sc2, sa3, sn3, sc3⟩ : SV).l, .bool (⟨sl, sh, sa1, sn1, sc1, sa2, sn2, sc2, sa3, sn3, sc3⟩ : SV).h, .slice (⟨sl, sh, sa1, sn1, sc1, sa2, sn2, sc2, sa3, sn3, sc3⟩ : SV).a1 (⟨sl, sh, sa1, sn1, sc1, sa2, sn2, sc2, sa3, sn3, sc3⟩ : SV).n1 (⟨sl, sh, sa1, sn1, sc1, sa2, sn2, sc2, sa3, sn3, sc3⟩ : SV).c1, .slice (⟨sl, sh, sa1, sn1, sc1, sa2, sn2, sc2, sa3, sn3, sc3⟩ : SV).a2 (⟨sl, sh, sa1, sn1, sc1, sa2, sn2, sc2, sa3, sn3, sc3⟩ : SV).n2 (⟨sl, sh, sa1, sn1, sc1, sa2, sn2, sc2, sa3, sn3, sc3⟩ : SV).c2, .slice (⟨sl, sh, sa1, sn1, sc1, sa2, sn2, sc2, sa3, sn3, sc3⟩ : SV).a3 (⟨sl, sh, sa1, sn1, sc1, sa2, sn2, sc2, sa3, sn3, sc3⟩ : SV).n3 (⟨sl, sh, sa1, sn1, sc1, sa2, sn2, sc2, sa3, sn3, sc3⟩ : SV).c3] 37)) (by simp [go_sem, SV.val]) ?_
      have c62 : Below z61.heap.size z61 (z61.alloc (.cells #[.bool vA.l, .bool vA.h, .slice vA.a1 vA.n1 vA.c1, .slice vA.a2 vA.n2 vA.c2, .slice vA.a3 vA.n3 vA.c3, .bool vM.l, .bool vM.h, .slice vM.a1 vM.n1 vM.c1, .slice vM.a2 vM.n2 vM.c2, .slice vM.a3 vM.n3 vM.c3, .bool (⟨sl, sh, sa1, sn1, sc1, sa2, sn2, sc2, sa3, sn3, sc3⟩ : SV).l, .bool (⟨sl, sh, sa1, sn1, sc1, sa2, sn2, sc2, sa3, sn3, sc3⟩ : SV).h, .slice (⟨sl, sh, sa1, sn1, sc1, sa2, sn2, sc2, sa3, sn3, sc3⟩ : SV).a1 (⟨sl, sh, sa1, sn1, sc1, sa2, sn2, sc2, sa3, sn3, sc3⟩ : SV).n1 (⟨sl, sh, sa1, sn1, sc1, sa2, sn2, sc2, sa3, sn3, sc3⟩ : SV).c1, .slice (⟨sl, sh, sa1, sn1, sc1, sa2, sn2, sc2, sa3, sn3, sc3⟩ : SV).a2 (⟨sl, sh, sa1, sn1, sc1, sa2, sn2, sc2, sa3, sn3, sc3⟩ : SV).n2 (⟨sl, sh, sa1, sn1, sc1, sa2, sn2, sc2, sa3, sn3, sc3⟩ : SV).c2, .slice (⟨sl, sh, sa1, sn1, sc1, sa2, sn2, sc2, sa3, sn3, sc3⟩ : SV).a3 (⟨sl, sh, sa1, sn1, sc1, sa2, sn2, sc2, sa3, sn3, sc3⟩ : SV).n3 (⟨sl, sh, sa1, sn1, sc1, sa2, sn2, sc2, sa3, sn3, sc3⟩ : SV).c3] 37)) := (Below.refl _ _).alloc (Nat.le_refl _) _
      have rW := row_three z61 vA vM (⟨sl, sh, sa1, sn1, sc1, sa2, sn2, sc2, sa3, sn3, sc3⟩ : SV) 37
      replace rA := rA.after c62
      replace rG := rG.after c62
      replace rB := rB.after c62
      replace rM := rM.after c62
      refine ⟨hKS _ _ s61 c62, ?_⟩
      simp only [Act.put, List.setIfInBounds_toArray, List.set_cons_zero, List.set_cons_succ]
      generalize (z61.alloc (.cells #[.bool vA.l, .bool vA.h, .slice vA.a1 vA.n1 vA.c1, .slice vA.a2 vA.n2 vA.c2, .slice vA.a3 vA.n3 vA.c3, .bool vM.l, .bool vM.h, .slice vM.a1 vM.n1 vM.c1, .slice vM.a2 vM.n2 vM.c2, .slice vM.a3 vM.n3 vM.c3, .bool (⟨sl, sh, sa1, sn1, sc1, sa2, sn2, sc2, sa3, sn3, sc3⟩ : SV).l, .bool (⟨sl, sh, sa1, sn1, sc1, sa2, sn2, sc2, sa3, sn3, sc3⟩ : SV).h, .slice (⟨sl, sh, sa1, sn1, sc1, sa2, sn2, sc2, sa3, sn3, sc3⟩ : SV).a1 (⟨sl, sh, sa1, sn1, sc1, sa2, sn2, sc2, sa3, sn3, sc3⟩ : SV).n1 (⟨sl, sh, sa1, sn1, sc1, sa2, sn2, sc2, sa3, sn3, sc3⟩ : SV).c1, .slice (⟨sl, sh, sa1, sn1, sc1, sa2, sn2, sc2, sa3, sn3, sc3⟩ : SV).a2 (⟨sl, sh, sa1, sn1, sc1, sa2, sn2, sc2, sa3, sn3, sc3⟩ : SV).n2 (⟨sl, sh, sa1, sn1, sc1, sa2, sn2, sc2, sa3, sn3, sc3⟩ : SV).c2, .slice (⟨sl, sh, sa1, sn1, sc1, sa2, sn2, sc2, sa3, sn3, sc3⟩ : SV).a3 (⟨sl, sh, sa1, sn1, sc1, sa2, sn2, sc2, sa3, sn3, sc3⟩ : SV).n3 (⟨sl, sh, sa1, sn1, sc1, sa2, sn2, sc2, sa3, sn3, sc3⟩ : SV).c3] 37)) = y62 at *
      refine wpW_one 7 rfl (by kernel_rfl) rfl rfl ?_
      intro z63 b63 s63
      replace rA := rA.after b63
      replace rG := rG.after b63
      replace rB := rB.after b63
      replace rM := rM.after b63
      replace rW := rW.after b63
      refine wp_callR 39 #[.slice (some ⟨_, 0, none⟩) 3 3] (by simp [go_sem]) _ (listI_any (fun b => (w.heap.size ≤ b ∧ b ≠ w.heap.size + 1) ∧ b ≠ g10) _ 3 3 _ [(.mk false false [] [99, 114, 108] []), .mk true false [] [] [(.mk false false [] [105, 115, 115, 117, 101, 114] []), keyS false l], .mk true false [] [] [(.mk false false [] [99, 97, 110, 99, 101, 108, 101, 100] [])]] z63 rW (by omega) rfl (fun i hi => match i, hi with | 0, _ => rA | 1, _ => rM | 2, _ => (s63.2.1.2.mono (ok' := (fun b => (w.heap.size ≤ b ∧ b ≠ w.heap.size + 1) ∧ b ≠ g10)) (fun b hb => ⟨hb.1, by have := hb.2; omega⟩))) (fun b hb => by have := s63.2.2.1.lt; have := rG.lt; omega)) ?_
      rintro e w64 ⟨vL, rfl, rL, c64⟩
      clear rW
      replace rA := rA.after c64
      replace rG := rG.after c64
      replace rB := rB.after c64
      replace rM := rM.after c64
      refine ⟨_, rfl, hKS _ _ s63 c64, ?_⟩
      simp only [Act.put, List.setIfInBounds_toArray, List.set_cons_zero, List.set_cons_succ]
      refine wpW_write 9 rfl (by kernel_rfl) (by kernel_rfl) rfl ?_
      intro z65 b65 s65
      replace rA := rA.after b65
      replace rG := rG.after b65
      replace rB := rB.after b65
      replace rM := rM.after b65
      replace rL := rL.after b65
      obtain ⟨vl, vh, va1, vn1, vc1, va2, vn2, vc2, va3, vn3, vc3⟩ := vL
      refine wp_store_box 37 _ _ rfl rG (by rfl) (by rfl) rfl (by kernel_rfl) (by simp [Value.oneCell']) (cells := #[.bool vl, .bool vh, .slice va1 vn1 vc1, .slice va2 vn2 vc2, .slice va3 vn3 vc3]) ?_
      intro zx Xx stx
      have RLx := Lib.hid (rL.keep (w' := zx) (fun b hb => stx.other b hb.2))
      have Bx := stx.below q3.heap.size q3 lg s65.2.2.2
      simp only [Act.put, List.setIfInBounds_toArray, List.set_cons_zero, List.set_cons_succ]
      refine wpU_done rfl (fun w9 b9 _ => ?_)
      have D := Bx.trans (b9.mono Bx.size)
      have B9 := B.trans (D.mono B.size)
      have K9 := Lib.hid (K.out.after D)
      have X9 := Lib.hid (X.out.after D)
      have T9 := Lib.hid (ht.out.after D)
      have G9 := Lib.hid (Xx.after b9)
      have RL9 := Lib.hid (RLx.out.after b9)
      clear stx RLx Xx b9 Bx D rL s65 hKS K X ht R1 R2 Y1 Y2 B
      go_wp2_with (first | (refine wpList_load_mid rfl 27 _ rfl w.heap.size 3 rfl [.bool false, .int .i64 0, .bool false, .int .i64 0] _ (Box.mid K9.out 3 _ (mid4 rfl rfl rfl rfl)) Tryd.underlying27 rfl (by kernel_rfl) ?_) | (refine wpList_load_box rfl 37 _ rfl G9.out (by rfl) Tryd.underlying37 rfl (by kernel_rfl) ?_))
      refine (may_any (crl0S l) ⟨vl, vh, va1, vn1, vc1, va2, vn2, vc2, va3, vn3, vc3⟩ w9 (RL9.out.mono (fun _ _ => trivial)) 0 HW.out T9.out).mono ?_
      rintro e wA ⟨rfl, hbA⟩
      rw [HY.out]
      have BA := B9.trans (hbA.mono B9.size)
      have XA := Lib.hid (X9.out.after hbA)
      have GA := Lib.hid (G9.out.after hbA)
      have RLA := Lib.hid (RL9.out.after hbA)
      clear RL9 G9 X9 K9 T9 B9 hbA
      go_wp2_with (first | (refine wpList_load_box rfl 37 _ rfl GA.out (by rfl) Tryd.underlying37 rfl (by kernel_rfl) ?_) | (refine wpList_store_box (cells := #[.bool vl, .bool vh, .slice va1 vn1 vc1, .slice va2 vn2 vc2, .slice va3 vn3 vc3]) rfl 37 _ _ rfl XA.out (by rfl) (by rfl) rfl (by kernel_rfl) (by simp [Value.oneCell']) ?_; intro uE XE stE))
      have BE := stE.below w.heap.size w (by omega) BA
      have RE := (RLA.out.keep (w' := uE) (fun b hb => stE.other b hb.1.2)).mono (ok' := fun b => w.heap.size ≤ b) (fun _ h => h.1.1)
      exact bodyPost_ret (v := .tuple #[.agg #[.bool vl, .bool vh, .slice va1 vn1 vc1, .slice va2 vn2 vc2, .slice va3 vn3 vc3], .int .i64 0]) (box_result2 (p := 2) (q := 3) rfl _ _ (by rfl) XE Tryd.underlying37 rfl (by kernel_rfl)) rfl ⟨⟨vl, vh, va1, vn1, vc1, va2, vn2, vc2, va3, vn3, vc3⟩, rfl, RE, BE⟩
  · intro z11 b11 s11
    refine wp_alloc_new 37 rfl #[.bool false, .bool false, .slice none 0 0, .slice none 0 0, .slice none 0 0] (by intro w; simp [go_sem]) ?_
    intro g10 w66 rG lg0 c66
    have lg : q3.heap.size ≤ g10 := Nat.le_trans s11.2.2.2.size lg0
    refine ⟨hKS _ _ s11 c66, ?_⟩
    simp only [Act.put, List.setIfInBounds_toArray, List.set_cons_zero, List.set_cons_succ]
    clear lg0
    refine wpW_one 0 rfl (by kernel_rfl) rfl rfl ?_
    intro z67 b67 s67
    replace rG := rG.after b67
    refine wp_callR 40 #[.string ⟨#[99, 114, 108]⟩] (by simp [go_sem]) _ (atomI_any (fun b => (w.heap.size ≤ b ∧ b ≠ w.heap.size + 1) ∧ b ≠ g10) ⟨#[99, 114, 108]⟩ (by decide) z67 (fun b hb => by have := s67.2.2.1.lt; have := rG.lt; omega)) ?_
    rintro e w68 ⟨vA, rfl, rA, c68⟩
    replace rG := rG.after c68
    refine ⟨_, rfl, hKS _ _ s67 c68, ?_⟩
    simp only [Act.put, List.setIfInBounds_toArray, List.set_cons_zero, List.set_cons_succ]
    refine wpW_one 1 rfl (by kernel_rfl) rfl rfl ?_
    intro z69 b69 s69
    replace rG := rG.after b69
    replace rA := rA.after b69
    refine wp_callR 40 #[.string ⟨#[105, 115, 115, 117, 101, 114]⟩] (by simp [go_sem]) _ (atomI_any (fun b => (w.heap.size ≤ b ∧ b ≠ w.heap.size + 1) ∧ b ≠ g10) ⟨#[105, 115, 115, 117, 101, 114]⟩ (by decide) z69 (fun b hb => by have := s69.2.2.1.lt; have := rG.lt; omega)) ?_
    rintro e w70 ⟨vB, rfl, rB, c70⟩
    replace rG := rG.after c70
    replace rA := rA.after c70
    refine ⟨_, rfl, hKS _ _ s69 c70, ?_⟩
    simp only [Act.put, List.setIfInBounds_toArray, List.set_cons_zero, List.set_cons_succ]
    refine wpW_one 3 rfl (by kernel_rfl) rfl rfl ?_
    intro z71 b71 s71
    replace rG := rG.after b71
    replace rA := rA.after b71
    replace rB := rB.after b71
    refine wp_of_run (.slice (some ⟨z71.heap.size, 0, none⟩) 2 2) (z71.alloc (.cells #[.bool vB.l, .bool vB.h, .slice vB.a1 vB.n1 vB.c1, .slice vB.a2 vB.n2 vB.c2, .slice vB.a3 vB.n3 vB.c3, .bool (⟨kl, kh, ka1, kn1, kc1, ka2, kn2, kc2, ka3, kn3, kc3⟩ : SV).l, .bool (⟨kl, kh, ka1, kn1, kc1, ka2, kn2, kc2, ka3, kn3, kc3⟩ : SV).h, .slice (⟨kl, kh, ka1, kn1, kc1, ka2, kn2, kc2, ka3, kn3, kc3⟩ : SV).a1 (⟨kl, kh, ka1, kn1, kc1, ka2, kn2, kc2, ka3, kn3, kc3⟩ : SV).n1 (⟨kl, kh, ka1, kn1, kc1, ka2, kn2, kc2, ka3, kn3, kc3⟩ : SV).c1, .slice (⟨kl, kh, ka1, kn1, kc1, ka2, kn2, kc2, ka3, kn3, kc3⟩ : SV).a2 (⟨kl, kh, ka1, kn1, kc1, ka2, kn2, kc2, ka3, kn3, kc3⟩ : SV).n2 (⟨kl, kh, ka1, kn1, kc1, ka2, kn2, kc2, ka3, kn3, kc3⟩ : SV).c2, .slice (⟨kl, kh, ka1, kn1, kc1, ka2, kn2, kc2, ka3, kn3, kc3⟩ : SV).a3 (⟨kl, kh, ka1, kn1, kc1, ka2, kn2, kc2, ka3, kn3, kc3⟩ : SV).n3 (⟨kl, kh, ka1, kn1, kc1, ka2, kn2, kc2, ka3, kn3, kc3⟩ : SV).c3] 37)) (by simp [go_sem, SV.val]) ?_
    have c72 : Below z71.heap.size z71 (z71.alloc (.cells #[.bool vB.l, .bool vB.h, .slice vB.a1 vB.n1 vB.c1, .slice vB.a2 vB.n2 vB.c2, .slice vB.a3 vB.n3 vB.c3, .bool (⟨kl, kh, ka1, kn1, kc1, ka2, kn2, kc2, ka3, kn3, kc3⟩ : SV).l, .bool (⟨kl, kh, ka1, kn1, kc1, ka2, kn2, kc2, ka3, kn3, kc3⟩ : SV).h, .slice (⟨kl, kh, ka1, kn1, kc1, ka2, kn2, kc2, ka3, kn3, kc3⟩ : SV).a1 (⟨kl, kh, ka1, kn1, kc1, ka2, kn2, kc2, ka3, kn3, kc3⟩ : SV).n1 (⟨kl, kh, ka1, kn1, kc1, ka2, kn2, kc2, ka3, kn3, kc3⟩ : SV).c1, .slice (⟨kl, kh, ka1, kn1, kc1, ka2, kn2, kc2, ka3, kn3, kc3⟩ : SV).a2 (⟨kl, kh, ka1, kn1, kc1, ka2, kn2, kc2, ka3, kn3, kc3⟩ : SV).n2 (⟨kl, kh, ka1, kn1, kc1, ka2, kn2, kc2, ka3, kn3, kc3⟩ : SV).c2, .slice (⟨kl, kh, ka1, kn1, kc1, ka2, kn2, kc2, ka3, kn3, kc3⟩ : SV).a3 (⟨kl, kh, ka1, kn1, kc1, ka2, kn2, kc2, ka3, kn3, kc3⟩ : SV).n3 (⟨kl, kh, ka1, kn1, kc1, ka2, kn2, kc2, ka3, kn3, kc3⟩ : SV).c3] 37)) := (Below.refl _ _).alloc (Nat.le_refl _) _
    have rW := row_two z71 vB (⟨kl, kh, ka1, kn1, kc1, ka2, kn2, kc2, ka3, kn3, kc3⟩ : SV) 37
    replace rG := rG.after c72
    replace rA := rA.after c72
    replace rB := rB.after c72
    refine ⟨hKS _ _ s71 c72, ?_⟩
    simp only [Act.put, List.setIfInBounds_toArray, List.set_cons_zero, List.set_cons_succ]
    generalize (z71.alloc (.cells #[.bool vB.l, .bool vB.h, .slice vB.a1 vB.n1 vB.c1, .slice vB.a2 vB.n2 vB.c2, .slice vB.a3 vB.n3 vB.c3, .bool (⟨kl, kh, ka1, kn1, kc1, ka2, kn2, kc2, ka3, kn3, kc3⟩ : SV).l, .bool (⟨kl, kh, ka1, kn1, kc1, ka2, kn2, kc2, ka3, kn3, kc3⟩ : SV).h, .slice (⟨kl, kh, ka1, kn1, kc1, ka2, kn2, kc2, ka3, kn3, kc3⟩ : SV).a1 (⟨kl, kh, ka1, kn1, kc1, ka2, kn2, kc2, ka3, kn3, kc3⟩ : SV).n1 (⟨kl, kh, ka1, kn1, kc1, ka2, kn2, kc2, ka3, kn3, kc3⟩ : SV).c1, .slice (⟨kl, kh, ka1, kn1, kc1, ka2, kn2, kc2, ka3, kn3, kc3⟩ : SV).a2 (⟨kl, kh, ka1, kn1, kc1, ka2, kn2, kc2, ka3, kn3, kc3⟩ : SV).n2 (⟨kl, kh, ka1, kn1, kc1, ka2, kn2, kc2, ka3, kn3, kc3⟩ : SV).c2, .slice (⟨kl, kh, ka1, kn1, kc1, ka2, kn2, kc2, ka3, kn3, kc3⟩ : SV).a3 (⟨kl, kh, ka1, kn1, kc1, ka2, kn2, kc2, ka3, kn3, kc3⟩ : SV).n3 (⟨kl, kh, ka1, kn1, kc1, ka2, kn2, kc2, ka3, kn3, kc3⟩ : SV).c3] 37)) = y72 at *
    refine wpW_one 4 rfl (by kernel_rfl) rfl rfl ?_
    intro z73 b73 s73
    replace rG := rG.after b73
    replace rA := rA.after b73
    replace rB := rB.after b73
    replace rW := rW.after b73
    refine wp_callR 39 #[.slice (some ⟨_, 0, none⟩) 2 2] (by simp [go_sem]) _ (listI_any (fun b => (w.heap.size ≤ b ∧ b ≠ w.heap.size + 1) ∧ b ≠ g10) _ 2 2 _ [(.mk false false [] [105, 115, 115, 117, 101, 114] []), keyS false l] z73 rW (by omega) rfl (fun i hi => match i, hi with | 0, _ => rB | 1, _ => (s73.2.1.1.mono (ok' := (fun b => (w.heap.size ≤ b ∧ b ≠ w.heap.size + 1) ∧ b ≠ g10)) (fun b hb => ⟨hb.1, by have := hb.2; omega⟩))) (fun b hb => by have := s73.2.2.1.lt; have := rG.lt; omega)) ?_
    rintro e w74 ⟨vM, rfl, rM, c74⟩
    clear rW
    replace rG := rG.after c74
    replace rA := rA.after c74
    replace rB := rB.after c74
    refine ⟨_, rfl, hKS _ _ s73 c74, ?_⟩
    simp only [Act.put, List.setIfInBounds_toArray, List.set_cons_zero, List.set_cons_succ]
    refine wpW_one 6 rfl (by kernel_rfl) rfl rfl ?_
    intro z75 b75 s75
    replace rG := rG.after b75
    replace rA := rA.after b75
    replace rB := rB.after b75
    replace rM := rM.after b75
    refine wp_of_run (.slice (some ⟨z75.heap.size, 0, none⟩) 3 3) (z75.alloc (.cells #[.bool vA.l, .bool vA.h, .slice vA.a1 vA.n1 vA.c1, .slice vA.a2 vA.n2 vA.c2, .slice vA.a3 vA.n3 vA.c3, .bool vM.l, .bool vM.h, .slice vM.a1 vM.n1 vM.c1, .slice vM.a2 vM.n2 vM.c2, .slice vM.a3 vM.n3 vM.c3, .bool (⟨sl, sh, sa1, sn1, sc1, sa2, sn2, sc2, sa3, sn3, sc3⟩ : SV).l, .bool (⟨sl, sh, sa1, sn1, sc1, sa2, sn2, sc2, sa3, sn3, sc3⟩ : SV).h, .slice (⟨sl, sh, sa1, sn1, sc1, sa2, sn2, sc2, sa3, sn3, sc3⟩ : SV).a1 (⟨sl, sh, sa1, sn1, sc1, sa2, sn2, sc2, sa3, sn3, sc3⟩ : SV).n1 (⟨sl, sh, sa1, sn1, sc1, sa2, sn2, sc2, sa3, sn3, sc3⟩ : SV).c1, .slice (⟨sl, sh, sa1, sn1, sc1, sa2, sn2, sc2, sa3, sn3, sc3⟩ : SV).a2 (⟨sl, sh, sa1, sn1, sc1, sa2, sn2, sc2, sa3, sn3, sc3⟩ : SV).n2 (⟨sl, sh, sa1, sn1, sc1, sa2, sn2, sc2, sa3, sn3, sc3⟩ : SV).c2, .slice (⟨sl, sh, sa1, sn1, sc1, sa2, sn2, sc2, sa3, sn3, sc3⟩ : SV).a3 (⟨sl, sh, sa1, sn1, sc1, sa2, sn2, sc2, sa3, sn3, sc3⟩ : SV).n3 (⟨sl, sh, sa1, sn1, sc1, sa2, sn2, sc2, sa3, sn3, sc3⟩ : SV).c3] 37)) (by simp [go_sem, SV.val]) ?_
    have c76 : Below z75.heap.size z75 (z75.alloc (.cells #[.bool vA.l, .bool vA.h, .slice vA.a1 vA.n1 vA.c1, .slice vA.a2 vA.n2 vA.c2, .slice vA.a3 vA.n3 vA.c3, .bool vM.l, .bool vM.h, .slice vM.a1 vM.n1 vM.c1, .slice vM.a2 vM.n2 vM.c2, .slice vM.a3 vM.n3 vM.c3, .bool (⟨sl, sh, sa1, sn1, sc1, sa2, sn2, sc2, sa3, sn3, sc3⟩ : SV).l, .bool (⟨sl, sh, sa1, sn1, sc1, sa2, sn2, sc2, sa3, sn3, sc3⟩ : SV).h, .slice (⟨sl, sh, sa1, sn1, sc1, sa2, sn2, sc2, sa3, sn3, sc3⟩ : SV).a1 (⟨sl, sh, sa1, sn1, sc1, sa2, sn2, sc2, sa3, sn3, sc3⟩ : SV).n1 (⟨sl, sh, sa1, sn1, sc1, sa2, sn2, sc2, sa3, sn3, sc3⟩ : SV).c1, .slice (⟨sl, sh, sa1, sn1, sc1, sa2, sn2, sc2, sa3, sn3, sc3⟩ : SV).a2 (⟨sl, sh, sa1, sn1, sc1, sa2, sn2, sc2, sa3, sn3, sc3⟩ : SV).n2 (⟨sl, sh, sa1, sn1, sc1, sa2, sn2, sc2, sa3, sn3, sc3⟩ : SV).c2, .slice (⟨sl, sh, sa1, sn1, sc1, sa2, sn2, sc2, sa3, sn3, sc3⟩ : SV).a3 (⟨sl, sh, sa1, sn1, sc1, sa2, sn2, sc2, sa3, sn3, sc3⟩ : SV).n3 (⟨sl, sh, sa1, sn1, sc1, sa2, sn2, sc2, sa3, sn3, sc3⟩ : SV).c3] 37)) := (Below.refl _ _).alloc (Nat.le_refl _) _
    have rW := row_three z75 vA vM (⟨sl, sh, sa1, sn1, sc1, sa2, sn2, sc2, sa3, sn3, sc3⟩ : SV) 37
    replace rG := rG.after c76
    replace rA := rA.after c76
    replace rB := rB.after c76
    replace rM := rM.after c76
    refine ⟨hKS _ _ s75 c76, ?_⟩
    simp only [Act.put, List.setIfInBounds_toArray, List.set_cons_zero, List.set_cons_succ]
    generalize (z75.alloc (.cells #[.bool vA.l, .bool vA.h, .slice vA.a1 vA.n1 vA.c1, .slice vA.a2 vA.n2 vA.c2, .slice vA.a3 vA.n3 vA.c3, .bool vM.l, .bool vM.h, .slice vM.a1 vM.n1 vM.c1, .slice vM.a2 vM.n2 vM.c2, .slice vM.a3 vM.n3 vM.c3, .bool (⟨sl, sh, sa1, sn1, sc1, sa2, sn2, sc2, sa3, sn3, sc3⟩ : SV).l, .bool (⟨sl, sh, sa1, sn1, sc1, sa2, sn2, sc2, sa3, sn3, sc3⟩ : SV).h, .slice (⟨sl, sh, sa1, sn1, sc1, sa2, sn2, sc2, sa3, sn3, sc3⟩ : SV).a1 (⟨sl, sh, sa1, sn1, sc1, sa2, sn2, sc2, sa3, sn3, sc3⟩ : SV).n1 (⟨sl, sh, sa1, sn1, sc1, sa2, sn2, sc2, sa3, sn3, sc3⟩ : SV).c1, .slice (⟨sl, sh, sa1, sn1, sc1, sa2, sn2, sc2, sa3, sn3, sc3⟩ : SV).a2 (⟨sl, sh, sa1, sn1, sc1, sa2, sn2, sc2, sa3, sn3, sc3⟩ : SV).n2 (⟨sl, sh, sa1, sn1, sc1, sa2, sn2, sc2, sa3, sn3, sc3⟩ : SV).c2, .slice (⟨sl, sh, sa1, sn1, sc1, sa2, sn2, sc2, sa3, sn3, sc3⟩ : SV).a3 (⟨sl, sh, sa1, sn1, sc1, sa2, sn2, sc2, sa3, sn3, sc3⟩ : SV).n3 (⟨sl, sh, sa1, sn1, sc1, sa2, sn2, sc2, sa3, sn3, sc3⟩ : SV).c3] 37)) = y76 at *
    refine wpW_one 7 rfl (by kernel_rfl) rfl rfl ?_
    intro z77 b77 s77
    replace rG := rG.after b77
    replace rA := rA.after b77
    replace rB := rB.after b77
    replace rM := rM.after b77
    replace rW := rW.after b77
    refine wp_callR 39 #[.slice (some ⟨_, 0, none⟩) 3 3] (by simp [go_sem]) _ (listI_any (fun b => (w.heap.size ≤ b ∧ b ≠ w.heap.size + 1) ∧ b ≠ g10) _ 3 3 _ [(.mk false false [] [99, 114, 108] []), .mk true false [] [] [(.mk false false [] [105, 115, 115, 117, 101, 114] []), keyS false l], .mk true false [] [] [(.mk false false [] [99, 97, 110, 99, 101, 108, 101, 100] [])]] z77 rW (by omega) rfl (fun i hi => match i, hi with | 0, _ => rA | 1, _ => rM | 2, _ => (s77.2.1.2.mono (ok' := (fun b => (w.heap.size ≤ b ∧ b ≠ w.heap.size + 1) ∧ b ≠ g10)) (fun b hb => ⟨hb.1, by have := hb.2; omega⟩))) (fun b hb => by have := s77.2.2.1.lt; have := rG.lt; omega)) ?_
    rintro e w78 ⟨vL, rfl, rL, c78⟩
    clear rW
    replace rG := rG.after c78
    replace rA := rA.after c78
    replace rB := rB.after c78
    replace rM := rM.after c78
    refine ⟨_, rfl, hKS _ _ s77 c78, ?_⟩
    simp only [Act.put, List.setIfInBounds_toArray, List.set_cons_zero, List.set_cons_succ]
    refine wpW_write 9 rfl (by kernel_rfl) (by kernel_rfl) rfl ?_
    intro z79 b79 s79
    replace rG := rG.after b79
    replace rA := rA.after b79
    replace rB := rB.after b79
    replace rM := rM.after b79
    replace rL := rL.after b79
    obtain ⟨vl, vh, va1, vn1, vc1, va2, vn2, vc2, va3, vn3, vc3⟩ := vL
    refine wp_store_box 37 _ _ rfl rG (by rfl) (by rfl) rfl (by kernel_rfl) (by simp [Value.oneCell']) (cells := #[.bool vl, .bool vh, .slice va1 vn1 vc1, .slice va2 vn2 vc2, .slice va3 vn3 vc3]) ?_
    intro zx Xx stx
    have RLx := Lib.hid (rL.keep (w' := zx) (fun b hb => stx.other b hb.2))
    have Bx := stx.below q3.heap.size q3 lg s79.2.2.2
    simp only [Act.put, List.setIfInBounds_toArray, List.set_cons_zero, List.set_cons_succ]
    refine wpU_done rfl (fun w9 b9 _ => ?_)
    have D := Bx.trans (b9.mono Bx.size)
    have B9 := B.trans (D.mono B.size)
    have K9 := Lib.hid (K.out.after D)
    have X9 := Lib.hid (X.out.after D)
    have T9 := Lib.hid (ht.out.after D)
    have G9 := Lib.hid (Xx.after b9)
    have RL9 := Lib.hid (RLx.out.after b9)
    clear stx RLx Xx b9 Bx D rL s79 hKS K X ht R1 R2 Y1 Y2 B
    go_wp2_with (first | (refine wpList_load_mid rfl 27 _ rfl w.heap.size 3 rfl [.bool false, .int .i64 0, .bool false, .int .i64 0] _ (Box.mid K9.out 3 _ (mid4 rfl rfl rfl rfl)) Tryd.underlying27 rfl (by kernel_rfl) ?_) | (refine wpList_load_box rfl 37 _ rfl G9.out (by rfl) Tryd.underlying37 rfl (by kernel_rfl) ?_))
    refine (may_any (crl0S l) ⟨vl, vh, va1, vn1, vc1, va2, vn2, vc2, va3, vn3, vc3⟩ w9 (RL9.out.mono (fun _ _ => trivial)) 0 HW.out T9.out).mono ?_
    rintro e wA ⟨rfl, hbA⟩
    rw [HY.out]
    have BA := B9.trans (hbA.mono B9.size)
    have XA := Lib.hid (X9.out.after hbA)
    have GA := Lib.hid (G9.out.after hbA)
    have RLA := Lib.hid (RL9.out.after hbA)
    clear RL9 G9 X9 K9 T9 B9 hbA
    go_wp2_with (first | (refine wpList_load_box rfl 37 _ rfl GA.out (by rfl) Tryd.underlying37 rfl (by kernel_rfl) ?_) | (refine wpList_store_box (cells := #[.bool vl, .bool vh, .slice va1 vn1 vc1, .slice va2 vn2 vc2, .slice va3 vn3 vc3]) rfl 37 _ _ rfl XA.out (by rfl) (by rfl) rfl (by kernel_rfl) (by simp [Value.oneCell']) ?_; intro uE XE stE))
    have BE := stE.below w.heap.size w (by omega) BA
    have RE := (RLA.out.keep (w' := uE) (fun b hb => stE.other b hb.1.2)).mono (ok' := fun b => w.heap.size ≤ b) (fun _ h => h.1.1)
    exact bodyPost_ret (v := .tuple #[.agg #[.bool vl, .bool vh, .slice va1 vn1 vc1, .slice va2 vn2 vc2, .slice va3 vn3 vc3], .int .i64 0]) (box_result2 (p := 2) (q := 3) rfl _ _ (by rfl) XE Tryd.underlying37 rfl (by kernel_rfl)) rfl ⟨⟨vl, vh, va1, vn1, vc1, va2, vn2, vc2, va3, vn3, vc3⟩, rfl, RE, BE⟩

end Go.Proofs.YticjhogofoffmaaDoor

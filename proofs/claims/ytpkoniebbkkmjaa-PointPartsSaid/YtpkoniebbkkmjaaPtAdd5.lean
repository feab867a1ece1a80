/- Points: the program's sums, and whether two are the same, in points. -/
import Derived.Test.YtpkoniebbkkmjaaPtAdd4
namespace Go.Proofs.Ytpkoniebbkkmjaa
open Go.RowKit
set_option linter.unusedVariables false
attribute [local irreducible] fi dN xx rtN rtOk pw fa fs fm

/-- limbs that are a point -/
def PtIs (a : PP) (x y z t : L5) : Prop := ∃ X Y Z T : Nat, El x X ∧ El y Y ∧ El z Z ∧ El t T ∧ Rep X Y Z T a
def RetIs (a : PP) (w : World) (e : Ending) (w' : World) : Prop := ∃ x y z t : L5, e = .returned (.agg (pArr x y z t)) ∧ PtIs a x y z t ∧ Below w.heap.size w w'
def RetQ (a : PP) (w : World) (e : Ending) (w' : World) : Prop := ∃ u v n : Nat, e = .returned (.agg (qArr u v n)) ∧ Rep3 u v n a ∧ Below w.heap.size w w'
theorem add0_is (d2 x y z t xb yb zb tb : L5) (a b : PP) (hd2 : El d2 (fa dN dN)) (ha : PtIs a x y z t) (hb : PtIs b xb yb zb tb) (w : World) : Calls Try.prog 45 #[.agg (gArr d2.at), .agg (pArr x y z t), .agg (pArr xb yb zb tb)] w (RetIs (padd a b) w) := by
  obtain ⟨X, Y, Z, T, hx, hy, hz, ht, hr⟩ := ha
  obtain ⟨XB, YB, ZB, TB, hxb, hyb, hzb, htb, hrb⟩ := hb
  refine (ptAdd0_any d2 x y z t xb yb zb tb X Y Z T XB YB ZB TB hd2 hx hy hz ht hxb hyb hzb htb w).mono ?_
  rintro e w' ⟨x3, y3, z3, t3, rfl, h1, h2, h3, h4, hb⟩
  exact ⟨x3, y3, z3, t3, rfl, ⟨_, _, _, _, h1, h2, h3, h4, rep_add hr hrb⟩, hb⟩
theorem neg_is (x y z t : L5) (a : PP) (ha : PtIs a x y z t) (w : World) : Calls Try.prog 17 #[.agg (pArr x y z t)] w (RetIs (pneg a) w) := by
  obtain ⟨X, Y, Z, T, hx, hy, hz, ht, hr⟩ := ha
  refine (ptNeg_any x y z t X T hx ht w).mono ?_
  rintro e w' ⟨rfl, hb⟩
  exact ⟨_, _, _, _, rfl, ⟨_, _, _, _, elS el_zero hx, hy, hz, elS el_zero ht, rep_neg hr⟩, hb⟩
theorem refAdd_is (u v n ub vb nb : Nat) (a b : PP) (ha : Rep3 u v n a) (hb : Rep3 ub vb nb b) (w : World) : Calls Try.prog 16 #[.agg (qArr u v n), .agg (qArr ub vb nb)] w (RetQ (padd a b) w) := by
  refine (refPtAdd_any u v n ub vb nb ⟨ha.lx, ha.ly, ha.lz⟩ ⟨hb.lx, hb.ly, hb.lz⟩ w).mono ?_
  rintro e w' ⟨rfl, hbl⟩
  exact ⟨_, _, _, rfl, rep3_add ha hb, hbl⟩
theorem refNeg_is (u v n : Nat) (a : PP) (ha : Rep3 u v n a) (w : World) : Calls Try.prog 18 #[.agg (qArr u v n)] w (RetQ (pneg a) w) := by
  refine (refPtNeg_any u v n ha.lx w).mono ?_
  rintro e w' ⟨rfl, hbl⟩
  exact ⟨_, _, _, rfl, rep3_neg ha, hbl⟩
theorem bytes_is (x y z t : L5) (a : PP) (ha : PtIs a x y z t) (w : World) : Calls Try.prog 12 #[.agg (pArr x y z t)] w fun e w' => e = .returned (.agg (bts (pbytes a))) ∧ Below w.heap.size w w' := by
  obtain ⟨X, Y, Z, T, hx, hy, hz, ht, hr⟩ := ha
  have := ptBytes_any x y z t X Y Z hx hy hz w
  rwa [rep_bytes hr.toRep3] at this
theorem same7_is (x y z t : L5) (u v n : Nat) (a : PP) (ha : PtIs a x y z t) (hb : Rep3 u v n a) (w : World) : Calls Try.prog 13 #[.agg (pArr x y z t), .agg (qArr u v n)] w fun e w' => e = .returned (.bool true) ∧ Below w.heap.size w w' := by
  obtain ⟨X, Y, Z, T, hx, hy, hz, ht, hr⟩ := ha
  have := same7_any x y z t X Y Z u v n hx hy hz hb.lx hb.ly hb.lz w
  rwa [rep_bytes hr.toRep3, rep_bytes hb, beq_self_eq_true] at this
set_option linter.unusedSimpArgs false in
set_option maxRecDepth 100000 in
set_option maxHeartbeats 20000000 in
theorem add_is (x y z t xb yb zb tb : L5) (a b : PP) (ha : PtIs a x y z t) (hb : PtIs b xb yb zb tb) (w : World) : Calls Try.prog 15 #[.agg (pArr x y z t), .agg (pArr xb yb zb tb)] w (RetIs (padd a b) w) := by
  have HOF := Lib.hid ofA_any
  unfold RetEl at HOF
  have HAD := Lib.hid (fun d2 hd2 w => add0_is d2 x y z t xb yb zb tb a b hd2 ha hb w)
  unfold RetIs at HAD
  clear ha hb
  go_enter Try.func15, Try.ntmps15
  go_upto_region 1 with fail
  have hP : Box (((w.alloc (.cells (pArr x y z t) 29)).alloc (.cells (pArr xb yb zb tb) 29)).alloc (.cells #[.int .u64 0, .int .u64 0, .int .u64 0, .int .u64 0, .int .u64 0, .int .u64 0, .int .u64 0, .int .u64 0, .int .u64 0, .int .u64 0, .int .u64 0, .int .u64 0, .int .u64 0, .int .u64 0, .int .u64 0, .int .u64 0, .int .u64 0, .int .u64 0, .int .u64 0, .int .u64 0] 29)) w.heap.size 29 (pArr x y z t) := (((Box.new w 29 (pArr x y z t)).alloc (.cells (pArr xb yb zb tb) 29)).alloc (.cells #[.int .u64 0, .int .u64 0, .int .u64 0, .int .u64 0, .int .u64 0, .int .u64 0, .int .u64 0, .int .u64 0, .int .u64 0, .int .u64 0, .int .u64 0, .int .u64 0, .int .u64 0, .int .u64 0, .int .u64 0, .int .u64 0, .int .u64 0, .int .u64 0, .int .u64 0, .int .u64 0] 29))
  have lP : w.heap.size ≤ w.heap.size := by omega
  have hQ : Box (((w.alloc (.cells (pArr x y z t) 29)).alloc (.cells (pArr xb yb zb tb) 29)).alloc (.cells #[.int .u64 0, .int .u64 0, .int .u64 0, .int .u64 0, .int .u64 0, .int .u64 0, .int .u64 0, .int .u64 0, .int .u64 0, .int .u64 0, .int .u64 0, .int .u64 0, .int .u64 0, .int .u64 0, .int .u64 0, .int .u64 0, .int .u64 0, .int .u64 0, .int .u64 0, .int .u64 0] 29)) (w.heap.size + 1) 29 (pArr xb yb zb tb) := by
    have := ((Box.new (w.alloc (.cells (pArr x y z t) 29)) 29 (pArr xb yb zb tb)).alloc (.cells #[.int .u64 0, .int .u64 0, .int .u64 0, .int .u64 0, .int .u64 0, .int .u64 0, .int .u64 0, .int .u64 0, .int .u64 0, .int .u64 0, .int .u64 0, .int .u64 0, .int .u64 0, .int .u64 0, .int .u64 0, .int .u64 0, .int .u64 0, .int .u64 0, .int .u64 0, .int .u64 0] 29))
    simp only [World.size_alloc] at this
    exact this
  have lQ : w.heap.size ≤ (w.heap.size + 1) := by omega
  have n_P_Q : w.heap.size ≠ (w.heap.size + 1) := by omega
  have n_Q_P : (w.heap.size + 1) ≠ w.heap.size := by omega
  have hR : Box (((w.alloc (.cells (pArr x y z t) 29)).alloc (.cells (pArr xb yb zb tb) 29)).alloc (.cells #[.int .u64 0, .int .u64 0, .int .u64 0, .int .u64 0, .int .u64 0, .int .u64 0, .int .u64 0, .int .u64 0, .int .u64 0, .int .u64 0, .int .u64 0, .int .u64 0, .int .u64 0, .int .u64 0, .int .u64 0, .int .u64 0, .int .u64 0, .int .u64 0, .int .u64 0, .int .u64 0] 29)) (w.heap.size + 2) 29 #[.int .u64 0, .int .u64 0, .int .u64 0, .int .u64 0, .int .u64 0, .int .u64 0, .int .u64 0, .int .u64 0, .int .u64 0, .int .u64 0, .int .u64 0, .int .u64 0, .int .u64 0, .int .u64 0, .int .u64 0, .int .u64 0, .int .u64 0, .int .u64 0, .int .u64 0, .int .u64 0] := by
    have := (Box.new ((w.alloc (.cells (pArr x y z t) 29)).alloc (.cells (pArr xb yb zb tb) 29)) 29 #[.int .u64 0, .int .u64 0, .int .u64 0, .int .u64 0, .int .u64 0, .int .u64 0, .int .u64 0, .int .u64 0, .int .u64 0, .int .u64 0, .int .u64 0, .int .u64 0, .int .u64 0, .int .u64 0, .int .u64 0, .int .u64 0, .int .u64 0, .int .u64 0, .int .u64 0, .int .u64 0])
    simp only [World.size_alloc, Nat.add_assoc, Nat.reduceAdd] at this
    exact this
  have lR : w.heap.size ≤ (w.heap.size + 2) := by omega
  have n_P_R : w.heap.size ≠ (w.heap.size + 2) := by omega
  have n_R_P : (w.heap.size + 2) ≠ w.heap.size := by omega
  have n_Q_R : (w.heap.size + 1) ≠ (w.heap.size + 2) := by omega
  have n_R_Q : (w.heap.size + 2) ≠ (w.heap.size + 1) := by omega
  have hB : Below w.heap.size w (((w.alloc (.cells (pArr x y z t) 29)).alloc (.cells (pArr xb yb zb tb) 29)).alloc (.cells #[.int .u64 0, .int .u64 0, .int .u64 0, .int .u64 0, .int .u64 0, .int .u64 0, .int .u64 0, .int .u64 0, .int .u64 0, .int .u64 0, .int .u64 0, .int .u64 0, .int .u64 0, .int .u64 0, .int .u64 0, .int .u64 0, .int .u64 0, .int .u64 0, .int .u64 0, .int .u64 0] 29)) := ((((Below.refl w.heap.size w).alloc (by simp; try omega) (.cells (pArr x y z t) 29)).alloc (by simp; try omega) (.cells (pArr xb yb zb tb) 29)).alloc (by simp; try omega) (.cells #[.int .u64 0, .int .u64 0, .int .u64 0, .int .u64 0, .int .u64 0, .int .u64 0, .int .u64 0, .int .u64 0, .int .u64 0, .int .u64 0, .int .u64 0, .int .u64 0, .int .u64 0, .int .u64 0, .int .u64 0, .int .u64 0, .int .u64 0, .int .u64 0, .int .u64 0, .int .u64 0] 29))
  have hS := hB.size
  change Code.wp _ _ _ _ (((w.alloc (.cells (pArr x y z t) 29)).alloc (.cells (pArr xb yb zb tb) 29)).alloc (.cells #[.int .u64 0, .int .u64 0, .int .u64 0, .int .u64 0, .int .u64 0, .int .u64 0, .int .u64 0, .int .u64 0, .int .u64 0, .int .u64 0, .int .u64 0, .int .u64 0, .int .u64 0, .int .u64 0, .int .u64 0, .int .u64 0, .int .u64 0, .int .u64 0, .int .u64 0, .int .u64 0] 29))
  generalize (((w.alloc (.cells (pArr x y z t) 29)).alloc (.cells (pArr xb yb zb tb) 29)).alloc (.cells #[.int .u64 0, .int .u64 0, .int .u64 0, .int .u64 0, .int .u64 0, .int .u64 0, .int .u64 0, .int .u64 0, .int .u64 0, .int .u64 0, .int .u64 0, .int .u64 0, .int .u64 0, .int .u64 0, .int .u64 0, .int .u64 0, .int .u64 0, .int .u64 0, .int .u64 0, .int .u64 0] 29)) = v0 at *
  have hKS : Keeps (fun w' => Box w' w.heap.size 29 ((pArr x y z t)) ∧ Box w' (w.heap.size + 1) 29 ((pArr xb yb zb tb))) := fun w w' h b => ⟨h.1.after b, h.2.after b⟩
  refine wp_region_U (w := v0) (fun w' => Box w' w.heap.size 29 ((pArr x y z t)) ∧ Box w' (w.heap.size + 1) 29 ((pArr xb yb zb tb))) rfl (⟨hP.drew, hQ.drew⟩) ?_
  replace hP := hP.drew
  replace hQ := hQ.drew
  replace hR := hR.drew
  replace hB := hB.drew
  replace hS := Nat.le_trans hS (show v0.heap.size ≤ v0.drew.heap.size from Nat.le_refl _)
  refine wpU_val 1 hKS rfl (by kernel_rfl) (by kernel_rfl) (by kernel_rfl) rfl (fun _ _ _ _ h => h) (.agg ((pArr x y z t))) (fun w' h => run_load_box rfl h.1 (by simp [go_sem]) Try.underlying29 rfl (by rw [pArr_size x y z t]; kernel_rfl)) ?_
  simp only [Act.put, List.setIfInBounds_toArray, List.set_cons_zero, List.set_cons_succ]
  refine wpU_val 2 hKS rfl (by kernel_rfl) (by kernel_rfl) (by kernel_rfl) rfl (fun _ _ _ _ h => h) (.agg ((pArr xb yb zb tb))) (fun w' h => run_load_box rfl h.2 (by simp [go_sem]) Try.underlying29 rfl (by rw [pArr_size xb yb zb tb]; kernel_rfl)) ?_
  simp only [Act.put, List.setIfInBounds_toArray, List.set_cons_zero, List.set_cons_succ]
  refine wpU_one 0 rfl (by kernel_rfl) rfl ?_
  intro v1 bv1 sS
  replace hP := hP.after bv1
  replace hQ := hQ.after bv1
  replace hR := hR.after bv1
  replace hB := hB.trans (bv1.mono hS)
  replace hS := Nat.le_trans hS bv1.size
  clear bv1
  refine wp_callR 44 #[] (by simp [go_sem]) _ (HOF.out _) ?_
  rintro e v2 ⟨d2, rfl, hd2, bv2⟩
  refine ⟨_, rfl, hKS _ _ sS bv2, ?_⟩
  replace sS := hKS _ _ sS bv2
  simp only [Act.put, List.setIfInBounds_toArray, List.set_cons_zero, List.set_cons_succ]
  replace hP := hP.after bv2
  replace hQ := hQ.after bv2
  replace hR := hR.after bv2
  replace hB := hB.trans (bv2.mono hS)
  replace hS := Nat.le_trans hS bv2.size
  clear bv2
  have HD2 := Lib.hid hd2
  clear hd2
  refine wpU_one 3 rfl (by kernel_rfl) rfl ?_
  intro v3 bv3 sS
  replace hP := hP.after bv3
  replace hQ := hQ.after bv3
  replace hR := hR.after bv3
  replace hB := hB.trans (bv3.mono hS)
  replace hS := Nat.le_trans hS bv3.size
  clear bv3
  refine wp_callR 45 #[.agg (gArr d2.at), .agg (pArr x y z t), .agg (pArr xb yb zb tb)] (by simp [go_sem]) _ (HAD.out d2 HD2.out _) ?_
  rintro e v4 ⟨x3, y3, z3, t3, rfl, h3, bv4⟩
  refine ⟨_, rfl, hKS _ _ sS bv4, ?_⟩
  replace sS := hKS _ _ sS bv4
  simp only [Act.put, List.setIfInBounds_toArray, List.set_cons_zero, List.set_cons_succ]
  replace hP := hP.after bv4
  replace hQ := hQ.after bv4
  replace hR := hR.after bv4
  replace hB := hB.trans (bv4.mono hS)
  replace hS := Nat.le_trans hS bv4.size
  clear bv4
  have H3 := Lib.hid h3
  clear h3
  refine wpU_store_box (cells := pArr x3 y3 z3 t3) 4 rfl (by kernel_rfl) rfl 29 (.tmp 4) (.tmp 8) rfl hR (by simp [go_sem]) (by simp [go_sem]) (by rw [pArr_size x3 y3 z3 t3]; rfl) (by rw [pArr_size x3 y3 z3 t3]; kernel_rfl) (pArr_one _ _ _ _) ?_
  intro v5 v6 bv5 sS hR_ stv6
  refine ⟨⟨stv6.box sS.1 n_P_R, stv6.box sS.2 n_Q_R⟩, ?_⟩
  simp only [Act.put]
  replace hP := hP.after bv5
  replace hQ := hQ.after bv5
  replace hR := hR.after bv5
  replace hB := hB.trans (bv5.mono hS)
  replace hS := Nat.le_trans hS bv5.size
  clear bv5
  replace hP := stv6.box hP n_P_R
  replace hQ := stv6.box hQ n_Q_R
  replace hB := stv6.below w.heap.size w lR hB
  replace hS := Nat.le_trans hS (Nat.le_of_eq stv6.size.symm)
  clear hR stv6 sS
  have hR := hR_
  clear hR_
  refine wpU_done (by kernel_rfl) ?_
  intro v7 bv7 sS
  clear hKS sS
  replace hP := hP.after bv7
  replace hQ := hQ.after bv7
  replace hR := hR.after bv7
  replace hB := hB.trans (bv7.mono hS)
  replace hS := Nat.le_trans hS bv7.size
  clear bv7
  obtain ⟨GG, hG⟩ : ∃ GG, GG = pArr x3 y3 z3 t3 := ⟨_, rfl⟩
  rw [← hG] at hR
  have HGS := Lib.hid (show GG.size = 20 by rw [hG]; exact pArr_size x3 y3 z3 t3)
  have HGE := Lib.hid hG
  clear hG
  clear hP hQ
  clear n_P_Q n_Q_P n_P_R n_R_P n_Q_R n_R_Q
  go_wp2_with fail
  exact bodyPost_ret (v := .agg GG) (box_result rfl _ _ (by rfl) hR Try.underlying29 rfl (by rw [HGS.out]; kernel_rfl)) rfl ⟨x3, y3, z3, t3, by rw [HGE.out], H3.out, hB⟩
set_option linter.unusedSimpArgs false in
set_option maxRecDepth 100000 in
set_option maxHeartbeats 20000000 in
theorem ptSame_any (x y z t xb yb zb tb : L5) (X Y Z XB YB ZB : Nat) (hx : El x X) (hy : El y Y) (hz : El z Z) (hxb : El xb XB) (hyb : El yb YB) (hzb : El zb ZB) (w : World) : Calls Try.prog 19 #[.agg (pArr x y z t), .agg (pArr xb yb zb tb)] w fun e w' => e = .returned (.bool (fm X ZB == fm XB Z && fm Y ZB == fm YB Z)) ∧ Below w.heap.size w w' := by
  have M1 := Lib.hid (fun w : World => mul_el hx hzb w)
  have M2 := Lib.hid (fun w : World => mul_el hxb hz w)
  have M3 := Lib.hid (fun w : World => mul_el hy hzb w)
  have M4 := Lib.hid (fun w : World => mul_el hyb hz w)
  have S1 := Lib.hid (fun w : World => same_el (elM hx hzb) (elM hxb hz) w)
  have S2 := Lib.hid (fun w : World => same_el (elM hy hzb) (elM hyb hz) w)
  generalize x.mul zb = m1 at *
  generalize xb.mul z = m2 at *
  generalize y.mul zb = m3 at *
  generalize yb.mul z = m4 at *
  obtain ⟨b1, hb1⟩ : ∃ b, b = (fm X ZB == fm XB Z) := ⟨_, rfl⟩
  obtain ⟨b2, hb2⟩ : ∃ b, b = (fm Y ZB == fm YB Z) := ⟨_, rfl⟩
  rw [← hb1] at S1 ⊢
  rw [← hb2] at S2 ⊢
  clear hb1 hb2 hx hy hz hxb hyb hzb
  go_enter Try.func19, Try.ntmps19
  go_upto_region 1 with fail
  have hP : Box ((w.alloc (.cells (pArr x y z t) 29)).alloc (.cells (pArr xb yb zb tb) 29)) w.heap.size 29 (pArr x y z t) := ((Box.new w 29 (pArr x y z t)).alloc (.cells (pArr xb yb zb tb) 29))
  have lP : w.heap.size ≤ w.heap.size := by omega
  have hQ : Box ((w.alloc (.cells (pArr x y z t) 29)).alloc (.cells (pArr xb yb zb tb) 29)) (w.heap.size + 1) 29 (pArr xb yb zb tb) := by
    have := (Box.new (w.alloc (.cells (pArr x y z t) 29)) 29 (pArr xb yb zb tb))
    simp only [World.size_alloc] at this
    exact this
  have lQ : w.heap.size ≤ (w.heap.size + 1) := by omega
  have n_P_Q : w.heap.size ≠ (w.heap.size + 1) := by omega
  have n_Q_P : (w.heap.size + 1) ≠ w.heap.size := by omega
  have hB : Below w.heap.size w ((w.alloc (.cells (pArr x y z t) 29)).alloc (.cells (pArr xb yb zb tb) 29)) := (((Below.refl w.heap.size w).alloc (by simp; try omega) (.cells (pArr x y z t) 29)).alloc (by simp; try omega) (.cells (pArr xb yb zb tb) 29))
  have hS := hB.size
  change Code.wp _ _ _ _ ((w.alloc (.cells (pArr x y z t) 29)).alloc (.cells (pArr xb yb zb tb) 29))
  generalize ((w.alloc (.cells (pArr x y z t) 29)).alloc (.cells (pArr xb yb zb tb) 29)) = v0 at *
  have hKS : Keeps (fun w' => Box w' w.heap.size 29 ((pArr x y z t)) ∧ Box w' (w.heap.size + 1) 29 ((pArr xb yb zb tb))) := fun w w' h b => ⟨h.1.after b, h.2.after b⟩
  refine wp_region_U (w := v0) (fun w' => Box w' w.heap.size 29 ((pArr x y z t)) ∧ Box w' (w.heap.size + 1) 29 ((pArr xb yb zb tb))) rfl (⟨hP.drew, hQ.drew⟩) ?_
  replace hP := hP.drew
  replace hQ := hQ.drew
  replace hB := hB.drew
  replace hS := Nat.le_trans hS (show v0.heap.size ≤ v0.drew.heap.size from Nat.le_refl _)
  refine wpU_val 0 hKS rfl (by kernel_rfl) (by kernel_rfl) (by kernel_rfl) rfl (fun _ _ _ _ h => h) (.pointer (some ⟨w.heap.size, 0, none⟩)) (fun w' h => by simp [go_sem]) ?_
  simp only [Act.put, List.setIfInBounds_toArray, List.set_cons_zero, List.set_cons_succ]
  refine wpU_val 1 hKS rfl (by kernel_rfl) (by kernel_rfl) (by kernel_rfl) rfl (fun _ _ _ _ h => h) (.agg (gArr x.at)) (fun w' h => run_load_mid rfl (pt_x h.1) (by simp [go_sem]) Try.underlying27 rfl (by rw [gArr_size]; kernel_rfl)) ?_
  simp only [Act.put, List.setIfInBounds_toArray, List.set_cons_zero, List.set_cons_succ]
  refine wpU_val 2 hKS rfl (by kernel_rfl) (by kernel_rfl) (by kernel_rfl) rfl (fun _ _ _ _ h => h) (.pointer (some ⟨(w.heap.size + 1), 10, none⟩)) (fun w' h => by simp [go_sem]) ?_
  simp only [Act.put, List.setIfInBounds_toArray, List.set_cons_zero, List.set_cons_succ]
  refine wpU_val 3 hKS rfl (by kernel_rfl) (by kernel_rfl) (by kernel_rfl) rfl (fun _ _ _ _ h => h) (.agg (gArr zb.at)) (fun w' h => run_load_mid rfl (pt_z h.2) (by simp [go_sem]) Try.underlying27 rfl (by rw [gArr_size]; kernel_rfl)) ?_
  simp only [Act.put, List.setIfInBounds_toArray, List.set_cons_zero, List.set_cons_succ]
  refine wpU_call 4 hKS rfl (by kernel_rfl) (by kernel_rfl) (by kernel_rfl) rfl (fun _ _ _ _ h => h) 30 #[.agg (gArr x.at), .agg (gArr zb.at)] (fun w => by simp [go_sem]) _ (M1.out) ?_
  simp only [Act.put, List.setIfInBounds_toArray, List.set_cons_zero, List.set_cons_succ]
  refine wpU_val 5 hKS rfl (by kernel_rfl) (by kernel_rfl) (by kernel_rfl) rfl (fun _ _ _ _ h => h) (.pointer (some ⟨(w.heap.size + 1), 0, none⟩)) (fun w' h => by simp [go_sem]) ?_
  simp only [Act.put, List.setIfInBounds_toArray, List.set_cons_zero, List.set_cons_succ]
  refine wpU_val 6 hKS rfl (by kernel_rfl) (by kernel_rfl) (by kernel_rfl) rfl (fun _ _ _ _ h => h) (.agg (gArr xb.at)) (fun w' h => run_load_mid rfl (pt_x h.2) (by simp [go_sem]) Try.underlying27 rfl (by rw [gArr_size]; kernel_rfl)) ?_
  simp only [Act.put, List.setIfInBounds_toArray, List.set_cons_zero, List.set_cons_succ]
  refine wpU_val 7 hKS rfl (by kernel_rfl) (by kernel_rfl) (by kernel_rfl) rfl (fun _ _ _ _ h => h) (.pointer (some ⟨w.heap.size, 10, none⟩)) (fun w' h => by simp [go_sem]) ?_
  simp only [Act.put, List.setIfInBounds_toArray, List.set_cons_zero, List.set_cons_succ]
  refine wpU_val 8 hKS rfl (by kernel_rfl) (by kernel_rfl) (by kernel_rfl) rfl (fun _ _ _ _ h => h) (.agg (gArr z.at)) (fun w' h => run_load_mid rfl (pt_z h.1) (by simp [go_sem]) Try.underlying27 rfl (by rw [gArr_size]; kernel_rfl)) ?_
  simp only [Act.put, List.setIfInBounds_toArray, List.set_cons_zero, List.set_cons_succ]
  refine wpU_call 9 hKS rfl (by kernel_rfl) (by kernel_rfl) (by kernel_rfl) rfl (fun _ _ _ _ h => h) 30 #[.agg (gArr xb.at), .agg (gArr z.at)] (fun w => by simp [go_sem]) _ (M2.out) ?_
  simp only [Act.put, List.setIfInBounds_toArray, List.set_cons_zero, List.set_cons_succ]
  refine wpU_call 10 hKS rfl (by kernel_rfl) (by kernel_rfl) (by kernel_rfl) rfl (fun _ _ _ _ h => h) 36 #[.agg (gArr m1.at), .agg (gArr m2.at)] (fun w => by simp [go_sem]) _ (S1.out) ?_
  simp only [Act.put, List.setIfInBounds_toArray, List.set_cons_zero, List.set_cons_succ]
  refine wpU_val 11 hKS rfl (by kernel_rfl) (by kernel_rfl) (by kernel_rfl) rfl (fun _ _ _ _ h => h) (.bool b1) (fun w' h => by simp [go_sem]) ?_
  simp only [Act.put, List.setIfInBounds_toArray, List.set_cons_zero, List.set_cons_succ]
  cases b1 with
  | true =>
    refine wpU_val 12 hKS rfl (by kernel_rfl) (by kernel_rfl) (by kernel_rfl) rfl (fun _ _ _ _ h => h) (.pointer (some ⟨w.heap.size, 5, none⟩)) (fun w' h => by simp [go_sem]) ?_
    simp only [Act.put, List.setIfInBounds_toArray, List.set_cons_zero, List.set_cons_succ]
    refine wpU_val 13 hKS rfl (by kernel_rfl) (by kernel_rfl) (by kernel_rfl) rfl (fun _ _ _ _ h => h) (.agg (gArr y.at)) (fun w' h => run_load_mid rfl (pt_y h.1) (by simp [go_sem]) Try.underlying27 rfl (by rw [gArr_size]; kernel_rfl)) ?_
    simp only [Act.put, List.setIfInBounds_toArray, List.set_cons_zero, List.set_cons_succ]
    refine wpU_val 14 hKS rfl (by kernel_rfl) (by kernel_rfl) (by kernel_rfl) rfl (fun _ _ _ _ h => h) (.pointer (some ⟨(w.heap.size + 1), 10, none⟩)) (fun w' h => by simp [go_sem]) ?_
    simp only [Act.put, List.setIfInBounds_toArray, List.set_cons_zero, List.set_cons_succ]
    refine wpU_val 15 hKS rfl (by kernel_rfl) (by kernel_rfl) (by kernel_rfl) rfl (fun _ _ _ _ h => h) (.agg (gArr zb.at)) (fun w' h => run_load_mid rfl (pt_z h.2) (by simp [go_sem]) Try.underlying27 rfl (by rw [gArr_size]; kernel_rfl)) ?_
    simp only [Act.put, List.setIfInBounds_toArray, List.set_cons_zero, List.set_cons_succ]
    refine wpU_call 16 hKS rfl (by kernel_rfl) (by kernel_rfl) (by kernel_rfl) rfl (fun _ _ _ _ h => h) 30 #[.agg (gArr y.at), .agg (gArr zb.at)] (fun w => by simp [go_sem]) _ (M3.out) ?_
    simp only [Act.put, List.setIfInBounds_toArray, List.set_cons_zero, List.set_cons_succ]
    refine wpU_val 17 hKS rfl (by kernel_rfl) (by kernel_rfl) (by kernel_rfl) rfl (fun _ _ _ _ h => h) (.pointer (some ⟨(w.heap.size + 1), 5, none⟩)) (fun w' h => by simp [go_sem]) ?_
    simp only [Act.put, List.setIfInBounds_toArray, List.set_cons_zero, List.set_cons_succ]
    refine wpU_val 18 hKS rfl (by kernel_rfl) (by kernel_rfl) (by kernel_rfl) rfl (fun _ _ _ _ h => h) (.agg (gArr yb.at)) (fun w' h => run_load_mid rfl (pt_y h.2) (by simp [go_sem]) Try.underlying27 rfl (by rw [gArr_size]; kernel_rfl)) ?_
    simp only [Act.put, List.setIfInBounds_toArray, List.set_cons_zero, List.set_cons_succ]
    refine wpU_val 19 hKS rfl (by kernel_rfl) (by kernel_rfl) (by kernel_rfl) rfl (fun _ _ _ _ h => h) (.pointer (some ⟨w.heap.size, 10, none⟩)) (fun w' h => by simp [go_sem]) ?_
    simp only [Act.put, List.setIfInBounds_toArray, List.set_cons_zero, List.set_cons_succ]
    refine wpU_val 20 hKS rfl (by kernel_rfl) (by kernel_rfl) (by kernel_rfl) rfl (fun _ _ _ _ h => h) (.agg (gArr z.at)) (fun w' h => run_load_mid rfl (pt_z h.1) (by simp [go_sem]) Try.underlying27 rfl (by rw [gArr_size]; kernel_rfl)) ?_
    simp only [Act.put, List.setIfInBounds_toArray, List.set_cons_zero, List.set_cons_succ]
    refine wpU_call 21 hKS rfl (by kernel_rfl) (by kernel_rfl) (by kernel_rfl) rfl (fun _ _ _ _ h => h) 30 #[.agg (gArr yb.at), .agg (gArr z.at)] (fun w => by simp [go_sem]) _ (M4.out) ?_
    simp only [Act.put, List.setIfInBounds_toArray, List.set_cons_zero, List.set_cons_succ]
    refine wpU_call 22 hKS rfl (by kernel_rfl) (by kernel_rfl) (by kernel_rfl) rfl (fun _ _ _ _ h => h) 36 #[.agg (gArr m3.at), .agg (gArr m4.at)] (fun w => by simp [go_sem]) _ (S2.out) ?_
    simp only [Act.put, List.setIfInBounds_toArray, List.set_cons_zero, List.set_cons_succ]
    refine wpU_val 23 hKS rfl (by kernel_rfl) (by kernel_rfl) (by kernel_rfl) rfl (fun _ _ _ _ h => h) (.bool b2) (fun w' h => by simp [go_sem]) ?_
    simp only [Act.put, List.setIfInBounds_toArray, List.set_cons_zero, List.set_cons_succ]
    refine wpU_val 24 hKS rfl (by kernel_rfl) (by kernel_rfl) (by kernel_rfl) rfl (fun _ _ _ _ h => h) (.bool b2) (fun w' h => by simp [go_sem]) ?_
    simp only [Act.put, List.setIfInBounds_toArray, List.set_cons_zero, List.set_cons_succ]
    refine wpU_done (by kernel_rfl) ?_
    intro v1 bv1 sS
    clear hKS sS
    replace hP := hP.after bv1
    replace hQ := hQ.after bv1
    replace hB := hB.trans (bv1.mono hS)
    replace hS := Nat.le_trans hS bv1.size
    clear bv1
    clear hP hQ
    go_wp2_with fail
    go_ret
    exact ⟨rfl, hB⟩
  | false =>
    refine wpU_skip 12 hKS rfl (by kernel_rfl) (by kernel_rfl) (by kernel_rfl) rfl (fun _ _ _ _ h => h) ?_
    simp only [Act.put, List.setIfInBounds_toArray, List.set_cons_zero, List.set_cons_succ]
    refine wpU_skip 13 hKS rfl (by kernel_rfl) (by kernel_rfl) (by kernel_rfl) rfl (fun _ _ _ _ h => h) ?_
    simp only [Act.put, List.setIfInBounds_toArray, List.set_cons_zero, List.set_cons_succ]
    refine wpU_skip 14 hKS rfl (by kernel_rfl) (by kernel_rfl) (by kernel_rfl) rfl (fun _ _ _ _ h => h) ?_
    simp only [Act.put, List.setIfInBounds_toArray, List.set_cons_zero, List.set_cons_succ]
    refine wpU_skip 15 hKS rfl (by kernel_rfl) (by kernel_rfl) (by kernel_rfl) rfl (fun _ _ _ _ h => h) ?_
    simp only [Act.put, List.setIfInBounds_toArray, List.set_cons_zero, List.set_cons_succ]
    refine wpU_skip 16 hKS rfl (by kernel_rfl) (by kernel_rfl) (by kernel_rfl) rfl (fun _ _ _ _ h => h) ?_
    simp only [Act.put, List.setIfInBounds_toArray, List.set_cons_zero, List.set_cons_succ]
    refine wpU_skip 17 hKS rfl (by kernel_rfl) (by kernel_rfl) (by kernel_rfl) rfl (fun _ _ _ _ h => h) ?_
    simp only [Act.put, List.setIfInBounds_toArray, List.set_cons_zero, List.set_cons_succ]
    refine wpU_skip 18 hKS rfl (by kernel_rfl) (by kernel_rfl) (by kernel_rfl) rfl (fun _ _ _ _ h => h) ?_
    simp only [Act.put, List.setIfInBounds_toArray, List.set_cons_zero, List.set_cons_succ]
    refine wpU_skip 19 hKS rfl (by kernel_rfl) (by kernel_rfl) (by kernel_rfl) rfl (fun _ _ _ _ h => h) ?_
    simp only [Act.put, List.setIfInBounds_toArray, List.set_cons_zero, List.set_cons_succ]
    refine wpU_skip 20 hKS rfl (by kernel_rfl) (by kernel_rfl) (by kernel_rfl) rfl (fun _ _ _ _ h => h) ?_
    simp only [Act.put, List.setIfInBounds_toArray, List.set_cons_zero, List.set_cons_succ]
    refine wpU_skip 21 hKS rfl (by kernel_rfl) (by kernel_rfl) (by kernel_rfl) rfl (fun _ _ _ _ h => h) ?_
    simp only [Act.put, List.setIfInBounds_toArray, List.set_cons_zero, List.set_cons_succ]
    refine wpU_skip 22 hKS rfl (by kernel_rfl) (by kernel_rfl) (by kernel_rfl) rfl (fun _ _ _ _ h => h) ?_
    simp only [Act.put, List.setIfInBounds_toArray, List.set_cons_zero, List.set_cons_succ]
    refine wpU_val 23 hKS rfl (by kernel_rfl) (by kernel_rfl) (by kernel_rfl) rfl (fun _ _ _ _ h => h) (.bool false) (fun w' h => by simp [go_sem]) ?_
    simp only [Act.put, List.setIfInBounds_toArray, List.set_cons_zero, List.set_cons_succ]
    refine wpU_val 24 hKS rfl (by kernel_rfl) (by kernel_rfl) (by kernel_rfl) rfl (fun _ _ _ _ h => h) (.bool false) (fun w' h => by simp [go_sem]) ?_
    simp only [Act.put, List.setIfInBounds_toArray, List.set_cons_zero, List.set_cons_succ]
    refine wpU_done (by kernel_rfl) ?_
    intro v1 bv1 sS
    clear hKS sS
    replace hP := hP.after bv1
    replace hQ := hQ.after bv1
    replace hB := hB.trans (bv1.mono hS)
    replace hS := Nat.le_trans hS bv1.size
    clear bv1
    clear hP hQ
    go_wp2_with fail
    go_ret
    exact ⟨rfl, hB⟩
theorem same_is (x y z t xb yb zb tb : L5) (a b : PP) (ha : PtIs a x y z t) (hb : PtIs b xb yb zb tb) (w : World) : Calls Try.prog 19 #[.agg (pArr x y z t), .agg (pArr xb yb zb tb)] w fun e w' => e = .returned (.bool (a.x == b.x && a.y == b.y)) ∧ Below w.heap.size w w' := by
  obtain ⟨X, Y, Z, T, hx, hy, hz, ht, hr⟩ := ha
  obtain ⟨XB, YB, ZB, TB, hxb, hyb, hzb, htb, hrb⟩ := hb
  have h1 := ptSame_any x y z t xb yb zb tb X Y Z XB YB ZB hx hy hz hxb hyb hzb w
  have h2 := rep_same hr.toRep3 hrb.toRep3
  have h3 : (fm X ZB == fm XB Z && fm Y ZB == fm YB Z) = (a.x == b.x && a.y == b.y) := by
    rw [Bool.eq_iff_iff]
    simp only [Bool.and_eq_true, beq_iff_eq]
    rw [h2]
    obtain ⟨a1, a2⟩ := a
    obtain ⟨b1, b2⟩ := b
    constructor
    · intro h; cases h; exact ⟨rfl, rfl⟩
    · rintro ⟨h3, h4⟩; simp only at h3 h4; rw [h3, h4]
  rwa [h3] at h1
theorem same_yes (x y z t xb yb zb tb : L5) (a b : PP) (ha : PtIs a x y z t) (hb : PtIs b xb yb zb tb) (h : a = b) (w : World) : Calls Try.prog 19 #[.agg (pArr x y z t), .agg (pArr xb yb zb tb)] w fun e w' => e = .returned (.bool true) ∧ Below w.heap.size w w' := by
  have := same_is x y z t xb yb zb tb a b ha hb w
  rwa [h, beq_self_eq_true, beq_self_eq_true] at this
end Go.Proofs.Ytpkoniebbkkmjaa

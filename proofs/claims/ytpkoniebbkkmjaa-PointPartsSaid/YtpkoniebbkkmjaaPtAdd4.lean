/- Points: the program's Zero, its adder, its sums. -/
import Derived.Test.YtpkoniebbkkmjaaPtAl
import Derived.Test.YtpkoniebbkkmjaaPnG9
namespace Go.Proofs.Ytpkoniebbkkmjaa
open Go.RowKit
set_option linter.unusedVariables false
attribute [local irreducible] fi dN xx rtN rtOk pw fa fs fm

/-- a point handed back -/
def RetPt (X Y Z T : Nat) (w : World) (e : Ending) (w' : World) : Prop := ∃ x y z t : L5, e = .returned (.agg (pArr x y z t)) ∧ El x X ∧ El y Y ∧ El z Z ∧ El t T ∧ Below w.heap.size w w'

theorem build_ad (x : L5) (w : World) : (Instr.build 72 #[(0, .agg (gArr x.at))]).run Try.prog w = .ok (.agg (gArr x.at)) w := by
  simp only [gArr_at]
  simp [go_sem]
theorem ad_d {w : World} {g : Nat} {T : TypeId} {x : L5} (h : Box w g T (gArr x.at)) : w.rangeAt g 0 (gArr x.at).toList := fun j v hv => h.cell (0 + j) (by rw [Nat.zero_add]; simpa using hv)
set_option linter.unusedSimpArgs false in
set_option maxRecDepth 100000 in
set_option maxHeartbeats 20000000 in
theorem ofA_any (w : World) : Calls Try.prog 44 #[] w (RetEl (fa dN dN) w) := by
  have HCV := Lib.hid curve_any
  unfold RetEl at HCV
  go_enter Try.func44, Try.ntmps44
  go_upto_region 1 with fail
  have hR : Box (w.alloc (.cells #[.int .u64 0, .int .u64 0, .int .u64 0, .int .u64 0, .int .u64 0] 72)) w.heap.size 72 #[.int .u64 0, .int .u64 0, .int .u64 0, .int .u64 0, .int .u64 0] := (Box.new w 72 #[.int .u64 0, .int .u64 0, .int .u64 0, .int .u64 0, .int .u64 0])
  have lR : w.heap.size ≤ w.heap.size := by omega
  have hB : Below w.heap.size w (w.alloc (.cells #[.int .u64 0, .int .u64 0, .int .u64 0, .int .u64 0, .int .u64 0] 72)) := ((Below.refl w.heap.size w).alloc (by simp; try omega) (.cells #[.int .u64 0, .int .u64 0, .int .u64 0, .int .u64 0, .int .u64 0] 72))
  have hS := hB.size
  change Code.wp _ _ _ _ (w.alloc (.cells #[.int .u64 0, .int .u64 0, .int .u64 0, .int .u64 0, .int .u64 0] 72))
  generalize (w.alloc (.cells #[.int .u64 0, .int .u64 0, .int .u64 0, .int .u64 0, .int .u64 0] 72)) = v0 at *
  go_step
  refine wpList_enterR rfl 32 #[] (by simp [go_sem]) _ (HCV.out _) ?_
  rintro e v1 ⟨dd, rfl, hd, bv1⟩
  refine ⟨_, rfl, ?_⟩
  simp only [Act.put, List.setIfInBounds_toArray, List.set_cons_zero, List.set_cons_succ]
  replace hR := hR.after bv1
  replace hB := hB.trans (bv1.mono hS)
  replace hS := Nat.le_trans hS bv1.size
  clear bv1
  have HEL := Lib.hid hd
  have HAD := Lib.hid (fun w : World => add_el hd hd w)
  clear hd
  refine wpList_new rfl 27 rfl #[.int .u64 0, .int .u64 0, .int .u64 0, .int .u64 0, .int .u64 0] (by intro w; simp [go_sem]) ?_
  intro gD v2 hD lD bv2
  simp only [Act.put, List.setIfInBounds_toArray, List.set_cons_zero, List.set_cons_succ]
  have n_R_D := hR.before lD
  have n_D_R := hR.behind lD
  replace lD := Nat.le_trans hS lD
  replace hR := hR.after bv2
  replace hB := hB.trans (bv2.mono hS)
  replace hS := Nat.le_trans hS bv2.size
  clear bv2
  refine wpList_store_box (cells := gArr dd.at) rfl 27 (.tmp 1) (.tmp 2) rfl hD (by rfl) (by rfl) (by rw [gArr_size]; rfl) (by rw [gArr_size]; kernel_rfl) (gArr_one _) ?_
  intro v3 hD_ stv3
  simp only [Act.put]
  replace hR := stv3.box hR n_R_D
  replace hB := stv3.below w.heap.size w lD hB
  replace hS := Nat.le_trans hS (Nat.le_of_eq stv3.size.symm)
  clear hD stv3
  have hD := hD_
  clear hD_
  go_upto_region 2 with fail
  go_step
  refine wpList_load_box rfl 27 _ rfl hD (by rfl) Try.underlying27 rfl (by rw [gArr_size]; kernel_rfl) ?_
  simp only [Act.put, List.setIfInBounds_toArray, List.set_cons_zero, List.set_cons_succ]
  refine wpList_load_box rfl 27 _ rfl hD (by rfl) Try.underlying27 rfl (by rw [gArr_size]; kernel_rfl) ?_
  simp only [Act.put, List.setIfInBounds_toArray, List.set_cons_zero, List.set_cons_succ]
  refine wpList_made_call rfl 33 #[.agg (gArr dd.at), .agg (gArr dd.at)] (by simp [go_sem]) _ (HAD.out _) ?_
  intro v4 bv4
  simp only [Act.put, List.setIfInBounds_toArray, List.set_cons_zero, List.set_cons_succ]
  replace hR := hR.after bv4
  replace hD := hD.after bv4
  replace hB := hB.trans (bv4.mono hS)
  replace hS := Nat.le_trans hS bv4.size
  clear bv4
  refine wpList_value rfl (.agg (gArr (dd.add dd).at)) (run_build rfl _ (by simp [go_sem]) _ (build_ad _ _)) ?_
  simp only [Act.put, List.setIfInBounds_toArray, List.set_cons_zero, List.set_cons_succ]
  refine wpList_store_box (cells := gArr (dd.add dd).at) rfl 72 (.tmp 0) (.tmp 6) rfl hR (by rfl) (by rfl) (by rfl) (by rw [gArr_size]; kernel_rfl) (gArr_one _) ?_
  intro v5 hR_ stv5
  simp only [Act.put]
  replace hD := stv5.box hD n_D_R
  replace hB := stv5.below w.heap.size w lR hB
  replace hS := Nat.le_trans hS (Nat.le_of_eq stv5.size.symm)
  clear hR stv5
  have hR := hR_
  clear hR_
  clear hD
  clear n_R_D n_D_R
  obtain ⟨GG, hG⟩ : ∃ GG, GG = gArr (dd.add dd).at := ⟨_, rfl⟩
  rw [← hG] at hR
  have HGS := Lib.hid (show GG.size = 5 by rw [hG]; exact gArr_size _)
  have HGE := Lib.hid hG
  clear hG
  go_wp2_with fail
  exact bodyPost_ret (v := .agg GG) (box_result rfl _ _ (by rfl) hR Try.underlying72 rfl (by rw [HGS.out]; kernel_rfl)) rfl ⟨dd.add dd, by rw [HGE.out], elA HEL.out HEL.out, hB⟩
set_option linter.unusedSimpArgs false in
set_option maxRecDepth 100000 in
set_option maxHeartbeats 20000000 in
theorem ptAdd0_any (d2 x y z t xb yb zb tb : L5) (X Y Z T XB YB ZB TB : Nat) (hd2 : El d2 (fa dN dN)) (hx : El x X) (hy : El y Y) (hz : El z Z) (ht : El t T) (hxb : El xb XB) (hyb : El yb YB) (hzb : El zb ZB) (htb : El tb TB) (w : World) : Calls Try.prog 45 #[.agg (gArr d2.at), .agg (pArr x y z t), .agg (pArr xb yb zb tb)] w (RetPt (fm (gE X Y XB YB) (gF Z T ZB TB)) (fm (gG Z T ZB TB) (gH X Y XB YB)) (fm (gF Z T ZB TB) (gG Z T ZB TB)) (fm (gE X Y XB YB) (gH X Y XB YB)) w) := by
  have C_a1 := Lib.hid (fun w : World => sub_el hy hx w)
  have E_a1 := elS hy hx
  generalize y.sub x = a1 at *
  have C_a2 := Lib.hid (fun w : World => sub_el hyb hxb w)
  have E_a2 := elS hyb hxb
  generalize yb.sub xb = a2 at *
  have C_m := Lib.hid (fun w : World => mul_el E_a1 E_a2 w)
  have E_m := elM E_a1 E_a2
  generalize a1.mul a2 = m at *
  have C_a3 := Lib.hid (fun w : World => add_el hy hx w)
  have E_a3 := elA hy hx
  generalize y.add x = a3 at *
  have C_a4 := Lib.hid (fun w : World => add_el hyb hxb w)
  have E_a4 := elA hyb hxb
  generalize yb.add xb = a4 at *
  have C_n := Lib.hid (fun w : World => mul_el E_a3 E_a4 w)
  have E_n := elM E_a3 E_a4
  generalize a3.mul a4 = n at *
  have C_a5 := Lib.hid (fun w : World => mul_el ht hd2 w)
  have E_a5 := elM ht hd2
  generalize t.mul d2 = a5 at *
  have C_c := Lib.hid (fun w : World => mul_el E_a5 htb w)
  have E_c := elM E_a5 htb
  generalize a5.mul tb = c at *
  have C_a6 := Lib.hid (fun w : World => add_el hz hz w)
  have E_a6 := elA hz hz
  generalize z.add z = a6 at *
  have C_d := Lib.hid (fun w : World => mul_el E_a6 hzb w)
  have E_d := elM E_a6 hzb
  generalize a6.mul zb = d at *
  have C_e := Lib.hid (fun w : World => sub_el E_n E_m w)
  have E_e := elS E_n E_m
  generalize n.sub m = e at *
  have C_f := Lib.hid (fun w : World => sub_el E_d E_c w)
  have E_f := elS E_d E_c
  generalize d.sub c = f at *
  have C_g := Lib.hid (fun w : World => add_el E_d E_c w)
  have E_g := elA E_d E_c
  generalize d.add c = g at *
  have C_h := Lib.hid (fun w : World => add_el E_n E_m w)
  have E_h := elA E_n E_m
  generalize n.add m = h at *
  have C_x3 := Lib.hid (fun w : World => mul_el E_e E_f w)
  have E_x3 := elM E_e E_f
  generalize e.mul f = x3 at *
  have C_y3 := Lib.hid (fun w : World => mul_el E_g E_h w)
  have E_y3 := elM E_g E_h
  generalize g.mul h = y3 at *
  have C_z3 := Lib.hid (fun w : World => mul_el E_f E_g w)
  have E_z3 := elM E_f E_g
  generalize f.mul g = z3 at *
  have C_t3 := Lib.hid (fun w : World => mul_el E_e E_h w)
  have E_t3 := elM E_e E_h
  generalize e.mul h = t3 at *
  have HEx3 := Lib.hid E_x3
  have HEy3 := Lib.hid E_y3
  have HEz3 := Lib.hid E_z3
  have HEt3 := Lib.hid E_t3
  clear hx hy hz ht hxb hyb hzb htb hd2 E_a1 E_a2 E_m E_a3 E_a4 E_n E_a5 E_c E_a6 E_d E_e E_f E_g E_h E_x3 E_y3 E_z3 E_t3
  go_enter Try.func45, Try.ntmps45
  go_upto_region 1 with fail
  have hD : Box ((((w.alloc (.cells (gArr d2.at) 72)).alloc (.cells (pArr x y z t) 29)).alloc (.cells (pArr xb yb zb tb) 29)).alloc (.cells #[.int .u64 0, .int .u64 0, .int .u64 0, .int .u64 0, .int .u64 0, .int .u64 0, .int .u64 0, .int .u64 0, .int .u64 0, .int .u64 0, .int .u64 0, .int .u64 0, .int .u64 0, .int .u64 0, .int .u64 0, .int .u64 0, .int .u64 0, .int .u64 0, .int .u64 0, .int .u64 0] 29)) w.heap.size 72 (gArr d2.at) := ((((Box.new w 72 (gArr d2.at)).alloc (.cells (pArr x y z t) 29)).alloc (.cells (pArr xb yb zb tb) 29)).alloc (.cells #[.int .u64 0, .int .u64 0, .int .u64 0, .int .u64 0, .int .u64 0, .int .u64 0, .int .u64 0, .int .u64 0, .int .u64 0, .int .u64 0, .int .u64 0, .int .u64 0, .int .u64 0, .int .u64 0, .int .u64 0, .int .u64 0, .int .u64 0, .int .u64 0, .int .u64 0, .int .u64 0] 29))
  have lD : w.heap.size ≤ w.heap.size := by omega
  have hP : Box ((((w.alloc (.cells (gArr d2.at) 72)).alloc (.cells (pArr x y z t) 29)).alloc (.cells (pArr xb yb zb tb) 29)).alloc (.cells #[.int .u64 0, .int .u64 0, .int .u64 0, .int .u64 0, .int .u64 0, .int .u64 0, .int .u64 0, .int .u64 0, .int .u64 0, .int .u64 0, .int .u64 0, .int .u64 0, .int .u64 0, .int .u64 0, .int .u64 0, .int .u64 0, .int .u64 0, .int .u64 0, .int .u64 0, .int .u64 0] 29)) (w.heap.size + 1) 29 (pArr x y z t) := by
    have := (((Box.new (w.alloc (.cells (gArr d2.at) 72)) 29 (pArr x y z t)).alloc (.cells (pArr xb yb zb tb) 29)).alloc (.cells #[.int .u64 0, .int .u64 0, .int .u64 0, .int .u64 0, .int .u64 0, .int .u64 0, .int .u64 0, .int .u64 0, .int .u64 0, .int .u64 0, .int .u64 0, .int .u64 0, .int .u64 0, .int .u64 0, .int .u64 0, .int .u64 0, .int .u64 0, .int .u64 0, .int .u64 0, .int .u64 0] 29))
    simp only [World.size_alloc] at this
    exact this
  have lP : w.heap.size ≤ (w.heap.size + 1) := by omega
  have n_D_P : w.heap.size ≠ (w.heap.size + 1) := by omega
  have n_P_D : (w.heap.size + 1) ≠ w.heap.size := by omega
  have hQ : Box ((((w.alloc (.cells (gArr d2.at) 72)).alloc (.cells (pArr x y z t) 29)).alloc (.cells (pArr xb yb zb tb) 29)).alloc (.cells #[.int .u64 0, .int .u64 0, .int .u64 0, .int .u64 0, .int .u64 0, .int .u64 0, .int .u64 0, .int .u64 0, .int .u64 0, .int .u64 0, .int .u64 0, .int .u64 0, .int .u64 0, .int .u64 0, .int .u64 0, .int .u64 0, .int .u64 0, .int .u64 0, .int .u64 0, .int .u64 0] 29)) (w.heap.size + 2) 29 (pArr xb yb zb tb) := by
    have := ((Box.new ((w.alloc (.cells (gArr d2.at) 72)).alloc (.cells (pArr x y z t) 29)) 29 (pArr xb yb zb tb)).alloc (.cells #[.int .u64 0, .int .u64 0, .int .u64 0, .int .u64 0, .int .u64 0, .int .u64 0, .int .u64 0, .int .u64 0, .int .u64 0, .int .u64 0, .int .u64 0, .int .u64 0, .int .u64 0, .int .u64 0, .int .u64 0, .int .u64 0, .int .u64 0, .int .u64 0, .int .u64 0, .int .u64 0] 29))
    simp only [World.size_alloc, Nat.add_assoc, Nat.reduceAdd] at this
    exact this
  have lQ : w.heap.size ≤ (w.heap.size + 2) := by omega
  have n_D_Q : w.heap.size ≠ (w.heap.size + 2) := by omega
  have n_Q_D : (w.heap.size + 2) ≠ w.heap.size := by omega
  have n_P_Q : (w.heap.size + 1) ≠ (w.heap.size + 2) := by omega
  have n_Q_P : (w.heap.size + 2) ≠ (w.heap.size + 1) := by omega
  have hR : Box ((((w.alloc (.cells (gArr d2.at) 72)).alloc (.cells (pArr x y z t) 29)).alloc (.cells (pArr xb yb zb tb) 29)).alloc (.cells #[.int .u64 0, .int .u64 0, .int .u64 0, .int .u64 0, .int .u64 0, .int .u64 0, .int .u64 0, .int .u64 0, .int .u64 0, .int .u64 0, .int .u64 0, .int .u64 0, .int .u64 0, .int .u64 0, .int .u64 0, .int .u64 0, .int .u64 0, .int .u64 0, .int .u64 0, .int .u64 0] 29)) (w.heap.size + 3) 29 #[.int .u64 0, .int .u64 0, .int .u64 0, .int .u64 0, .int .u64 0, .int .u64 0, .int .u64 0, .int .u64 0, .int .u64 0, .int .u64 0, .int .u64 0, .int .u64 0, .int .u64 0, .int .u64 0, .int .u64 0, .int .u64 0, .int .u64 0, .int .u64 0, .int .u64 0, .int .u64 0] := by
    have := (Box.new (((w.alloc (.cells (gArr d2.at) 72)).alloc (.cells (pArr x y z t) 29)).alloc (.cells (pArr xb yb zb tb) 29)) 29 #[.int .u64 0, .int .u64 0, .int .u64 0, .int .u64 0, .int .u64 0, .int .u64 0, .int .u64 0, .int .u64 0, .int .u64 0, .int .u64 0, .int .u64 0, .int .u64 0, .int .u64 0, .int .u64 0, .int .u64 0, .int .u64 0, .int .u64 0, .int .u64 0, .int .u64 0, .int .u64 0])
    simp only [World.size_alloc, Nat.add_assoc, Nat.reduceAdd] at this
    exact this
  have lR : w.heap.size ≤ (w.heap.size + 3) := by omega
  have n_D_R : w.heap.size ≠ (w.heap.size + 3) := by omega
  have n_R_D : (w.heap.size + 3) ≠ w.heap.size := by omega
  have n_P_R : (w.heap.size + 1) ≠ (w.heap.size + 3) := by omega
  have n_R_P : (w.heap.size + 3) ≠ (w.heap.size + 1) := by omega
  have n_Q_R : (w.heap.size + 2) ≠ (w.heap.size + 3) := by omega
  have n_R_Q : (w.heap.size + 3) ≠ (w.heap.size + 2) := by omega
  have hB : Below w.heap.size w ((((w.alloc (.cells (gArr d2.at) 72)).alloc (.cells (pArr x y z t) 29)).alloc (.cells (pArr xb yb zb tb) 29)).alloc (.cells #[.int .u64 0, .int .u64 0, .int .u64 0, .int .u64 0, .int .u64 0, .int .u64 0, .int .u64 0, .int .u64 0, .int .u64 0, .int .u64 0, .int .u64 0, .int .u64 0, .int .u64 0, .int .u64 0, .int .u64 0, .int .u64 0, .int .u64 0, .int .u64 0, .int .u64 0, .int .u64 0] 29)) := (((((Below.refl w.heap.size w).alloc (by simp; try omega) (.cells (gArr d2.at) 72)).alloc (by simp; try omega) (.cells (pArr x y z t) 29)).alloc (by simp; try omega) (.cells (pArr xb yb zb tb) 29)).alloc (by simp; try omega) (.cells #[.int .u64 0, .int .u64 0, .int .u64 0, .int .u64 0, .int .u64 0, .int .u64 0, .int .u64 0, .int .u64 0, .int .u64 0, .int .u64 0, .int .u64 0, .int .u64 0, .int .u64 0, .int .u64 0, .int .u64 0, .int .u64 0, .int .u64 0, .int .u64 0, .int .u64 0, .int .u64 0] 29))
  have hS := hB.size
  change Code.wp _ _ _ _ ((((w.alloc (.cells (gArr d2.at) 72)).alloc (.cells (pArr x y z t) 29)).alloc (.cells (pArr xb yb zb tb) 29)).alloc (.cells #[.int .u64 0, .int .u64 0, .int .u64 0, .int .u64 0, .int .u64 0, .int .u64 0, .int .u64 0, .int .u64 0, .int .u64 0, .int .u64 0, .int .u64 0, .int .u64 0, .int .u64 0, .int .u64 0, .int .u64 0, .int .u64 0, .int .u64 0, .int .u64 0, .int .u64 0, .int .u64 0] 29))
  generalize ((((w.alloc (.cells (gArr d2.at) 72)).alloc (.cells (pArr x y z t) 29)).alloc (.cells (pArr xb yb zb tb) 29)).alloc (.cells #[.int .u64 0, .int .u64 0, .int .u64 0, .int .u64 0, .int .u64 0, .int .u64 0, .int .u64 0, .int .u64 0, .int .u64 0, .int .u64 0, .int .u64 0, .int .u64 0, .int .u64 0, .int .u64 0, .int .u64 0, .int .u64 0, .int .u64 0, .int .u64 0, .int .u64 0, .int .u64 0] 29)) = v0 at *
  have hKS : Keeps (fun w' => Box w' (w.heap.size + 1) 29 ((pArr x y z t)) ∧ Box w' (w.heap.size + 2) 29 ((pArr xb yb zb tb))) := fun w w' h b => ⟨h.1.after b, h.2.after b⟩
  refine wp_region_U (w := v0) (fun w' => Box w' (w.heap.size + 1) 29 ((pArr x y z t)) ∧ Box w' (w.heap.size + 2) 29 ((pArr xb yb zb tb))) rfl (⟨hP.drew, hQ.drew⟩) ?_
  replace hD := hD.drew
  replace hP := hP.drew
  replace hQ := hQ.drew
  replace hR := hR.drew
  replace hB := hB.drew
  replace hS := Nat.le_trans hS (show v0.heap.size ≤ v0.drew.heap.size from Nat.le_refl _)
  refine wpU_val 0 hKS rfl (by kernel_rfl) (by kernel_rfl) (by kernel_rfl) rfl (fun _ _ _ _ h => h) (.pointer (some ⟨(w.heap.size + 1), 5, none⟩)) (fun w' h => by simp [go_sem]) ?_
  simp only [Act.put, List.setIfInBounds_toArray, List.set_cons_zero, List.set_cons_succ]
  refine wpU_val 1 hKS rfl (by kernel_rfl) (by kernel_rfl) (by kernel_rfl) rfl (fun _ _ _ _ h => h) (.agg (gArr y.at)) (fun w' h => run_load_mid rfl (pt_y h.1) (by simp [go_sem]) Try.underlying27 rfl (by rw [gArr_size]; kernel_rfl)) ?_
  simp only [Act.put, List.setIfInBounds_toArray, List.set_cons_zero, List.set_cons_succ]
  refine wpU_val 2 hKS rfl (by kernel_rfl) (by kernel_rfl) (by kernel_rfl) rfl (fun _ _ _ _ h => h) (.pointer (some ⟨(w.heap.size + 1), 0, none⟩)) (fun w' h => by simp [go_sem]) ?_
  simp only [Act.put, List.setIfInBounds_toArray, List.set_cons_zero, List.set_cons_succ]
  refine wpU_val 3 hKS rfl (by kernel_rfl) (by kernel_rfl) (by kernel_rfl) rfl (fun _ _ _ _ h => h) (.agg (gArr x.at)) (fun w' h => run_load_mid rfl (pt_x h.1) (by simp [go_sem]) Try.underlying27 rfl (by rw [gArr_size]; kernel_rfl)) ?_
  simp only [Act.put, List.setIfInBounds_toArray, List.set_cons_zero, List.set_cons_succ]
  refine wpU_call 4 hKS rfl (by kernel_rfl) (by kernel_rfl) (by kernel_rfl) rfl (fun _ _ _ _ h => h) 31 #[.agg (gArr y.at), .agg (gArr x.at)] (fun w => by simp [go_sem]) _ (C_a1.out) ?_
  simp only [Act.put, List.setIfInBounds_toArray, List.set_cons_zero, List.set_cons_succ]
  refine wpU_val 5 hKS rfl (by kernel_rfl) (by kernel_rfl) (by kernel_rfl) rfl (fun _ _ _ _ h => h) (.pointer (some ⟨(w.heap.size + 2), 5, none⟩)) (fun w' h => by simp [go_sem]) ?_
  simp only [Act.put, List.setIfInBounds_toArray, List.set_cons_zero, List.set_cons_succ]
  refine wpU_val 6 hKS rfl (by kernel_rfl) (by kernel_rfl) (by kernel_rfl) rfl (fun _ _ _ _ h => h) (.agg (gArr yb.at)) (fun w' h => run_load_mid rfl (pt_y h.2) (by simp [go_sem]) Try.underlying27 rfl (by rw [gArr_size]; kernel_rfl)) ?_
  simp only [Act.put, List.setIfInBounds_toArray, List.set_cons_zero, List.set_cons_succ]
  refine wpU_val 7 hKS rfl (by kernel_rfl) (by kernel_rfl) (by kernel_rfl) rfl (fun _ _ _ _ h => h) (.pointer (some ⟨(w.heap.size + 2), 0, none⟩)) (fun w' h => by simp [go_sem]) ?_
  simp only [Act.put, List.setIfInBounds_toArray, List.set_cons_zero, List.set_cons_succ]
  refine wpU_val 8 hKS rfl (by kernel_rfl) (by kernel_rfl) (by kernel_rfl) rfl (fun _ _ _ _ h => h) (.agg (gArr xb.at)) (fun w' h => run_load_mid rfl (pt_x h.2) (by simp [go_sem]) Try.underlying27 rfl (by rw [gArr_size]; kernel_rfl)) ?_
  simp only [Act.put, List.setIfInBounds_toArray, List.set_cons_zero, List.set_cons_succ]
  refine wpU_call 9 hKS rfl (by kernel_rfl) (by kernel_rfl) (by kernel_rfl) rfl (fun _ _ _ _ h => h) 31 #[.agg (gArr yb.at), .agg (gArr xb.at)] (fun w => by simp [go_sem]) _ (C_a2.out) ?_
  simp only [Act.put, List.setIfInBounds_toArray, List.set_cons_zero, List.set_cons_succ]
  refine wpU_call 10 hKS rfl (by kernel_rfl) (by kernel_rfl) (by kernel_rfl) rfl (fun _ _ _ _ h => h) 30 #[.agg (gArr a1.at), .agg (gArr a2.at)] (fun w => by simp [go_sem]) _ (C_m.out) ?_
  simp only [Act.put, List.setIfInBounds_toArray, List.set_cons_zero, List.set_cons_succ]
  refine wpU_one 11 rfl (by kernel_rfl) rfl ?_
  intro v1 bv1 sS
  replace hD := hD.after bv1
  replace hP := hP.after bv1
  replace hQ := hQ.after bv1
  replace hR := hR.after bv1
  replace hB := hB.trans (bv1.mono hS)
  replace hS := Nat.le_trans hS bv1.size
  clear bv1
  refine wp_alloc_new 27 rfl #[.int .u64 0, .int .u64 0, .int .u64 0, .int .u64 0, .int .u64 0] (by intro w; simp [go_sem]) ?_
  intro g_m v2 h_m l_m bv2
  refine ⟨hKS _ _ sS bv2, ?_⟩
  have n_D__m := hD.before l_m
  have n__m_D := hD.behind l_m
  have n_P__m := hP.before l_m
  have n__m_P := hP.behind l_m
  have n_Q__m := hQ.before l_m
  have n__m_Q := hQ.behind l_m
  have n_R__m := hR.before l_m
  have n__m_R := hR.behind l_m
  replace l_m := Nat.le_trans hS l_m
  replace sS := hKS _ _ sS bv2
  simp only [Act.put, List.setIfInBounds_toArray, List.set_cons_zero, List.set_cons_succ]
  replace hD := hD.after bv2
  replace hP := hP.after bv2
  replace hQ := hQ.after bv2
  replace hR := hR.after bv2
  replace hB := hB.trans (bv2.mono hS)
  replace hS := Nat.le_trans hS bv2.size
  clear bv2
  refine wpU_store_box (cells := gArr m.at) 12 rfl (by kernel_rfl) rfl 27 (.tmp 7) (.tmp 25) rfl h_m (by simp [go_sem]) (by simp [go_sem]) (by rw [gArr_size]; rfl) (by rw [gArr_size]; kernel_rfl) (gArr_one _) ?_
  intro v3 v4 bv3 sS h_m_ stv4
  refine ⟨⟨stv4.box sS.1 n_P__m, stv4.box sS.2 n_Q__m⟩, ?_⟩
  simp only [Act.put]
  replace hD := hD.after bv3
  replace hP := hP.after bv3
  replace hQ := hQ.after bv3
  replace hR := hR.after bv3
  replace h_m := h_m.after bv3
  replace hB := hB.trans (bv3.mono hS)
  replace hS := Nat.le_trans hS bv3.size
  clear bv3
  replace hD := stv4.box hD n_D__m
  replace hP := stv4.box hP n_P__m
  replace hQ := stv4.box hQ n_Q__m
  replace hR := stv4.box hR n_R__m
  replace hB := stv4.below w.heap.size w l_m hB
  replace hS := Nat.le_trans hS (Nat.le_of_eq stv4.size.symm)
  clear h_m stv4 sS
  have h_m := h_m_
  clear h_m_
  refine wpU_done (by kernel_rfl) ?_
  intro v5 bv5 sS
  clear hKS sS
  replace hD := hD.after bv5
  replace hP := hP.after bv5
  replace hQ := hQ.after bv5
  replace hR := hR.after bv5
  replace h_m := h_m.after bv5
  replace hB := hB.trans (bv5.mono hS)
  replace hS := Nat.le_trans hS bv5.size
  clear bv5
  go_upto_region 2 with fail
  have hKS : Keeps (fun w' => Box w' (w.heap.size + 1) 29 ((pArr x y z t)) ∧ Box w' (w.heap.size + 2) 29 ((pArr xb yb zb tb))) := fun w w' h b => ⟨h.1.after b, h.2.after b⟩
  refine wp_region_U (w := v5) (fun w' => Box w' (w.heap.size + 1) 29 ((pArr x y z t)) ∧ Box w' (w.heap.size + 2) 29 ((pArr xb yb zb tb))) rfl (⟨hP.drew, hQ.drew⟩) ?_
  replace hD := hD.drew
  replace hP := hP.drew
  replace hQ := hQ.drew
  replace hR := hR.drew
  replace h_m := h_m.drew
  replace hB := hB.drew
  replace hS := Nat.le_trans hS (show v5.heap.size ≤ v5.drew.heap.size from Nat.le_refl _)
  refine wpU_val 0 hKS rfl (by kernel_rfl) (by kernel_rfl) (by kernel_rfl) rfl (fun _ _ _ _ h => h) (.pointer (some ⟨(w.heap.size + 1), 5, none⟩)) (fun w' h => by simp [go_sem]) ?_
  simp only [Act.put, List.setIfInBounds_toArray, List.set_cons_zero, List.set_cons_succ]
  refine wpU_val 1 hKS rfl (by kernel_rfl) (by kernel_rfl) (by kernel_rfl) rfl (fun _ _ _ _ h => h) (.agg (gArr y.at)) (fun w' h => run_load_mid rfl (pt_y h.1) (by simp [go_sem]) Try.underlying27 rfl (by rw [gArr_size]; kernel_rfl)) ?_
  simp only [Act.put, List.setIfInBounds_toArray, List.set_cons_zero, List.set_cons_succ]
  refine wpU_val 2 hKS rfl (by kernel_rfl) (by kernel_rfl) (by kernel_rfl) rfl (fun _ _ _ _ h => h) (.pointer (some ⟨(w.heap.size + 1), 0, none⟩)) (fun w' h => by simp [go_sem]) ?_
  simp only [Act.put, List.setIfInBounds_toArray, List.set_cons_zero, List.set_cons_succ]
  refine wpU_val 3 hKS rfl (by kernel_rfl) (by kernel_rfl) (by kernel_rfl) rfl (fun _ _ _ _ h => h) (.agg (gArr x.at)) (fun w' h => run_load_mid rfl (pt_x h.1) (by simp [go_sem]) Try.underlying27 rfl (by rw [gArr_size]; kernel_rfl)) ?_
  simp only [Act.put, List.setIfInBounds_toArray, List.set_cons_zero, List.set_cons_succ]
  refine wpU_call 4 hKS rfl (by kernel_rfl) (by kernel_rfl) (by kernel_rfl) rfl (fun _ _ _ _ h => h) 33 #[.agg (gArr y.at), .agg (gArr x.at)] (fun w => by simp [go_sem]) _ (C_a3.out) ?_
  simp only [Act.put, List.setIfInBounds_toArray, List.set_cons_zero, List.set_cons_succ]
  refine wpU_val 5 hKS rfl (by kernel_rfl) (by kernel_rfl) (by kernel_rfl) rfl (fun _ _ _ _ h => h) (.pointer (some ⟨(w.heap.size + 2), 5, none⟩)) (fun w' h => by simp [go_sem]) ?_
  simp only [Act.put, List.setIfInBounds_toArray, List.set_cons_zero, List.set_cons_succ]
  refine wpU_val 6 hKS rfl (by kernel_rfl) (by kernel_rfl) (by kernel_rfl) rfl (fun _ _ _ _ h => h) (.agg (gArr yb.at)) (fun w' h => run_load_mid rfl (pt_y h.2) (by simp [go_sem]) Try.underlying27 rfl (by rw [gArr_size]; kernel_rfl)) ?_
  simp only [Act.put, List.setIfInBounds_toArray, List.set_cons_zero, List.set_cons_succ]
  refine wpU_val 7 hKS rfl (by kernel_rfl) (by kernel_rfl) (by kernel_rfl) rfl (fun _ _ _ _ h => h) (.pointer (some ⟨(w.heap.size + 2), 0, none⟩)) (fun w' h => by simp [go_sem]) ?_
  simp only [Act.put, List.setIfInBounds_toArray, List.set_cons_zero, List.set_cons_succ]
  refine wpU_val 8 hKS rfl (by kernel_rfl) (by kernel_rfl) (by kernel_rfl) rfl (fun _ _ _ _ h => h) (.agg (gArr xb.at)) (fun w' h => run_load_mid rfl (pt_x h.2) (by simp [go_sem]) Try.underlying27 rfl (by rw [gArr_size]; kernel_rfl)) ?_
  simp only [Act.put, List.setIfInBounds_toArray, List.set_cons_zero, List.set_cons_succ]
  refine wpU_call 9 hKS rfl (by kernel_rfl) (by kernel_rfl) (by kernel_rfl) rfl (fun _ _ _ _ h => h) 33 #[.agg (gArr yb.at), .agg (gArr xb.at)] (fun w => by simp [go_sem]) _ (C_a4.out) ?_
  simp only [Act.put, List.setIfInBounds_toArray, List.set_cons_zero, List.set_cons_succ]
  refine wpU_call 10 hKS rfl (by kernel_rfl) (by kernel_rfl) (by kernel_rfl) rfl (fun _ _ _ _ h => h) 30 #[.agg (gArr a3.at), .agg (gArr a4.at)] (fun w => by simp [go_sem]) _ (C_n.out) ?_
  simp only [Act.put, List.setIfInBounds_toArray, List.set_cons_zero, List.set_cons_succ]
  refine wpU_one 11 rfl (by kernel_rfl) rfl ?_
  intro v6 bv6 sS
  replace hD := hD.after bv6
  replace hP := hP.after bv6
  replace hQ := hQ.after bv6
  replace hR := hR.after bv6
  replace h_m := h_m.after bv6
  replace hB := hB.trans (bv6.mono hS)
  replace hS := Nat.le_trans hS bv6.size
  clear bv6
  refine wp_alloc_new 27 rfl #[.int .u64 0, .int .u64 0, .int .u64 0, .int .u64 0, .int .u64 0] (by intro w; simp [go_sem]) ?_
  intro g_n v7 h_n l_n bv7
  refine ⟨hKS _ _ sS bv7, ?_⟩
  have n_D__n := hD.before l_n
  have n__n_D := hD.behind l_n
  have n_P__n := hP.before l_n
  have n__n_P := hP.behind l_n
  have n_Q__n := hQ.before l_n
  have n__n_Q := hQ.behind l_n
  have n_R__n := hR.before l_n
  have n__n_R := hR.behind l_n
  have n__m__n := h_m.before l_n
  have n__n__m := h_m.behind l_n
  replace l_n := Nat.le_trans hS l_n
  replace sS := hKS _ _ sS bv7
  simp only [Act.put, List.setIfInBounds_toArray, List.set_cons_zero, List.set_cons_succ]
  replace hD := hD.after bv7
  replace hP := hP.after bv7
  replace hQ := hQ.after bv7
  replace hR := hR.after bv7
  replace h_m := h_m.after bv7
  replace hB := hB.trans (bv7.mono hS)
  replace hS := Nat.le_trans hS bv7.size
  clear bv7
  refine wpU_store_box (cells := gArr n.at) 12 rfl (by kernel_rfl) rfl 27 (.tmp 8) (.tmp 36) rfl h_n (by simp [go_sem]) (by simp [go_sem]) (by rw [gArr_size]; rfl) (by rw [gArr_size]; kernel_rfl) (gArr_one _) ?_
  intro v8 v9 bv8 sS h_n_ stv9
  refine ⟨⟨stv9.box sS.1 n_P__n, stv9.box sS.2 n_Q__n⟩, ?_⟩
  simp only [Act.put]
  replace hD := hD.after bv8
  replace hP := hP.after bv8
  replace hQ := hQ.after bv8
  replace hR := hR.after bv8
  replace h_m := h_m.after bv8
  replace h_n := h_n.after bv8
  replace hB := hB.trans (bv8.mono hS)
  replace hS := Nat.le_trans hS bv8.size
  clear bv8
  replace hD := stv9.box hD n_D__n
  replace hP := stv9.box hP n_P__n
  replace hQ := stv9.box hQ n_Q__n
  replace hR := stv9.box hR n_R__n
  replace h_m := stv9.box h_m n__m__n
  replace hB := stv9.below w.heap.size w l_n hB
  replace hS := Nat.le_trans hS (Nat.le_of_eq stv9.size.symm)
  clear h_n stv9 sS
  have h_n := h_n_
  clear h_n_
  refine wpU_done (by kernel_rfl) ?_
  intro v10 bv10 sS
  clear hKS sS
  replace hD := hD.after bv10
  replace hP := hP.after bv10
  replace hQ := hQ.after bv10
  replace hR := hR.after bv10
  replace h_m := h_m.after bv10
  replace h_n := h_n.after bv10
  replace hB := hB.trans (bv10.mono hS)
  replace hS := Nat.le_trans hS bv10.size
  clear bv10
  go_upto_region 3 with fail
  have hKS : Keeps (fun w' => Box w' w.heap.size 72 ((gArr d2.at)) ∧ Box w' (w.heap.size + 1) 29 ((pArr x y z t)) ∧ Box w' (w.heap.size + 2) 29 ((pArr xb yb zb tb))) := fun w w' h b => ⟨h.1.after b, h.2.1.after b, h.2.2.after b⟩
  refine wp_region_U (w := v10) (fun w' => Box w' w.heap.size 72 ((gArr d2.at)) ∧ Box w' (w.heap.size + 1) 29 ((pArr x y z t)) ∧ Box w' (w.heap.size + 2) 29 ((pArr xb yb zb tb))) rfl (⟨hD.drew, hP.drew, hQ.drew⟩) ?_
  replace hD := hD.drew
  replace hP := hP.drew
  replace hQ := hQ.drew
  replace hR := hR.drew
  replace h_m := h_m.drew
  replace h_n := h_n.drew
  replace hB := hB.drew
  replace hS := Nat.le_trans hS (show v10.heap.size ≤ v10.drew.heap.size from Nat.le_refl _)
  refine wpU_val 0 hKS rfl (by kernel_rfl) (by kernel_rfl) (by kernel_rfl) rfl (fun _ _ _ _ h => h) (.pointer (some ⟨(w.heap.size + 1), 15, none⟩)) (fun w' h => by simp [go_sem]) ?_
  simp only [Act.put, List.setIfInBounds_toArray, List.set_cons_zero, List.set_cons_succ]
  refine wpU_val 1 hKS rfl (by kernel_rfl) (by kernel_rfl) (by kernel_rfl) rfl (fun _ _ _ _ h => h) (.agg (gArr t.at)) (fun w' h => run_load_mid rfl (pt_t h.2.1) (by simp [go_sem]) Try.underlying27 rfl (by rw [gArr_size]; kernel_rfl)) ?_
  simp only [Act.put, List.setIfInBounds_toArray, List.set_cons_zero, List.set_cons_succ]
  refine wpU_val 2 hKS rfl (by kernel_rfl) (by kernel_rfl) (by kernel_rfl) rfl (fun _ _ _ _ h => h) (.pointer (some ⟨w.heap.size, 0, none⟩)) (fun w' h => by simp [go_sem]) ?_
  simp only [Act.put, List.setIfInBounds_toArray, List.set_cons_zero, List.set_cons_succ]
  refine wpU_val 3 hKS rfl (by kernel_rfl) (by kernel_rfl) (by kernel_rfl) rfl (fun _ _ _ _ h => h) (.agg (gArr d2.at)) (fun w' h => run_load_mid rfl (ad_d h.1) (by simp [go_sem]) Try.underlying27 rfl (by rw [gArr_size]; kernel_rfl)) ?_
  simp only [Act.put, List.setIfInBounds_toArray, List.set_cons_zero, List.set_cons_succ]
  refine wpU_call 4 hKS rfl (by kernel_rfl) (by kernel_rfl) (by kernel_rfl) rfl (fun _ _ _ _ h => h) 30 #[.agg (gArr t.at), .agg (gArr d2.at)] (fun w => by simp [go_sem]) _ (C_a5.out) ?_
  simp only [Act.put, List.setIfInBounds_toArray, List.set_cons_zero, List.set_cons_succ]
  refine wpU_val 5 hKS rfl (by kernel_rfl) (by kernel_rfl) (by kernel_rfl) rfl (fun _ _ _ _ h => h) (.pointer (some ⟨(w.heap.size + 2), 15, none⟩)) (fun w' h => by simp [go_sem]) ?_
  simp only [Act.put, List.setIfInBounds_toArray, List.set_cons_zero, List.set_cons_succ]
  refine wpU_val 6 hKS rfl (by kernel_rfl) (by kernel_rfl) (by kernel_rfl) rfl (fun _ _ _ _ h => h) (.agg (gArr tb.at)) (fun w' h => run_load_mid rfl (pt_t h.2.2) (by simp [go_sem]) Try.underlying27 rfl (by rw [gArr_size]; kernel_rfl)) ?_
  simp only [Act.put, List.setIfInBounds_toArray, List.set_cons_zero, List.set_cons_succ]
  refine wpU_call 7 hKS rfl (by kernel_rfl) (by kernel_rfl) (by kernel_rfl) rfl (fun _ _ _ _ h => h) 30 #[.agg (gArr a5.at), .agg (gArr tb.at)] (fun w => by simp [go_sem]) _ (C_c.out) ?_
  simp only [Act.put, List.setIfInBounds_toArray, List.set_cons_zero, List.set_cons_succ]
  refine wpU_one 8 rfl (by kernel_rfl) rfl ?_
  intro v11 bv11 sS
  replace hD := hD.after bv11
  replace hP := hP.after bv11
  replace hQ := hQ.after bv11
  replace hR := hR.after bv11
  replace h_m := h_m.after bv11
  replace h_n := h_n.after bv11
  replace hB := hB.trans (bv11.mono hS)
  replace hS := Nat.le_trans hS bv11.size
  clear bv11
  refine wp_alloc_new 27 rfl #[.int .u64 0, .int .u64 0, .int .u64 0, .int .u64 0, .int .u64 0] (by intro w; simp [go_sem]) ?_
  intro g_c v12 h_c l_c bv12
  refine ⟨hKS _ _ sS bv12, ?_⟩
  have n_D__c := hD.before l_c
  have n__c_D := hD.behind l_c
  have n_P__c := hP.before l_c
  have n__c_P := hP.behind l_c
  have n_Q__c := hQ.before l_c
  have n__c_Q := hQ.behind l_c
  have n_R__c := hR.before l_c
  have n__c_R := hR.behind l_c
  have n__m__c := h_m.before l_c
  have n__c__m := h_m.behind l_c
  have n__n__c := h_n.before l_c
  have n__c__n := h_n.behind l_c
  replace l_c := Nat.le_trans hS l_c
  replace sS := hKS _ _ sS bv12
  simp only [Act.put, List.setIfInBounds_toArray, List.set_cons_zero, List.set_cons_succ]
  replace hD := hD.after bv12
  replace hP := hP.after bv12
  replace hQ := hQ.after bv12
  replace hR := hR.after bv12
  replace h_m := h_m.after bv12
  replace h_n := h_n.after bv12
  replace hB := hB.trans (bv12.mono hS)
  replace hS := Nat.le_trans hS bv12.size
  clear bv12
  refine wpU_store_box (cells := gArr c.at) 9 rfl (by kernel_rfl) rfl 27 (.tmp 9) (.tmp 44) rfl h_c (by simp [go_sem]) (by simp [go_sem]) (by rw [gArr_size]; rfl) (by rw [gArr_size]; kernel_rfl) (gArr_one _) ?_
  intro v13 v14 bv13 sS h_c_ stv14
  refine ⟨⟨stv14.box sS.1 n_D__c, stv14.box sS.2.1 n_P__c, stv14.box sS.2.2 n_Q__c⟩, ?_⟩
  simp only [Act.put]
  replace hD := hD.after bv13
  replace hP := hP.after bv13
  replace hQ := hQ.after bv13
  replace hR := hR.after bv13
  replace h_m := h_m.after bv13
  replace h_n := h_n.after bv13
  replace h_c := h_c.after bv13
  replace hB := hB.trans (bv13.mono hS)
  replace hS := Nat.le_trans hS bv13.size
  clear bv13
  replace hD := stv14.box hD n_D__c
  replace hP := stv14.box hP n_P__c
  replace hQ := stv14.box hQ n_Q__c
  replace hR := stv14.box hR n_R__c
  replace h_m := stv14.box h_m n__m__c
  replace h_n := stv14.box h_n n__n__c
  replace hB := stv14.below w.heap.size w l_c hB
  replace hS := Nat.le_trans hS (Nat.le_of_eq stv14.size.symm)
  clear h_c stv14 sS
  have h_c := h_c_
  clear h_c_
  refine wpU_done (by kernel_rfl) ?_
  intro v15 bv15 sS
  clear hKS sS
  replace hD := hD.after bv15
  replace hP := hP.after bv15
  replace hQ := hQ.after bv15
  replace hR := hR.after bv15
  replace h_m := h_m.after bv15
  replace h_n := h_n.after bv15
  replace h_c := h_c.after bv15
  replace hB := hB.trans (bv15.mono hS)
  replace hS := Nat.le_trans hS bv15.size
  clear bv15
  go_upto_region 4 with fail
  have hKS : Keeps (fun w' => Box w' (w.heap.size + 1) 29 ((pArr x y z t)) ∧ Box w' (w.heap.size + 2) 29 ((pArr xb yb zb tb))) := fun w w' h b => ⟨h.1.after b, h.2.after b⟩
  refine wp_region_U (w := v15) (fun w' => Box w' (w.heap.size + 1) 29 ((pArr x y z t)) ∧ Box w' (w.heap.size + 2) 29 ((pArr xb yb zb tb))) rfl (⟨hP.drew, hQ.drew⟩) ?_
  replace hD := hD.drew
  replace hP := hP.drew
  replace hQ := hQ.drew
  replace hR := hR.drew
  replace h_m := h_m.drew
  replace h_n := h_n.drew
  replace h_c := h_c.drew
  replace hB := hB.drew
  replace hS := Nat.le_trans hS (show v15.heap.size ≤ v15.drew.heap.size from Nat.le_refl _)
  refine wpU_val 0 hKS rfl (by kernel_rfl) (by kernel_rfl) (by kernel_rfl) rfl (fun _ _ _ _ h => h) (.pointer (some ⟨(w.heap.size + 1), 10, none⟩)) (fun w' h => by simp [go_sem]) ?_
  simp only [Act.put, List.setIfInBounds_toArray, List.set_cons_zero, List.set_cons_succ]
  refine wpU_val 1 hKS rfl (by kernel_rfl) (by kernel_rfl) (by kernel_rfl) rfl (fun _ _ _ _ h => h) (.agg (gArr z.at)) (fun w' h => run_load_mid rfl (pt_z h.1) (by simp [go_sem]) Try.underlying27 rfl (by rw [gArr_size]; kernel_rfl)) ?_
  simp only [Act.put, List.setIfInBounds_toArray, List.set_cons_zero, List.set_cons_succ]
  refine wpU_val 2 hKS rfl (by kernel_rfl) (by kernel_rfl) (by kernel_rfl) rfl (fun _ _ _ _ h => h) (.pointer (some ⟨(w.heap.size + 1), 10, none⟩)) (fun w' h => by simp [go_sem]) ?_
  simp only [Act.put, List.setIfInBounds_toArray, List.set_cons_zero, List.set_cons_succ]
  refine wpU_val 3 hKS rfl (by kernel_rfl) (by kernel_rfl) (by kernel_rfl) rfl (fun _ _ _ _ h => h) (.agg (gArr z.at)) (fun w' h => run_load_mid rfl (pt_z h.1) (by simp [go_sem]) Try.underlying27 rfl (by rw [gArr_size]; kernel_rfl)) ?_
  simp only [Act.put, List.setIfInBounds_toArray, List.set_cons_zero, List.set_cons_succ]
  refine wpU_call 4 hKS rfl (by kernel_rfl) (by kernel_rfl) (by kernel_rfl) rfl (fun _ _ _ _ h => h) 33 #[.agg (gArr z.at), .agg (gArr z.at)] (fun w => by simp [go_sem]) _ (C_a6.out) ?_
  simp only [Act.put, List.setIfInBounds_toArray, List.set_cons_zero, List.set_cons_succ]
  refine wpU_val 5 hKS rfl (by kernel_rfl) (by kernel_rfl) (by kernel_rfl) rfl (fun _ _ _ _ h => h) (.pointer (some ⟨(w.heap.size + 2), 10, none⟩)) (fun w' h => by simp [go_sem]) ?_
  simp only [Act.put, List.setIfInBounds_toArray, List.set_cons_zero, List.set_cons_succ]
  refine wpU_val 6 hKS rfl (by kernel_rfl) (by kernel_rfl) (by kernel_rfl) rfl (fun _ _ _ _ h => h) (.agg (gArr zb.at)) (fun w' h => run_load_mid rfl (pt_z h.2) (by simp [go_sem]) Try.underlying27 rfl (by rw [gArr_size]; kernel_rfl)) ?_
  simp only [Act.put, List.setIfInBounds_toArray, List.set_cons_zero, List.set_cons_succ]
  refine wpU_call 7 hKS rfl (by kernel_rfl) (by kernel_rfl) (by kernel_rfl) rfl (fun _ _ _ _ h => h) 30 #[.agg (gArr a6.at), .agg (gArr zb.at)] (fun w => by simp [go_sem]) _ (C_d.out) ?_
  simp only [Act.put, List.setIfInBounds_toArray, List.set_cons_zero, List.set_cons_succ]
  refine wpU_one 8 rfl (by kernel_rfl) rfl ?_
  intro v16 bv16 sS
  replace hD := hD.after bv16
  replace hP := hP.after bv16
  replace hQ := hQ.after bv16
  replace hR := hR.after bv16
  replace h_m := h_m.after bv16
  replace h_n := h_n.after bv16
  replace h_c := h_c.after bv16
  replace hB := hB.trans (bv16.mono hS)
  replace hS := Nat.le_trans hS bv16.size
  clear bv16
  refine wp_alloc_new 27 rfl #[.int .u64 0, .int .u64 0, .int .u64 0, .int .u64 0, .int .u64 0] (by intro w; simp [go_sem]) ?_
  intro g_d v17 h_d l_d bv17
  refine ⟨hKS _ _ sS bv17, ?_⟩
  have n_D__d := hD.before l_d
  have n__d_D := hD.behind l_d
  have n_P__d := hP.before l_d
  have n__d_P := hP.behind l_d
  have n_Q__d := hQ.before l_d
  have n__d_Q := hQ.behind l_d
  have n_R__d := hR.before l_d
  have n__d_R := hR.behind l_d
  have n__m__d := h_m.before l_d
  have n__d__m := h_m.behind l_d
  have n__n__d := h_n.before l_d
  have n__d__n := h_n.behind l_d
  have n__c__d := h_c.before l_d
  have n__d__c := h_c.behind l_d
  replace l_d := Nat.le_trans hS l_d
  replace sS := hKS _ _ sS bv17
  simp only [Act.put, List.setIfInBounds_toArray, List.set_cons_zero, List.set_cons_succ]
  replace hD := hD.after bv17
  replace hP := hP.after bv17
  replace hQ := hQ.after bv17
  replace hR := hR.after bv17
  replace h_m := h_m.after bv17
  replace h_n := h_n.after bv17
  replace h_c := h_c.after bv17
  replace hB := hB.trans (bv17.mono hS)
  replace hS := Nat.le_trans hS bv17.size
  clear bv17
  refine wpU_store_box (cells := gArr d.at) 9 rfl (by kernel_rfl) rfl 27 (.tmp 10) (.tmp 52) rfl h_d (by simp [go_sem]) (by simp [go_sem]) (by rw [gArr_size]; rfl) (by rw [gArr_size]; kernel_rfl) (gArr_one _) ?_
  intro v18 v19 bv18 sS h_d_ stv19
  refine ⟨⟨stv19.box sS.1 n_P__d, stv19.box sS.2 n_Q__d⟩, ?_⟩
  simp only [Act.put]
  replace hD := hD.after bv18
  replace hP := hP.after bv18
  replace hQ := hQ.after bv18
  replace hR := hR.after bv18
  replace h_m := h_m.after bv18
  replace h_n := h_n.after bv18
  replace h_c := h_c.after bv18
  replace h_d := h_d.after bv18
  replace hB := hB.trans (bv18.mono hS)
  replace hS := Nat.le_trans hS bv18.size
  clear bv18
  replace hD := stv19.box hD n_D__d
  replace hP := stv19.box hP n_P__d
  replace hQ := stv19.box hQ n_Q__d
  replace hR := stv19.box hR n_R__d
  replace h_m := stv19.box h_m n__m__d
  replace h_n := stv19.box h_n n__n__d
  replace h_c := stv19.box h_c n__c__d
  replace hB := stv19.below w.heap.size w l_d hB
  replace hS := Nat.le_trans hS (Nat.le_of_eq stv19.size.symm)
  clear h_d stv19 sS
  have h_d := h_d_
  clear h_d_
  refine wpU_done (by kernel_rfl) ?_
  intro v20 bv20 sS
  clear hKS sS
  replace hD := hD.after bv20
  replace hP := hP.after bv20
  replace hQ := hQ.after bv20
  replace hR := hR.after bv20
  replace h_m := h_m.after bv20
  replace h_n := h_n.after bv20
  replace h_c := h_c.after bv20
  replace h_d := h_d.after bv20
  replace hB := hB.trans (bv20.mono hS)
  replace hS := Nat.le_trans hS bv20.size
  clear bv20
  clear hP hQ hD
  go_upto_region 5 with fail
  have hKS : Keeps (fun w' => Box w' g_m 27 (gArr m.at) ∧ Box w' g_n 27 (gArr n.at) ∧ Box w' g_c 27 (gArr c.at) ∧ Box w' g_d 27 (gArr d.at)) := fun w w' h b => ⟨h.1.after b, h.2.1.after b, h.2.2.1.after b, h.2.2.2.after b⟩
  refine wp_region_U (w := v20) (fun w' => Box w' g_m 27 (gArr m.at) ∧ Box w' g_n 27 (gArr n.at) ∧ Box w' g_c 27 (gArr c.at) ∧ Box w' g_d 27 (gArr d.at)) rfl (⟨h_m.drew, h_n.drew, h_c.drew, h_d.drew⟩) ?_
  replace hR := hR.drew
  replace h_m := h_m.drew
  replace h_n := h_n.drew
  replace h_c := h_c.drew
  replace h_d := h_d.drew
  replace hB := hB.drew
  replace hS := Nat.le_trans hS (show v20.heap.size ≤ v20.drew.heap.size from Nat.le_refl _)
  refine wpU_val 0 hKS rfl (by kernel_rfl) (by kernel_rfl) (by kernel_rfl) rfl (fun _ _ _ _ h => h) (.agg (gArr n.at)) (fun w' h => run_load_box rfl h.2.1 (by simp [go_sem]) Try.underlying27 rfl (by rw [gArr_size]; kernel_rfl)) ?_
  simp only [Act.put, List.setIfInBounds_toArray, List.set_cons_zero, List.set_cons_succ]
  refine wpU_val 1 hKS rfl (by kernel_rfl) (by kernel_rfl) (by kernel_rfl) rfl (fun _ _ _ _ h => h) (.agg (gArr m.at)) (fun w' h => run_load_box rfl h.1 (by simp [go_sem]) Try.underlying27 rfl (by rw [gArr_size]; kernel_rfl)) ?_
  simp only [Act.put, List.setIfInBounds_toArray, List.set_cons_zero, List.set_cons_succ]
  refine wpU_call 2 hKS rfl (by kernel_rfl) (by kernel_rfl) (by kernel_rfl) rfl (fun _ _ _ _ h => h) 31 #[.agg (gArr n.at), .agg (gArr m.at)] (fun w => by simp [go_sem]) _ (C_e.out) ?_
  simp only [Act.put, List.setIfInBounds_toArray, List.set_cons_zero, List.set_cons_succ]
  refine wpU_val 3 hKS rfl (by kernel_rfl) (by kernel_rfl) (by kernel_rfl) rfl (fun _ _ _ _ h => h) (.agg (gArr d.at)) (fun w' h => run_load_box rfl h.2.2.2 (by simp [go_sem]) Try.underlying27 rfl (by rw [gArr_size]; kernel_rfl)) ?_
  simp only [Act.put, List.setIfInBounds_toArray, List.set_cons_zero, List.set_cons_succ]
  refine wpU_val 4 hKS rfl (by kernel_rfl) (by kernel_rfl) (by kernel_rfl) rfl (fun _ _ _ _ h => h) (.agg (gArr c.at)) (fun w' h => run_load_box rfl h.2.2.1 (by simp [go_sem]) Try.underlying27 rfl (by rw [gArr_size]; kernel_rfl)) ?_
  simp only [Act.put, List.setIfInBounds_toArray, List.set_cons_zero, List.set_cons_succ]
  refine wpU_call 5 hKS rfl (by kernel_rfl) (by kernel_rfl) (by kernel_rfl) rfl (fun _ _ _ _ h => h) 31 #[.agg (gArr d.at), .agg (gArr c.at)] (fun w => by simp [go_sem]) _ (C_f.out) ?_
  simp only [Act.put, List.setIfInBounds_toArray, List.set_cons_zero, List.set_cons_succ]
  refine wpU_val 6 hKS rfl (by kernel_rfl) (by kernel_rfl) (by kernel_rfl) rfl (fun _ _ _ _ h => h) (.agg (gArr d.at)) (fun w' h => run_load_box rfl h.2.2.2 (by simp [go_sem]) Try.underlying27 rfl (by rw [gArr_size]; kernel_rfl)) ?_
  simp only [Act.put, List.setIfInBounds_toArray, List.set_cons_zero, List.set_cons_succ]
  refine wpU_val 7 hKS rfl (by kernel_rfl) (by kernel_rfl) (by kernel_rfl) rfl (fun _ _ _ _ h => h) (.agg (gArr c.at)) (fun w' h => run_load_box rfl h.2.2.1 (by simp [go_sem]) Try.underlying27 rfl (by rw [gArr_size]; kernel_rfl)) ?_
  simp only [Act.put, List.setIfInBounds_toArray, List.set_cons_zero, List.set_cons_succ]
  refine wpU_call 8 hKS rfl (by kernel_rfl) (by kernel_rfl) (by kernel_rfl) rfl (fun _ _ _ _ h => h) 33 #[.agg (gArr d.at), .agg (gArr c.at)] (fun w => by simp [go_sem]) _ (C_g.out) ?_
  simp only [Act.put, List.setIfInBounds_toArray, List.set_cons_zero, List.set_cons_succ]
  refine wpU_val 9 hKS rfl (by kernel_rfl) (by kernel_rfl) (by kernel_rfl) rfl (fun _ _ _ _ h => h) (.agg (gArr n.at)) (fun w' h => run_load_box rfl h.2.1 (by simp [go_sem]) Try.underlying27 rfl (by rw [gArr_size]; kernel_rfl)) ?_
  simp only [Act.put, List.setIfInBounds_toArray, List.set_cons_zero, List.set_cons_succ]
  refine wpU_val 10 hKS rfl (by kernel_rfl) (by kernel_rfl) (by kernel_rfl) rfl (fun _ _ _ _ h => h) (.agg (gArr m.at)) (fun w' h => run_load_box rfl h.1 (by simp [go_sem]) Try.underlying27 rfl (by rw [gArr_size]; kernel_rfl)) ?_
  simp only [Act.put, List.setIfInBounds_toArray, List.set_cons_zero, List.set_cons_succ]
  refine wpU_call 11 hKS rfl (by kernel_rfl) (by kernel_rfl) (by kernel_rfl) rfl (fun _ _ _ _ h => h) 33 #[.agg (gArr n.at), .agg (gArr m.at)] (fun w => by simp [go_sem]) _ (C_h.out) ?_
  simp only [Act.put, List.setIfInBounds_toArray, List.set_cons_zero, List.set_cons_succ]
  refine wpU_al4 (T := 27) (cs := #[.int .u64 0, .int .u64 0, .int .u64 0, .int .u64 0, .int .u64 0]) (by intro w; simp [go_sem]) hKS (i := 12) (j := 13) (k := 14) (m := 15) ⟨⟨_, rfl⟩, rfl, rfl⟩ ⟨⟨_, rfl⟩, rfl, rfl⟩ ⟨⟨_, rfl⟩, rfl, rfl⟩ ⟨⟨_, rfl⟩, rfl, rfl⟩ (by decide) (by intro d h1 h2; cases h1; cases h2) (by decide) (by intro d h1 h2; cases h1; cases h2) (by decide) (by intro d h1 h2; cases h1; cases h2) (by decide) (by intro d h1 h2; cases h1; cases h2) (by decide) (by intro d h1 h2; cases h1; cases h2) (by decide) (by intro d h1 h2; cases h1; cases h2) ⟨(by kernel_rfl), ⟨(by kernel_rfl), ⟨(by kernel_rfl), (by kernel_rfl), (by kernel_rfl)⟩, ⟨(by kernel_rfl), (by kernel_rfl), (by kernel_rfl)⟩, ⟨(by kernel_rfl), (by kernel_rfl), (by kernel_rfl)⟩⟩, ⟨(by kernel_rfl), ⟨(by kernel_rfl), (by kernel_rfl), (by kernel_rfl)⟩, ⟨(by kernel_rfl), (by kernel_rfl), (by kernel_rfl)⟩, ⟨(by kernel_rfl), (by kernel_rfl), (by kernel_rfl)⟩⟩, ⟨(by kernel_rfl), ⟨(by kernel_rfl), (by kernel_rfl), (by kernel_rfl)⟩, ⟨(by kernel_rfl), (by kernel_rfl), (by kernel_rfl)⟩, ⟨(by kernel_rfl), (by kernel_rfl), (by kernel_rfl)⟩⟩, ⟨(by kernel_rfl), ⟨(by kernel_rfl), (by kernel_rfl), (by kernel_rfl)⟩, ⟨(by kernel_rfl), (by kernel_rfl), (by kernel_rfl)⟩, ⟨(by kernel_rfl), (by kernel_rfl), (by kernel_rfl)⟩⟩⟩ ?_
  intro g_e g_f g_g g_h v21 h_e h_f h_g h_h n__e__f n__e__g n__e__h n__f__g n__f__h n__g__h l_e l_f l_g l_h bv21 sS
  simp only [Act.put, List.setIfInBounds_toArray, List.set_cons_zero, List.set_cons_succ]
  have n__f__e := Ne.symm n__e__f
  have n__g__e := Ne.symm n__e__g
  have n__h__e := Ne.symm n__e__h
  have n__g__f := Ne.symm n__f__g
  have n__h__f := Ne.symm n__f__h
  have n__h__g := Ne.symm n__g__h
  have n_R__e := hR.before l_e
  have n__e_R := hR.behind l_e
  have n_R__f := hR.before l_f
  have n__f_R := hR.behind l_f
  have n_R__g := hR.before l_g
  have n__g_R := hR.behind l_g
  have n_R__h := hR.before l_h
  have n__h_R := hR.behind l_h
  have n__m__e := h_m.before l_e
  have n__e__m := h_m.behind l_e
  have n__m__f := h_m.before l_f
  have n__f__m := h_m.behind l_f
  have n__m__g := h_m.before l_g
  have n__g__m := h_m.behind l_g
  have n__m__h := h_m.before l_h
  have n__h__m := h_m.behind l_h
  have n__n__e := h_n.before l_e
  have n__e__n := h_n.behind l_e
  have n__n__f := h_n.before l_f
  have n__f__n := h_n.behind l_f
  have n__n__g := h_n.before l_g
  have n__g__n := h_n.behind l_g
  have n__n__h := h_n.before l_h
  have n__h__n := h_n.behind l_h
  have n__c__e := h_c.before l_e
  have n__e__c := h_c.behind l_e
  have n__c__f := h_c.before l_f
  have n__f__c := h_c.behind l_f
  have n__c__g := h_c.before l_g
  have n__g__c := h_c.behind l_g
  have n__c__h := h_c.before l_h
  have n__h__c := h_c.behind l_h
  have n__d__e := h_d.before l_e
  have n__e__d := h_d.behind l_e
  have n__d__f := h_d.before l_f
  have n__f__d := h_d.behind l_f
  have n__d__g := h_d.before l_g
  have n__g__d := h_d.behind l_g
  have n__d__h := h_d.before l_h
  have n__h__d := h_d.behind l_h
  replace l_e := Nat.le_trans hS l_e
  replace l_f := Nat.le_trans hS l_f
  replace l_g := Nat.le_trans hS l_g
  replace l_h := Nat.le_trans hS l_h
  replace hR := hR.after bv21
  replace h_m := h_m.after bv21
  replace h_n := h_n.after bv21
  replace h_c := h_c.after bv21
  replace h_d := h_d.after bv21
  replace hB := hB.trans (bv21.mono hS)
  replace hS := Nat.le_trans hS bv21.size
  clear bv21
  refine wpU_store_box (cells := gArr e.at) 16 rfl (by kernel_rfl) rfl 27 (.tmp 11) (.tmp 55) rfl h_e (by simp [go_sem]) (by simp [go_sem]) (by rw [gArr_size]; rfl) (by rw [gArr_size]; kernel_rfl) (gArr_one _) ?_
  intro v22 v23 bv22 sS h_e_ stv23
  refine ⟨⟨stv23.box sS.1 n__m__e, stv23.box sS.2.1 n__n__e, stv23.box sS.2.2.1 n__c__e, stv23.box sS.2.2.2 n__d__e⟩, ?_⟩
  simp only [Act.put]
  replace hR := hR.after bv22
  replace h_m := h_m.after bv22
  replace h_n := h_n.after bv22
  replace h_c := h_c.after bv22
  replace h_d := h_d.after bv22
  replace h_e := h_e.after bv22
  replace h_f := h_f.after bv22
  replace h_g := h_g.after bv22
  replace h_h := h_h.after bv22
  replace hB := hB.trans (bv22.mono hS)
  replace hS := Nat.le_trans hS bv22.size
  clear bv22
  replace hR := stv23.box hR n_R__e
  replace h_m := stv23.box h_m n__m__e
  replace h_n := stv23.box h_n n__n__e
  replace h_c := stv23.box h_c n__c__e
  replace h_d := stv23.box h_d n__d__e
  replace h_f := stv23.box h_f n__f__e
  replace h_g := stv23.box h_g n__g__e
  replace h_h := stv23.box h_h n__h__e
  replace hB := stv23.below w.heap.size w l_e hB
  replace hS := Nat.le_trans hS (Nat.le_of_eq stv23.size.symm)
  clear h_e stv23 sS
  have h_e := h_e_
  clear h_e_
  refine wpU_store_box (cells := gArr f.at) 17 rfl (by kernel_rfl) rfl 27 (.tmp 12) (.tmp 58) rfl h_f (by simp [go_sem]) (by simp [go_sem]) (by rw [gArr_size]; rfl) (by rw [gArr_size]; kernel_rfl) (gArr_one _) ?_
  intro v24 v25 bv24 sS h_f_ stv25
  refine ⟨⟨stv25.box sS.1 n__m__f, stv25.box sS.2.1 n__n__f, stv25.box sS.2.2.1 n__c__f, stv25.box sS.2.2.2 n__d__f⟩, ?_⟩
  simp only [Act.put]
  replace hR := hR.after bv24
  replace h_m := h_m.after bv24
  replace h_n := h_n.after bv24
  replace h_c := h_c.after bv24
  replace h_d := h_d.after bv24
  replace h_e := h_e.after bv24
  replace h_f := h_f.after bv24
  replace h_g := h_g.after bv24
  replace h_h := h_h.after bv24
  replace hB := hB.trans (bv24.mono hS)
  replace hS := Nat.le_trans hS bv24.size
  clear bv24
  replace hR := stv25.box hR n_R__f
  replace h_m := stv25.box h_m n__m__f
  replace h_n := stv25.box h_n n__n__f
  replace h_c := stv25.box h_c n__c__f
  replace h_d := stv25.box h_d n__d__f
  replace h_e := stv25.box h_e n__e__f
  replace h_g := stv25.box h_g n__g__f
  replace h_h := stv25.box h_h n__h__f
  replace hB := stv25.below w.heap.size w l_f hB
  replace hS := Nat.le_trans hS (Nat.le_of_eq stv25.size.symm)
  clear h_f stv25 sS
  have h_f := h_f_
  clear h_f_
  refine wpU_store_box (cells := gArr g.at) 18 rfl (by kernel_rfl) rfl 27 (.tmp 13) (.tmp 61) rfl h_g (by simp [go_sem]) (by simp [go_sem]) (by rw [gArr_size]; rfl) (by rw [gArr_size]; kernel_rfl) (gArr_one _) ?_
  intro v26 v27 bv26 sS h_g_ stv27
  refine ⟨⟨stv27.box sS.1 n__m__g, stv27.box sS.2.1 n__n__g, stv27.box sS.2.2.1 n__c__g, stv27.box sS.2.2.2 n__d__g⟩, ?_⟩
  simp only [Act.put]
  replace hR := hR.after bv26
  replace h_m := h_m.after bv26
  replace h_n := h_n.after bv26
  replace h_c := h_c.after bv26
  replace h_d := h_d.after bv26
  replace h_e := h_e.after bv26
  replace h_f := h_f.after bv26
  replace h_g := h_g.after bv26
  replace h_h := h_h.after bv26
  replace hB := hB.trans (bv26.mono hS)
  replace hS := Nat.le_trans hS bv26.size
  clear bv26
  replace hR := stv27.box hR n_R__g
  replace h_m := stv27.box h_m n__m__g
  replace h_n := stv27.box h_n n__n__g
  replace h_c := stv27.box h_c n__c__g
  replace h_d := stv27.box h_d n__d__g
  replace h_e := stv27.box h_e n__e__g
  replace h_f := stv27.box h_f n__f__g
  replace h_h := stv27.box h_h n__h__g
  replace hB := stv27.below w.heap.size w l_g hB
  replace hS := Nat.le_trans hS (Nat.le_of_eq stv27.size.symm)
  clear h_g stv27 sS
  have h_g := h_g_
  clear h_g_
  refine wpU_store_box (cells := gArr h.at) 19 rfl (by kernel_rfl) rfl 27 (.tmp 14) (.tmp 64) rfl h_h (by simp [go_sem]) (by simp [go_sem]) (by rw [gArr_size]; rfl) (by rw [gArr_size]; kernel_rfl) (gArr_one _) ?_
  intro v28 v29 bv28 sS h_h_ stv29
  refine ⟨⟨stv29.box sS.1 n__m__h, stv29.box sS.2.1 n__n__h, stv29.box sS.2.2.1 n__c__h, stv29.box sS.2.2.2 n__d__h⟩, ?_⟩
  simp only [Act.put]
  replace hR := hR.after bv28
  replace h_m := h_m.after bv28
  replace h_n := h_n.after bv28
  replace h_c := h_c.after bv28
  replace h_d := h_d.after bv28
  replace h_e := h_e.after bv28
  replace h_f := h_f.after bv28
  replace h_g := h_g.after bv28
  replace h_h := h_h.after bv28
  replace hB := hB.trans (bv28.mono hS)
  replace hS := Nat.le_trans hS bv28.size
  clear bv28
  replace hR := stv29.box hR n_R__h
  replace h_m := stv29.box h_m n__m__h
  replace h_n := stv29.box h_n n__n__h
  replace h_c := stv29.box h_c n__c__h
  replace h_d := stv29.box h_d n__d__h
  replace h_e := stv29.box h_e n__e__h
  replace h_f := stv29.box h_f n__f__h
  replace h_g := stv29.box h_g n__g__h
  replace hB := stv29.below w.heap.size w l_h hB
  replace hS := Nat.le_trans hS (Nat.le_of_eq stv29.size.symm)
  clear h_h stv29 sS
  have h_h := h_h_
  clear h_h_
  refine wpU_done (by kernel_rfl) ?_
  intro v30 bv30 sS
  clear hKS sS
  replace hR := hR.after bv30
  replace h_m := h_m.after bv30
  replace h_n := h_n.after bv30
  replace h_c := h_c.after bv30
  replace h_d := h_d.after bv30
  replace h_e := h_e.after bv30
  replace h_f := h_f.after bv30
  replace h_g := h_g.after bv30
  replace h_h := h_h.after bv30
  replace hB := hB.trans (bv30.mono hS)
  replace hS := Nat.le_trans hS bv30.size
  clear bv30
  clear h_m h_n h_c h_d
  go_upto_region 6 with fail
  have hKS : Keeps (fun w' => Box w' g_e 27 (gArr e.at) ∧ Box w' g_f 27 (gArr f.at) ∧ Box w' g_g 27 (gArr g.at) ∧ Box w' g_h 27 (gArr h.at)) := fun w w' h b => ⟨h.1.after b, h.2.1.after b, h.2.2.1.after b, h.2.2.2.after b⟩
  refine wp_region_U (w := v30) (fun w' => Box w' g_e 27 (gArr e.at) ∧ Box w' g_f 27 (gArr f.at) ∧ Box w' g_g 27 (gArr g.at) ∧ Box w' g_h 27 (gArr h.at)) rfl (⟨h_e.drew, h_f.drew, h_g.drew, h_h.drew⟩) ?_
  replace hR := hR.drew
  replace h_e := h_e.drew
  replace h_f := h_f.drew
  replace h_g := h_g.drew
  replace h_h := h_h.drew
  replace hB := hB.drew
  replace hS := Nat.le_trans hS (show v30.heap.size ≤ v30.drew.heap.size from Nat.le_refl _)
  refine wpU_val 0 hKS rfl (by kernel_rfl) (by kernel_rfl) (by kernel_rfl) rfl (fun _ _ _ _ h => h) (.agg (gArr e.at)) (fun w' h => run_load_box rfl h.1 (by simp [go_sem]) Try.underlying27 rfl (by rw [gArr_size]; kernel_rfl)) ?_
  simp only [Act.put, List.setIfInBounds_toArray, List.set_cons_zero, List.set_cons_succ]
  refine wpU_val 1 hKS rfl (by kernel_rfl) (by kernel_rfl) (by kernel_rfl) rfl (fun _ _ _ _ h => h) (.agg (gArr f.at)) (fun w' h => run_load_box rfl h.2.1 (by simp [go_sem]) Try.underlying27 rfl (by rw [gArr_size]; kernel_rfl)) ?_
  simp only [Act.put, List.setIfInBounds_toArray, List.set_cons_zero, List.set_cons_succ]
  refine wpU_call 2 hKS rfl (by kernel_rfl) (by kernel_rfl) (by kernel_rfl) rfl (fun _ _ _ _ h => h) 30 #[.agg (gArr e.at), .agg (gArr f.at)] (fun w => by simp [go_sem]) _ (C_x3.out) ?_
  simp only [Act.put, List.setIfInBounds_toArray, List.set_cons_zero, List.set_cons_succ]
  refine wpU_val 3 hKS rfl (by kernel_rfl) (by kernel_rfl) (by kernel_rfl) rfl (fun _ _ _ _ h => h) (.agg (gArr g.at)) (fun w' h => run_load_box rfl h.2.2.1 (by simp [go_sem]) Try.underlying27 rfl (by rw [gArr_size]; kernel_rfl)) ?_
  simp only [Act.put, List.setIfInBounds_toArray, List.set_cons_zero, List.set_cons_succ]
  refine wpU_val 4 hKS rfl (by kernel_rfl) (by kernel_rfl) (by kernel_rfl) rfl (fun _ _ _ _ h => h) (.agg (gArr h.at)) (fun w' h => run_load_box rfl h.2.2.2 (by simp [go_sem]) Try.underlying27 rfl (by rw [gArr_size]; kernel_rfl)) ?_
  simp only [Act.put, List.setIfInBounds_toArray, List.set_cons_zero, List.set_cons_succ]
  refine wpU_call 5 hKS rfl (by kernel_rfl) (by kernel_rfl) (by kernel_rfl) rfl (fun _ _ _ _ h => h) 30 #[.agg (gArr g.at), .agg (gArr h.at)] (fun w => by simp [go_sem]) _ (C_y3.out) ?_
  simp only [Act.put, List.setIfInBounds_toArray, List.set_cons_zero, List.set_cons_succ]
  refine wpU_val 6 hKS rfl (by kernel_rfl) (by kernel_rfl) (by kernel_rfl) rfl (fun _ _ _ _ h => h) (.agg (gArr f.at)) (fun w' h => run_load_box rfl h.2.1 (by simp [go_sem]) Try.underlying27 rfl (by rw [gArr_size]; kernel_rfl)) ?_
  simp only [Act.put, List.setIfInBounds_toArray, List.set_cons_zero, List.set_cons_succ]
  refine wpU_val 7 hKS rfl (by kernel_rfl) (by kernel_rfl) (by kernel_rfl) rfl (fun _ _ _ _ h => h) (.agg (gArr g.at)) (fun w' h => run_load_box rfl h.2.2.1 (by simp [go_sem]) Try.underlying27 rfl (by rw [gArr_size]; kernel_rfl)) ?_
  simp only [Act.put, List.setIfInBounds_toArray, List.set_cons_zero, List.set_cons_succ]
  refine wpU_call 8 hKS rfl (by kernel_rfl) (by kernel_rfl) (by kernel_rfl) rfl (fun _ _ _ _ h => h) 30 #[.agg (gArr f.at), .agg (gArr g.at)] (fun w => by simp [go_sem]) _ (C_z3.out) ?_
  simp only [Act.put, List.setIfInBounds_toArray, List.set_cons_zero, List.set_cons_succ]
  refine wpU_val 9 hKS rfl (by kernel_rfl) (by kernel_rfl) (by kernel_rfl) rfl (fun _ _ _ _ h => h) (.agg (gArr e.at)) (fun w' h => run_load_box rfl h.1 (by simp [go_sem]) Try.underlying27 rfl (by rw [gArr_size]; kernel_rfl)) ?_
  simp only [Act.put, List.setIfInBounds_toArray, List.set_cons_zero, List.set_cons_succ]
  refine wpU_val 10 hKS rfl (by kernel_rfl) (by kernel_rfl) (by kernel_rfl) rfl (fun _ _ _ _ h => h) (.agg (gArr h.at)) (fun w' h => run_load_box rfl h.2.2.2 (by simp [go_sem]) Try.underlying27 rfl (by rw [gArr_size]; kernel_rfl)) ?_
  simp only [Act.put, List.setIfInBounds_toArray, List.set_cons_zero, List.set_cons_succ]
  refine wpU_call 11 hKS rfl (by kernel_rfl) (by kernel_rfl) (by kernel_rfl) rfl (fun _ _ _ _ h => h) 30 #[.agg (gArr e.at), .agg (gArr h.at)] (fun w => by simp [go_sem]) _ (C_t3.out) ?_
  simp only [Act.put, List.setIfInBounds_toArray, List.set_cons_zero, List.set_cons_succ]
  refine wpU_val 12 hKS rfl (by kernel_rfl) (by kernel_rfl) (by kernel_rfl) rfl (fun _ _ _ _ h => h) (.agg (pArr x3 y3 z3 t3)) (fun w' h => run_build rfl _ (by simp [go_sem]) _ (build_pt x3 y3 z3 t3 _)) ?_
  simp only [Act.put, List.setIfInBounds_toArray, List.set_cons_zero, List.set_cons_succ]
  refine wpU_store_box (cells := pArr x3 y3 z3 t3) 13 rfl (by kernel_rfl) rfl 29 (.tmp 6) (.tmp 77) rfl hR (by simp [go_sem]) (by simp [go_sem]) (by rw [pArr_size x3 y3 z3 t3]; rfl) (by rw [pArr_size x3 y3 z3 t3]; kernel_rfl) (pArr_one _ _ _ _) ?_
  intro v31 v32 bv31 sS hR_ stv32
  refine ⟨⟨stv32.box sS.1 n__e_R, stv32.box sS.2.1 n__f_R, stv32.box sS.2.2.1 n__g_R, stv32.box sS.2.2.2 n__h_R⟩, ?_⟩
  simp only [Act.put]
  replace hR := hR.after bv31
  replace h_e := h_e.after bv31
  replace h_f := h_f.after bv31
  replace h_g := h_g.after bv31
  replace h_h := h_h.after bv31
  replace hB := hB.trans (bv31.mono hS)
  replace hS := Nat.le_trans hS bv31.size
  clear bv31
  replace h_e := stv32.box h_e n__e_R
  replace h_f := stv32.box h_f n__f_R
  replace h_g := stv32.box h_g n__g_R
  replace h_h := stv32.box h_h n__h_R
  replace hB := stv32.below w.heap.size w lR hB
  replace hS := Nat.le_trans hS (Nat.le_of_eq stv32.size.symm)
  clear hR stv32 sS
  have hR := hR_
  clear hR_
  refine wpU_done (by kernel_rfl) ?_
  intro v33 bv33 sS
  clear hKS sS
  replace hR := hR.after bv33
  replace h_e := h_e.after bv33
  replace h_f := h_f.after bv33
  replace h_g := h_g.after bv33
  replace h_h := h_h.after bv33
  replace hB := hB.trans (bv33.mono hS)
  replace hS := Nat.le_trans hS bv33.size
  clear bv33
  obtain ⟨GG, hG⟩ : ∃ GG, GG = pArr x3 y3 z3 t3 := ⟨_, rfl⟩
  rw [← hG] at hR
  have HGS := Lib.hid (show GG.size = 20 by rw [hG]; exact pArr_size x3 y3 z3 t3)
  have HGE := Lib.hid hG
  clear hG h_e h_f h_g h_h
  clear n_D_P n_P_D n_D_Q n_Q_D n_P_Q n_Q_P n_D_R n_R_D n_P_R n_R_P n_Q_R n_R_Q n_D__m n__m_D n_P__m n__m_P n_Q__m n__m_Q n_R__m n__m_R n_D__n n__n_D n_P__n n__n_P n_Q__n n__n_Q n_R__n n__n_R n__m__n n__n__m n_D__c n__c_D n_P__c n__c_P n_Q__c n__c_Q n_R__c n__c_R n__m__c n__c__m n__n__c n__c__n n_D__d n__d_D n_P__d n__d_P n_Q__d n__d_Q n_R__d n__d_R n__m__d n__d__m n__n__d n__d__n n__c__d n__d__c n__f__e n__g__e n__h__e n__g__f n__h__f n__h__g n_R__e n__e_R n_R__f n__f_R n_R__g n__g_R n_R__h n__h_R n__m__e n__e__m n__m__f n__f__m n__m__g n__g__m n__m__h n__h__m n__n__e n__e__n n__n__f n__f__n n__n__g n__g__n n__n__h n__h__n n__c__e n__e__c n__c__f n__f__c n__c__g n__g__c n__c__h n__h__c n__d__e n__e__d n__d__f n__f__d n__d__g n__g__d n__d__h n__h__d
  rename_i a1
  refine a1 _ _ ?_
  refine wp_ret ?_
  exact bodyPost_ret (v := .agg GG) (box_result rfl _ _ (by rfl) hR Try.underlying29 rfl (by rw [HGS.out]; kernel_rfl)) rfl ⟨x3, y3, z3, t3, by rw [HGE.out], HEx3.out, HEy3.out, HEz3.out, HEt3.out, hB⟩
end Go.Proofs.Ytpkoniebbkkmjaa

/- Points: the document's Times. -/
import Derived.Test.YtpkoniebbkkmjaaPtTm3
namespace Go.Proofs.Ytpkoniebbkkmjaa
open Go.RowKit
set_option linter.unusedVariables false
set_option linter.unusedSimpArgs false
attribute [local irreducible] fi dN xx rtN rtOk pw fa fs fm yB getOk getX

structure RmS (w : World) (b o gD : Nat) (f : Nat → Nat) (e z dA : Array Value) (w' : World) : Prop where
  P : Box w' w.heap.size 36 e
  O : Box w' (w.heap.size + 1) 36 z
  D : Box w' gD 34 dA
  B : Below w.heap.size w w'
theorem RmS.after {w : World} {b o gD : Nat} {f : Nat → Nat} {e z dA : Array Value} {w1 w2 : World} (h : RmS w b o gD f e z dA w1) (bl : Below w1.heap.size w1 w2) : RmS w b o gD f e z dA w2 :=
  ⟨h.P.after bl, h.O.after bl, h.D.after bl, h.B.trans (bl.mono h.B.size)⟩
theorem RmS.far {w : World} {b o gD : Nat} {f : Nat → Nat} {e z dA : Array Value} {w1 w2 : World} {g : Nat} (h : RmS w b o gD f e z dA w1) (st : Stored w1 w2 g) (h1 : w.heap.size + 2 ≤ gD) (h2 : gD < g) : RmS w b o gD f e z dA w2 :=
  ⟨st.box h.P (by omega), st.box h.O (by omega), st.box h.D (by omega), st.below _ _ (by omega) h.B⟩
set_option maxRecDepth 100000 in
set_option maxHeartbeats 20000000 in
theorem refTimes_is (p : PP) (e : Array Value) (b o : Nat) (f : Nat → Nat) (hp : IsQ p e) (hok : p.ok) (hf : ∀ j, f j < 256) (w : World) (hb : b < w.heap.size) (hn : ∀ j, j < 32 → w.cell? ⟨b, o + j, none⟩ = some (.int .u8 (f j : Nat))) : Calls Try.prog 24 #[.agg e, .slice (some ⟨b, o, none⟩) 32 32] w (RetQP (smul (topB f 32) p) w) := by
  have HP := Lib.hid hp
  have HSP := Lib.hid hp.size
  have HOK := Lib.hid hok
  have HN := Lib.hid hn
  have HFL := Lib.hid hf
  have HBL := Lib.hid hb
  clear hp hok hn hf hb
  go_enter Try.func24, Try.ntmps24
  go_upto_region 1 with fail
  have hP : Box ((w.alloc (.cells e 36)).alloc (.cells (Array.replicate 48 (Value.int .u64 0)) 36)) w.heap.size 36 e := ((Box.new w 36 e).alloc (.cells (Array.replicate 48 (Value.int .u64 0)) 36))
  have lP : w.heap.size ≤ w.heap.size := by omega
  have hO : Box ((w.alloc (.cells e 36)).alloc (.cells (Array.replicate 48 (Value.int .u64 0)) 36)) (w.heap.size + 1) 36 (Array.replicate 48 (Value.int .u64 0)) := by
    have := (Box.new (w.alloc (.cells e 36)) 36 (Array.replicate 48 (Value.int .u64 0)))
    simp only [World.size_alloc] at this
    exact this
  have lO : w.heap.size ≤ (w.heap.size + 1) := by omega
  have n_P_O : w.heap.size ≠ (w.heap.size + 1) := by omega
  have n_O_P : (w.heap.size + 1) ≠ w.heap.size := by omega
  have hB : Below w.heap.size w ((w.alloc (.cells e 36)).alloc (.cells (Array.replicate 48 (Value.int .u64 0)) 36)) := (((Below.refl w.heap.size w).alloc (by simp; try omega) (.cells e 36)).alloc (by simp; try omega) (.cells (Array.replicate 48 (Value.int .u64 0)) 36))
  have hS := hB.size
  change Code.wp _ _ _ _ ((w.alloc (.cells e 36)).alloc (.cells (Array.replicate 48 (Value.int .u64 0)) 36))
  generalize ((w.alloc (.cells e 36)).alloc (.cells (Array.replicate 48 (Value.int .u64 0)) 36)) = v0 at *
  go_step
  refine wpList_enterR rfl 47 #[] (by simp [go_sem]) _ (refD_p _) ?_
  rintro e v1 ⟨dA, rfl, hd, bv1⟩
  refine ⟨_, rfl, ?_⟩
  simp only [Act.put, List.setIfInBounds_toArray, List.set_cons_zero, List.set_cons_succ]
  replace hP := hP.after bv1
  replace hO := hO.after bv1
  replace hB := hB.trans (bv1.mono hS)
  replace hS := Nat.le_trans hS bv1.size
  clear bv1
  have HD := Lib.hid hd
  clear hd
  refine wpList_new rfl 34 rfl (Array.replicate 16 (Value.int .u64 0)) (by intro w; simp [go_sem]; rfl) ?_
  intro gD v2 hD lD bv2
  have hgd : w.heap.size + 2 ≤ gD := by have := hO.lt; omega
  simp only [Act.put, List.setIfInBounds_toArray, List.set_cons_zero, List.set_cons_succ]
  have n_P_D := hP.before lD
  have n_D_P := hP.behind lD
  have n_O_D := hO.before lD
  have n_D_O := hO.behind lD
  replace lD := Nat.le_trans hS lD
  replace hP := hP.after bv2
  replace hO := hO.after bv2
  replace hB := hB.trans (bv2.mono hS)
  replace hS := Nat.le_trans hS bv2.size
  clear bv2
  refine wpList_store_box (cells := dA) rfl 34 (.tmp 5) (.tmp 10) rfl hD (by rfl) (by rfl) (by rw [HD.out.size]; rfl) (by rw [HD.out.size]; kernel_rfl) (HD.out.one) ?_
  intro v3 hD_ stv3
  simp only [Act.put]
  replace hP := stv3.box hP n_P_D
  replace hO := stv3.box hO n_O_D
  replace hB := stv3.below w.heap.size w lD hB
  replace hS := Nat.le_trans hS (Nat.le_of_eq stv3.size.symm)
  clear hD stv3
  have hD := hD_
  clear hD_
  go_upto_region 2 with fail
  go_step
  refine wpList_enterR rfl 50 #[] (by simp [go_sem]) _ (refZero_p _) ?_
  rintro e v4 ⟨oz, rfl, hz, bv4⟩
  refine ⟨_, rfl, ?_⟩
  simp only [Act.put, List.setIfInBounds_toArray, List.set_cons_zero, List.set_cons_succ]
  replace hP := hP.after bv4
  replace hO := hO.after bv4
  replace hD := hD.after bv4
  replace hB := hB.trans (bv4.mono hS)
  replace hS := Nat.le_trans hS bv4.size
  clear bv4
  have HZ : Hid (IsQ (smul (topI f 0) p) oz) := Lib.hid (by rw [topI_zero, smul_zero]; exact hz)
  clear hz
  refine wpList_new rfl 36 rfl (Array.replicate 48 (Value.int .u64 0)) (by intro w; simp [go_sem]; rfl) ?_
  intro gR v5 hR lR bv5
  have hgr : gD < gR := by have := hD.lt; omega
  simp only [Act.put, List.setIfInBounds_toArray, List.set_cons_zero, List.set_cons_succ]
  have n_P_R := hP.before lR
  have n_R_P := hP.behind lR
  have n_O_R := hO.before lR
  have n_R_O := hO.behind lR
  have n_D_R := hD.before lR
  have n_R_D := hD.behind lR
  replace lR := Nat.le_trans hS lR
  replace hP := hP.after bv5
  replace hO := hO.after bv5
  replace hD := hD.after bv5
  replace hB := hB.trans (bv5.mono hS)
  replace hS := Nat.le_trans hS bv5.size
  clear bv5
  refine wpList_store_box (cells := oz) rfl 36 (.tmp 6) (.tmp 11) rfl hR (by rfl) (by rfl) (by rw [HZ.out.size]; rfl) (by rw [HZ.out.size]; kernel_rfl) (HZ.out.one) ?_
  intro v6 hR_ stv6
  simp only [Act.put]
  replace hP := stv6.box hP n_P_R
  replace hO := stv6.box hO n_O_R
  replace hD := stv6.box hD n_D_R
  replace hB := stv6.below w.heap.size w lR hB
  replace hS := Nat.le_trans hS (Nat.le_of_eq stv6.size.symm)
  clear hR stv6
  have hR := hR_
  clear hR_
  have TM : Hid (RmS w b o gD f e (Array.replicate 48 (Value.int .u64 0)) dA v6) := Lib.hid ⟨hP, hO, hD, hB⟩
  have HR := Lib.hid hR
  clear hP hO hD hB hR hS n_P_O n_O_P n_P_D n_D_P n_O_D n_D_O n_P_R n_R_P n_O_R n_R_O n_D_R n_R_D lP lO lD lR
  go_upto_region 4 with fail
  go_loopw [7] (fun i wr => ∃ (m : Nat) (o_ : Array Value), m ≤ 256 ∧ i = .int .i64 (255 - (m : Int)) ∧ IsQ (smul (topI f m) p) o_ ∧ RmS w b o gD f e (Array.replicate 48 (Value.int .u64 0)) dA wr ∧ Box wr gR 36 o_) (fun i _ => (intOf i + 1).toNat)
  case atStart => exact ⟨0, oz, by omega, rfl, HZ.out, TM.out, HR.out⟩
  case round =>
    clear TM HZ HR
    obtain ⟨wa, rfl⟩ : ∃ wa : World, wa = wr := ⟨_, rfl⟩
    obtain ⟨m, o1, hm, rfl, ho, tm, hr⟩ := hrel
    have HO := Lib.hid ho
    have TM := Lib.hid tm
    have HR := Lib.hid hr
    clear ho tm hr
    by_cases hlt : m < 256
    case neg =>
      obtain rfl : m = 256 := by omega
      have HT : Hid (IsQ (smul (topB f 32) p) o1) := Lib.hid (by rw [← topI_eq f HFL.out 32 (by omega)]; exact HO.out)
      have hO := TM.out.O
      go_wp2_with first | (refine wpList_load_box rfl 36 _ rfl HR.out (by rfl) Try.underlying36 rfl (by rw [HT.out.size]; kernel_rfl) ?_) | (refine wpList_store_box (cells := o1) rfl 36 _ _ rfl hO (by rfl) (by rfl) (by rw [HT.out.size]; rfl) (by rw [HT.out.size]; kernel_rfl) HT.out.one ?_; intro u9 X9 st9)
      exact bodyPost_ret (v := .agg o1) (box_result rfl _ _ (by rfl) X9 Try.underlying36 rfl (by rw [HT.out.size]; kernel_rfl)) rfl ⟨o1, rfl, HT.out, st9.below w.heap.size w (by omega) TM.out.B⟩
    case pos =>
      obtain ⟨j, hj⟩ : ∃ j : Nat, j = 255 - m := ⟨_, rfl⟩
      have hji : (255 : Int) - (m : Int) = (j : Nat) := by omega
      rw [hji]
      have HJ := Lib.hid hj
      have hj255 : j ≤ 255 := by omega
      clear hj hji
      have hj0 : (0 : Int) ≤ (j : Nat) := by omega
      obtain ⟨q, hq⟩ : ∃ q, q = j / 8 := ⟨_, rfl⟩
      obtain ⟨r, hr⟩ : ∃ r, r = j % 8 := ⟨_, rfl⟩
      obtain ⟨c, hc⟩ : ∃ c, c = f q := ⟨_, rfl⟩
      obtain ⟨x, hx⟩ : ∃ x, x = c / 2 ^ r := ⟨_, rfl⟩
      have hr8 : r < 8 := by omega
      have hq32 : q < 32 := by omega
      have hc256 : c < 256 := by rw [hc]; exact HFL.out q
      have HSUC : Hid (topI f (m + 1) = 2 * topI f m + x % 2) := Lib.hid (by rw [topI_succ, ← HJ.out, ← hq, ← hr, ← hc, ← hx])
      have HGN := Lib.hid (show w.cell? ⟨b, o + q, none⟩ = some (.int .u8 (c : Nat)) by rw [hc]; exact HN.out q hq32)
      have i1 : (j : Int).tdiv 8 = (q : Int) := by rw [Int.tdiv_eq_ediv_of_nonneg (by omega)]; omega
      have i2 : (j : Int).tmod 8 = (r : Int) := by rw [Int.tmod_eq_emod_of_nonneg (by omega)]; omega
      have j1 : (j : Int) / 8 = (q : Int) := by omega
      have j2 : (j : Int) % 8 = (r : Int) := by omega
      have hqi : (q : Int) < 32 := by omega
      have hjm : j + m = 255 := by have := HJ.out; omega
      have HXC := Lib.hid hx
      have hx256 : x < 256 := by rw [hx]; exact Nat.lt_of_le_of_lt (Nat.div_le_self _ _) hc256
      clear hq hr hc hx

      go_wp2_with first | (refine wpList_load_box rfl 36 _ rfl HR.out (by rfl) Try.underlying36 rfl (by rw [HO.out.size]; kernel_rfl) ?_) | (refine wpList_load_box rfl 36 _ rfl TM.out.P (by rfl) Try.underlying36 rfl (by rw [HSP.out]; kernel_rfl) ?_) | (refine wpList_load_box rfl 34 _ rfl TM.out.D (by rfl) Try.underlying34 rfl (by rw [HD.out.size]; kernel_rfl) ?_)
      refine (refAdd0_p HD.out HO.out HO.out _).mono ?_
      rintro e_ z1 ⟨o2, rfl, he, b1⟩
      have HE : Hid (IsQ (smul (2 * topI f m) p) o2) := Lib.hid (by rw [Nat.two_mul, smul_add HOK.out]; exact he)
      replace TM := Lib.hid (TM.out.after b1)
      replace HR := Lib.hid (HR.out.after b1)
      clear he b1
      go_upto_region 7 with (refine wpList_store_box (cells := o2) rfl 36 _ _ rfl HR.out (by rfl) (by rfl) (by rw [HO.out.size, HE.out.size]) (by rw [HE.out.size]; kernel_rfl) HE.out.one ?_; intro u9 X9 st9)
      have TM' := Lib.hid (TM.out.far st9 hgd hgr)
      clear TM HR HO
      have TM := TM'
      have HR := Lib.hid X9
      have HO := HE
      clear TM' HE X9 st9
      generalize u9 = o2w at *

      have hcell := (World.cell?_of_block (a := ⟨b, o + q, none⟩) (TM.out.B.block b HBL.out)).trans HGN.out
      go_upto_region 9 with fail
      go_loopw [8, 9] (fun cc i wr => ∃ k : Nat, k ≤ r ∧ i = .int .i64 k ∧ cc = .int .u8 (c / 2 ^ k : Nat) ∧ RmS w b o gD f e (Array.replicate 48 (Value.int .u64 0)) dA wr ∧ Box wr gR 36 o2) (fun _ i _ => r - (intOf i).toNat)
      case atStart => exact ⟨0, Nat.zero_le _, rfl, by simp, TM.out, HR.out⟩
      case round =>
        clear TM HR hcell
        obtain ⟨k, hk, rfl, rfl, tm, hr⟩ := hrel
        have TM := Lib.hid tm
        have HR := Lib.hid hr
        clear tm hr
        by_cases hkr : k < r
        case pos =>
          have hkri : (k : Int) < r := by omega
          obtain ⟨y, hy⟩ : ∃ y, y = c / 2 ^ k := ⟨_, rfl⟩
          rw [← hy]
          have hy256 : y < 256 := by rw [hy]; exact Nat.lt_of_le_of_lt (Nat.div_le_self _ _) hc256
          have HY : Hid (y / 2 = c / 2 ^ (k + 1)) := Lib.hid (by rw [hy, Nat.div_div_eq_div_mul, Nat.pow_succ])
          clear hy
          go_wp2_with fail
          go_roundw
          case rel => exact ⟨k + 1, by omega, by go_num, by rw [← HY.out]; go_num, TM.out, HR.out⟩
          case measure => simp [intOf] <;> omega
        case neg =>
          have hkri : ¬ (k : Int) < r := by omega
          have hkx : c / 2 ^ k = x := by rw [HXC.out, show k = r by omega]
          rw [hkx]
          clear hkx
          rcases Nat.mod_two_eq_zero_or_one x with hx2 | hx2
          · have HX2 := Lib.hid hx2
            have x2i : (x : Int) % 2 = 0 := by omega
            have x2t : (x : Int).tmod 2 = 0 := by rw [Int.tmod_eq_emod_of_nonneg (by omega)]; omega
            clear hx2
            go_wp2_with fail
            go_roundw
            case rel => exact ⟨m + 1, o2, by omega, by go_num, by rw [HSUC.out, HX2.out]; exact HO.out, TM.out, HR.out⟩
            case measure => simp [intOf] <;> omega
          · have HX2 := Lib.hid hx2
            have x2i : (x : Int) % 2 = 1 := by omega
            have x2t : (x : Int).tmod 2 = 1 := by rw [Int.tmod_eq_emod_of_nonneg (by omega)]; omega
            clear hx2

            go_wp2_with first | (refine wpList_load_box rfl 36 _ rfl HR.out (by rfl) Try.underlying36 rfl (by rw [HO.out.size]; kernel_rfl) ?_) | (refine wpList_load_box rfl 36 _ rfl TM.out.P (by rfl) Try.underlying36 rfl (by rw [HSP.out]; kernel_rfl) ?_) | (refine wpList_load_box rfl 34 _ rfl TM.out.D (by rfl) Try.underlying34 rfl (by rw [HD.out.size]; kernel_rfl) ?_)
            refine (refAdd0_p HD.out HO.out HP.out _).mono ?_
            rintro e_ z1 ⟨o3, rfl, he, b1⟩
            have HE : Hid (IsQ (smul (2 * topI f m + 1) p) o3) := Lib.hid (by rw [smul_succ]; exact he)
            replace TM := Lib.hid (TM.out.after b1)
            replace HR := Lib.hid (HR.out.after b1)
            clear he b1
            go_upto_region 5 with (refine wpList_store_box (cells := o3) rfl 36 _ _ rfl HR.out (by rfl) (by rfl) (by rw [HO.out.size, HE.out.size]) (by rw [HE.out.size]; kernel_rfl) HE.out.one ?_; intro u9 X9 st9)
            have TM' := Lib.hid (TM.out.far st9 hgd hgr)
            clear TM HR HO
            have TM := TM'
            have HR := Lib.hid X9
            have HO := HE
            clear TM' HE X9 st9
            generalize u9 = o3w at *

            go_wp2_with fail
            go_roundw
            case rel => exact ⟨m + 1, o3, by omega, by go_num, by rw [HSUC.out, HX2.out]; exact HO.out, TM.out, HR.out⟩
            case measure => simp [intOf] <;> omega


end Go.Proofs.Ytpkoniebbkkmjaa

/- Points: contracts by cells; PointCounts. -/
import Derived.Test.YtpkoniebbkkmjaaPtTm1
namespace Go.Proofs.Ytpkoniebbkkmjaa
open Go.RowKit
set_option linter.unusedVariables false
set_option linter.unusedSimpArgs false
attribute [local irreducible] fi dN xx rtN rtOk pw fa fs fm yB getOk getX

theorem split_two (l : List UInt8) (h : l.length = 32) : ∃ r q, r < 2 ^ 255 ∧ q < 2 ∧ l = leBytes (r + 2 ^ 255 * q) 32 := by
  have h1 := bytes_of l
  have h2 := leNat_lt l
  rw [h] at h1 h2
  refine ⟨leNat l % 2 ^ 255, leNat l / 2 ^ 255, Nat.mod_lt _ (by simp only [Nat.reducePow]; omega), by simp only [Nat.reducePow] at *; omega, ?_⟩
  rw [Nat.mod_add_div]
  exact h1
def IsQ (a : PP) (e : Array Value) : Prop := ∃ u v n : Nat, e = qArr u v n ∧ Rep3 u v n a
theorem IsQ.size {a : PP} {e : Array Value} (h : IsQ a e) : e.size = 48 := by
  obtain ⟨x, y, z, rfl, _⟩ := h
  exact qArr_size x y z
theorem IsQ.one {a : PP} {e : Array Value} (h : IsQ a e) : e.all (·.oneCell') = true := by
  obtain ⟨x, y, z, rfl, _⟩ := h
  exact qArr_one x y z
theorem IsPt.ok {a : PP} {e : Array Value} (h : IsPt a e) : a.ok := by
  obtain ⟨x, y, z, t, rfl, X, Y, Z, T, _, _, _, _, hr⟩ := h
  exact hr.ok
structure TwoP (ok : Bool) (a : PP) (ep eq : Array Value) : Prop where
  s1 : ep.size = 20
  o1 : ep.all (·.oneCell') = true
  s2 : eq.size = 48
  o2 : eq.all (·.oneCell') = true
  is : ok = true → IsPt a ep ∧ IsQ a eq
theorem two_p (l : List UInt8) (hl : l.length = 32) (w : World) : Calls Try.prog 14 #[.agg (lCells l).toArray] w fun e w' => ∃ (ep eq : Array Value) (ok : Bool) (a : PP), e = .returned (.tuple #[.agg ep, .agg eq, .bool ok]) ∧ TwoP ok a ep eq ∧ Below w.heap.size w w' := by
  obtain ⟨r, q, hr, hq, rfl⟩ := split_two l hl
  refine (two_is r q hr hq w).mono ?_
  generalize getOk r q = ok
  generalize (PP.mk (getX r q) r) = a
  rintro e w' ⟨x, y, z, t, u, v, n, rfl, h1, h2⟩
  exact ⟨_, _, _, _, rfl, ⟨pArr_size _ _ _ _, pArr_one _ _ _ _, qArr_size _ _ _, qArr_one _ _ _, fun h => ⟨⟨x, y, z, t, rfl, (h1 h).1⟩, ⟨u, v, n, rfl, (h1 h).2⟩⟩⟩, h2⟩
theorem same_p {a : PP} {e1 e2 : Array Value} (h1 : IsPt a e1) (h2 : IsPt a e2) (w : World) : Calls Try.prog 19 #[.agg e1, .agg e2] w fun e w' => e = .returned (.bool true) ∧ Below w.heap.size w w' := by
  obtain ⟨x, y, z, t, rfl, h1⟩ := h1
  obtain ⟨x2, y2, z2, t2, rfl, h2⟩ := h2
  exact same_yes x y z t x2 y2 z2 t2 a a h1 h2 rfl w
theorem add_p {a b : PP} {ea eb : Array Value} (ha : IsPt a ea) (hb : IsPt b eb) (w : World) : Calls Try.prog 15 #[.agg ea, .agg eb] w (RetP (padd a b) w) := by
  obtain ⟨x, y, z, t, rfl, ha⟩ := ha
  obtain ⟨x2, y2, z2, t2, rfl, hb⟩ := hb
  exact (add_is x y z t x2 y2 z2 t2 a b ha hb w).mono fun e w' h => h.toP
theorem base_p (w : World) : Calls Try.prog 21 #[] w (RetP pbase w) := (base_is w).mono fun e w' h => h.toP

/-! a small number's bytes -/
def smA (c : Nat) : Array Value := #[.int .u8 (c : Nat), .int .u8 0, .int .u8 0, .int .u8 0, .int .u8 0, .int .u8 0, .int .u8 0, .int .u8 0, .int .u8 0, .int .u8 0, .int .u8 0, .int .u8 0, .int .u8 0, .int .u8 0, .int .u8 0, .int .u8 0, .int .u8 0, .int .u8 0, .int .u8 0, .int .u8 0, .int .u8 0, .int .u8 0, .int .u8 0, .int .u8 0, .int .u8 0, .int .u8 0, .int .u8 0, .int .u8 0, .int .u8 0, .int .u8 0, .int .u8 0, .int .u8 0]
theorem sm_bytes (c : Nat) (hc : c < 256) : BytesOf (smA c) (fun j => if j = 0 then c else 0) := by
  refine ⟨rfl, fun j => by split <;> omega, fun j hj => ?_⟩
  have : ∀ j : Fin 32, (smA c)[j.val]? = some (.int .u8 ((if j.val = 0 then c else 0 : Nat) : Int)) := by
    intro j
    match j with
    | ⟨0, _⟩ => rfl
    | ⟨1, _⟩ => rfl
    | ⟨2, _⟩ => rfl
    | ⟨3, _⟩ => rfl
    | ⟨4, _⟩ => rfl
    | ⟨5, _⟩ => rfl
    | ⟨6, _⟩ => rfl
    | ⟨7, _⟩ => rfl
    | ⟨8, _⟩ => rfl
    | ⟨9, _⟩ => rfl
    | ⟨10, _⟩ => rfl
    | ⟨11, _⟩ => rfl
    | ⟨12, _⟩ => rfl
    | ⟨13, _⟩ => rfl
    | ⟨14, _⟩ => rfl
    | ⟨15, _⟩ => rfl
    | ⟨16, _⟩ => rfl
    | ⟨17, _⟩ => rfl
    | ⟨18, _⟩ => rfl
    | ⟨19, _⟩ => rfl
    | ⟨20, _⟩ => rfl
    | ⟨21, _⟩ => rfl
    | ⟨22, _⟩ => rfl
    | ⟨23, _⟩ => rfl
    | ⟨24, _⟩ => rfl
    | ⟨25, _⟩ => rfl
    | ⟨26, _⟩ => rfl
    | ⟨27, _⟩ => rfl
    | ⟨28, _⟩ => rfl
    | ⟨29, _⟩ => rfl
    | ⟨30, _⟩ => rfl
    | ⟨31, _⟩ => rfl
    | ⟨k + 32, h⟩ => exact absurd h (by omega)
  exact this ⟨j, hj⟩
theorem sm_top (c : Nat) : topB (fun j => if j = 0 then c else 0) 32 = c := by simp [topB]
theorem build_sm (c : Nat) (w : World) : (Instr.build 39 #[(0, .int .u8 (c : Nat))]).run Try.prog w = .ok (.agg (smA c)) w := by kernel_rfl

set_option maxRecDepth 100000 in
set_option maxHeartbeats 20000000 in
theorem PointCounts_walk (l0 : List UInt8) (a1 : Int) (w : World) (h0 : l0.length = 32) (h1 : (Lit.int .u8 a1).wf = true) : Calls Try.prog 7 #[.agg (lCells l0).toArray, .int .u8 a1] w fun e w' => e = .returned (.bool true) ∧ Below w.heap.size w w' := by
  have HTW := Lib.hid (fun w' => two_p l0 h0 w')
  have HSL := Lib.hid (show (lCells l0).toArray.size = 32 by simp [lCells, h0])
  have ha : 0 ≤ a1 ∧ a1 ≤ 255 := by simpa [Lit.wf, IntKind.min, IntKind.max, IntKind.signed, IntKind.bits] using h1
  obtain ⟨c, hc⟩ : ∃ c : Nat, c = a1.toNat % 21 := ⟨_, rfl⟩
  have i1 : a1.tmod 21 = (c : Int) := by rw [Int.tmod_eq_emod_of_nonneg (by omega)]; omega
  have j1 : a1 % 21 = (c : Int) := by omega
  have hc21 : c < 21 := by omega
  have HI := Lib.hid i1
  have HJ := Lib.hid j1
  have HC := Lib.hid hc21
  clear hc i1 j1 h0 h1 ha hc21
  generalize (lCells l0).toArray = nA at *
  go_enter Try.func7, Try.ntmps7
  go_upto_region 1 with fail
  have hN : Box (w.alloc (.cells nA 39)) w.heap.size 39 nA := (Box.new w 39 nA)
  have lN : w.heap.size ≤ w.heap.size := by omega
  have hB : Below w.heap.size w (w.alloc (.cells nA 39)) := ((Below.refl w.heap.size w).alloc (by simp; try omega) (.cells nA 39))
  have hS := hB.size
  change Code.wp _ _ _ _ (w.alloc (.cells nA 39))
  generalize (w.alloc (.cells nA 39)) = v0 at *
  go_step
  refine wpList_load_box rfl 39 _ rfl hN (by rfl) Try.underlying39 rfl (by rw [HSL.out]; kernel_rfl) ?_
  simp only [Act.put, List.setIfInBounds_toArray, List.set_cons_zero, List.set_cons_succ]
  refine wpList_enterR rfl 14 #[.agg nA] (by simp [go_sem]) _ (HTW.out _) ?_
  rintro e v1 ⟨ep, eq, ok, a, rfl, ht, bv1⟩
  refine ⟨_, rfl, ?_⟩
  simp only [Act.put, List.setIfInBounds_toArray, List.set_cons_zero, List.set_cons_succ]
  replace hN := hN.after bv1
  replace hB := hB.trans (bv1.mono hS)
  replace hS := Nat.le_trans hS bv1.size
  clear bv1
  have TW := Lib.hid ht
  clear ht HTW
  refine wpList_value rfl (.tuple #[.agg ep, .agg eq, .bool ok]) (by simp [go_sem]) ?_
  simp only [Act.put, List.setIfInBounds_toArray, List.set_cons_zero, List.set_cons_succ]
  refine wpList_value rfl (.agg ep) (by simp [go_sem]) ?_
  simp only [Act.put, List.setIfInBounds_toArray, List.set_cons_zero, List.set_cons_succ]
  refine wpList_value rfl (.agg eq) (by simp [go_sem]) ?_
  simp only [Act.put, List.setIfInBounds_toArray, List.set_cons_zero, List.set_cons_succ]
  refine wpList_value rfl (.bool ok) (by simp [go_sem]) ?_
  simp only [Act.put, List.setIfInBounds_toArray, List.set_cons_zero, List.set_cons_succ]
  refine wpList_new rfl 29 rfl #[.int .u64 0, .int .u64 0, .int .u64 0, .int .u64 0, .int .u64 0, .int .u64 0, .int .u64 0, .int .u64 0, .int .u64 0, .int .u64 0, .int .u64 0, .int .u64 0, .int .u64 0, .int .u64 0, .int .u64 0, .int .u64 0, .int .u64 0, .int .u64 0, .int .u64 0, .int .u64 0] (by intro w; simp [go_sem]) ?_
  intro gP v2 hP lP bv2
  simp only [Act.put, List.setIfInBounds_toArray, List.set_cons_zero, List.set_cons_succ]
  have n_N_P := hN.before lP
  have n_P_N := hN.behind lP
  replace lP := Nat.le_trans hS lP
  replace hN := hN.after bv2
  replace hB := hB.trans (bv2.mono hS)
  replace hS := Nat.le_trans hS bv2.size
  clear bv2
  refine wpList_new rfl 36 rfl (Array.replicate 48 (Value.int .u64 0)) (by intro w; simp [go_sem]; rfl) ?_
  intro gQ v3 hQ lQ bv3
  simp only [Act.put, List.setIfInBounds_toArray, List.set_cons_zero, List.set_cons_succ]
  have n_N_Q := hN.before lQ
  have n_Q_N := hN.behind lQ
  have n_P_Q := hP.before lQ
  have n_Q_P := hP.behind lQ
  replace lQ := Nat.le_trans hS lQ
  replace hN := hN.after bv3
  replace hP := hP.after bv3
  replace hB := hB.trans (bv3.mono hS)
  replace hS := Nat.le_trans hS bv3.size
  clear bv3
  refine wpList_store_box (cells := ep) rfl 29 (.tmp 5) (.tmp 13) rfl hP (by rfl) (by rfl) (by rw [TW.out.s1]; rfl) (by rw [TW.out.s1]; kernel_rfl) (TW.out.o1) ?_
  intro v4 hP_ stv4
  simp only [Act.put]
  replace hN := stv4.box hN n_N_P
  replace hQ := stv4.box hQ n_Q_P
  replace hB := stv4.below w.heap.size w lP hB
  replace hS := Nat.le_trans hS (Nat.le_of_eq stv4.size.symm)
  clear hP stv4
  have hP := hP_
  clear hP_
  refine wpList_store_box (cells := eq) rfl 36 (.tmp 6) (.tmp 14) rfl hQ (by rfl) (by rfl) (by rw [TW.out.s2]; rfl) (by rw [TW.out.s2]; kernel_rfl) (TW.out.o2) ?_
  intro v5 hQ_ stv5
  simp only [Act.put]
  replace hN := stv5.box hN n_N_Q
  replace hP := stv5.box hP n_P_Q
  replace hB := stv5.below w.heap.size w lQ hB
  replace hS := Nat.le_trans hS (Nat.le_of_eq stv5.size.symm)
  clear hQ stv5
  have hQ := hQ_
  clear hQ_
  refine wpList_value rfl (.bool ok) (by simp [go_sem]) ?_
  simp only [Act.put, List.setIfInBounds_toArray, List.set_cons_zero, List.set_cons_succ]
  clear hN hQ n_N_P n_P_N n_N_Q n_Q_N n_P_Q n_Q_P lN lQ
  cases ok with
  | false =>
    go_upto_region 3 with fail
    go_step
    refine wpList_enterR rfl 21 #[] (by simp [go_sem]) _ (base_p _) ?_
    rintro e v6 ⟨eb, rfl, hb, bv6⟩
    refine ⟨_, rfl, ?_⟩
    simp only [Act.put, List.setIfInBounds_toArray, List.set_cons_zero, List.set_cons_succ]
    replace hP := hP.after bv6
    replace hB := hB.trans (bv6.mono hS)
    replace hS := Nat.le_trans hS bv6.size
    clear bv6
    have HA := Lib.hid hb
    clear hb
    refine wpList_store_box (cells := eb) rfl 29 (.tmp 5) (.tmp 18) rfl hP (by rfl) (by rfl) (by rw [TW.out.s1, HA.out.size]) (by rw [HA.out.size]; kernel_rfl) (HA.out.one) ?_
    intro v7 hP_ stv7
    simp only [Act.put]
    replace hB := stv7.below w.heap.size w lP hB
    replace hS := Nat.le_trans hS (Nat.le_of_eq stv7.size.symm)
    clear hP stv7
    have hP := hP_
    clear hP_
    go_upto_region 4 with fail
    go_step
    refine wpList_enterR rfl 20 #[] (by simp [go_sem]) _ (zero_p _) ?_
    rintro e v8 ⟨oz, rfl, hz, bv8⟩
    refine ⟨_, rfl, ?_⟩
    simp only [Act.put, List.setIfInBounds_toArray, List.set_cons_zero, List.set_cons_succ]
    replace hP := hP.after bv8
    replace hB := hB.trans (bv8.mono hS)
    replace hS := Nat.le_trans hS bv8.size
    clear bv8
    have HZ : Hid (IsPt (smul 0 pbase) oz) := Lib.hid (by rw [smul_zero]; exact hz)
    clear hz
    refine wpList_new rfl 29 rfl #[.int .u64 0, .int .u64 0, .int .u64 0, .int .u64 0, .int .u64 0, .int .u64 0, .int .u64 0, .int .u64 0, .int .u64 0, .int .u64 0, .int .u64 0, .int .u64 0, .int .u64 0, .int .u64 0, .int .u64 0, .int .u64 0, .int .u64 0, .int .u64 0, .int .u64 0, .int .u64 0] (by intro w; simp [go_sem]) ?_
    intro gM v9 hM lM bv9
    simp only [Act.put, List.setIfInBounds_toArray, List.set_cons_zero, List.set_cons_succ]
    have n_P_M := hP.before lM
    have n_M_P := hP.behind lM
    replace lM := Nat.le_trans hS lM
    replace hP := hP.after bv9
    replace hB := hB.trans (bv9.mono hS)
    replace hS := Nat.le_trans hS bv9.size
    clear bv9
    refine wpList_store_box (cells := oz) rfl 29 (.tmp 8) (.tmp 19) rfl hM (by rfl) (by rfl) (by rw [HZ.out.size]; rfl) (by rw [HZ.out.size]; kernel_rfl) (HZ.out.one) ?_
    intro v10 hM_ stv10
    simp only [Act.put]
    replace hP := stv10.box hP n_P_M
    replace hB := stv10.below w.heap.size w lM hB
    replace hS := Nat.le_trans hS (Nat.le_of_eq stv10.size.symm)
    clear hM stv10
    have hM := hM_
    clear hM_
    have CT := Lib.hid (fun w' => times_is pbase eb (smA c) _ HA.out HA.out.ok (sm_bytes c (by have := HC.out; omega)) w')
    rw [sm_top] at CT
    have i1 := HI.out
    have j1 := HJ.out
    go_upto_region 6 with fail
    go_loopw [9] (fun i wr => ∃ (k : Nat) (s : Array Value), k ≤ c ∧ i = .int .i64 k ∧ IsPt (smul k pbase) s ∧ Box wr gP 29 eb ∧ Box wr gM 29 s ∧ Below w.heap.size w wr) (fun i _ => c - (intOf i).toNat)
    case atStart => exact ⟨0, oz, Nat.zero_le _, rfl, HZ.out, hP, hM, hB⟩
    case round =>
      clear HZ hP hM hB hS
      obtain ⟨k, s, hk, rfl, hs, hP, hM, hB⟩ := hrel
      have HO := Lib.hid hs
      have XP := Lib.hid hP
      have XM := Lib.hid hM
      have BB := Lib.hid hB
      clear hs hP hM hB
      by_cases hlt : k < c
      case pos =>
        have hlti : (k : Int) < c := by omega
        have HCC := HC.out
        go_wp2_with first | (refine wpList_load_box rfl 29 _ rfl XM.out (by rfl) Try.underlying29 rfl (by rw [HO.out.size]; kernel_rfl) ?_) | (refine wpList_load_box rfl 29 _ rfl XP.out (by rfl) Try.underlying29 rfl (by rw [HA.out.size]; kernel_rfl) ?_)
        refine (add_p HO.out HA.out _).mono ?_
        rintro e_ z1 ⟨en, rfl, he, b1⟩
        have HE : Hid (IsPt (smul (k + 1) pbase) en) := Lib.hid (by rw [smul_succ]; exact he)
        replace XP := Lib.hid (XP.out.after b1)
        replace XM := Lib.hid (XM.out.after b1)
        replace BB := Lib.hid (BB.out.trans (b1.mono BB.out.size))
        clear he b1
        go_upto_region 7 with (refine wpList_store_box (cells := en) rfl 29 _ _ rfl XM.out (by rfl) (by rfl) (by rw [HO.out.size, HE.out.size]) (by rw [HE.out.size]; kernel_rfl) HE.out.one ?_; intro u9 X9 st9)
        have XP2 := Lib.hid (st9.box XP.out n_P_M)
        have XM2 := Lib.hid X9
        have BB2 := Lib.hid (st9.below w.heap.size w lM BB.out)
        clear XP XM BB HO st9 X9
        go_wp2_with fail
        go_roundw
        case rel => exact ⟨k + 1, en, by omega, by go_num, HE.out, XP2.out, XM2.out, BB2.out⟩
        case measure => simp [intOf] <;> omega
      case neg =>
        have hlti : ¬ (k : Int) < c := by omega
        have hkc : k = c := by omega
        have HK : Hid (IsPt (smul c pbase) s) := Lib.hid (by rw [← hkc]; exact HO.out)
        clear hkc HO
        go_upto_region 9 with fail
        have hKS : Keeps (fun w' => Box w' gP 29 eb ∧ Box w' gM 29 s ∧ Below w.heap.size w w') := fun w1 w2 h b => ⟨h.1.after b, h.2.1.after b, h.2.2.trans (b.mono h.2.2.size)⟩
        refine wp_region_U (w := wr) (fun w' => Box w' gP 29 eb ∧ Box w' gM 29 s ∧ Below w.heap.size w w') rfl (hKS _ _ ⟨XP.out, XM.out, BB.out⟩ (Below.refl _ _).drew) ?_

        refine wpU_val 0 hKS rfl (by kernel_rfl) (by kernel_rfl) (by kernel_rfl) rfl (fun _ _ _ _ h => h) (.agg eb) (fun w' h => run_load_box rfl h.1 (by simp [go_sem]) Try.underlying29 rfl (by rw [HA.out.size]; kernel_rfl)) ?_
        simp only [Act.put, List.setIfInBounds_toArray, List.set_cons_zero, List.set_cons_succ]
        refine wpU_val 1 hKS rfl (by kernel_rfl) (by kernel_rfl) (by kernel_rfl) rfl (fun _ _ _ _ h => h) (.int .u8 a1) (fun w' h => by simp [go_sem]) ?_
        simp only [Act.put, List.setIfInBounds_toArray, List.set_cons_zero, List.set_cons_succ]
        refine wpU_val 2 hKS rfl (by kernel_rfl) (by kernel_rfl) (by kernel_rfl) rfl (fun _ _ _ _ h => h) (.int .u8 c) (fun w' h => by simp [go_sem, i1, j1]) ?_
        simp only [Act.put, List.setIfInBounds_toArray, List.set_cons_zero, List.set_cons_succ]
        refine wpU_val 3 hKS rfl (by kernel_rfl) (by kernel_rfl) (by kernel_rfl) rfl (fun _ _ _ _ h => h) (.agg (smA c)) (fun w' h => run_build rfl _ (by simp [go_sem]) _ (build_sm c _)) ?_
        simp only [Act.put, List.setIfInBounds_toArray, List.set_cons_zero, List.set_cons_succ]
        refine wpU_val 5 hKS rfl (by kernel_rfl) (by kernel_rfl) (by kernel_rfl) rfl (fun _ _ _ _ h => h) (.agg s) (fun w' h => run_load_box rfl h.2.1 (by simp [go_sem]) Try.underlying29 rfl (by rw [HK.out.size]; kernel_rfl)) ?_
        simp only [Act.put, List.setIfInBounds_toArray, List.set_cons_zero, List.set_cons_succ]
        refine wpU_one 4 rfl (by kernel_rfl) rfl ?_
        intro z1 b1 s1
        refine wp_callR 22 #[.agg eb, .agg (smA c)] (by simp [go_sem]) _ (CT.out z1) ?_
        rintro e_ z2 ⟨en, rfl, he, b2⟩
        have HE := Lib.hid he
        refine ⟨_, rfl, hKS _ _ s1 b2, ?_⟩
        clear he s1 b1 b2
        simp only [Act.put, List.setIfInBounds_toArray, List.set_cons_zero, List.set_cons_succ]
        refine wpU_call 6 hKS rfl (by kernel_rfl) (by kernel_rfl) (by kernel_rfl) rfl (fun _ _ _ _ h => h) 19 #[.agg en, .agg s] (fun w => by simp [go_sem]) (.bool true) (fun w' => same_p HE.out HK.out w') ?_
        simp only [Act.put, List.setIfInBounds_toArray, List.set_cons_zero, List.set_cons_succ]

        refine wpU_val 7 hKS rfl (by kernel_rfl) (by kernel_rfl) (by kernel_rfl) rfl (fun _ _ _ _ h => h) (.bool true) (fun w' h => by simp [go_sem]) ?_
        simp only [Act.put, List.setIfInBounds_toArray, List.set_cons_zero, List.set_cons_succ]
        refine wpU_call 8 hKS rfl (by kernel_rfl) (by kernel_rfl) (by kernel_rfl) rfl (fun _ _ _ _ h => h) 9 #[] (fun w => by simp [go_sem]) (.bool true) (fun w' => awake7_any w') ?_
        simp only [Act.put, List.setIfInBounds_toArray, List.set_cons_zero, List.set_cons_succ]
        refine wpU_val 9 hKS rfl (by kernel_rfl) (by kernel_rfl) (by kernel_rfl) rfl (fun _ _ _ _ h => h) (.bool true) (fun w' h => by simp [go_sem]) ?_
        simp only [Act.put, List.setIfInBounds_toArray, List.set_cons_zero, List.set_cons_succ]
        refine wpU_val 10 hKS rfl (by kernel_rfl) (by kernel_rfl) (by kernel_rfl) rfl (fun _ _ _ _ h => h) (.bool true) (fun w' h => by simp [go_sem]) ?_
        simp only [Act.put, List.setIfInBounds_toArray, List.set_cons_zero, List.set_cons_succ]
        refine wpU_done (by kernel_rfl) ?_
        intro z3 b3 s3
        have hB := s3.2.2
        clear s3 b3 hKS
        go_wp2_with fail
        go_ret
        exact ⟨rfl, hB⟩
  | true =>
    have HA := Lib.hid (TW.out.is rfl).1
    go_upto_region 4 with fail
    go_step
    refine wpList_enterR rfl 20 #[] (by simp [go_sem]) _ (zero_p _) ?_
    rintro e v6 ⟨oz, rfl, hz, bv6⟩
    refine ⟨_, rfl, ?_⟩
    simp only [Act.put, List.setIfInBounds_toArray, List.set_cons_zero, List.set_cons_succ]
    replace hP := hP.after bv6
    replace hB := hB.trans (bv6.mono hS)
    replace hS := Nat.le_trans hS bv6.size
    clear bv6
    have HZ : Hid (IsPt (smul 0 a) oz) := Lib.hid (by rw [smul_zero]; exact hz)
    clear hz
    refine wpList_new rfl 29 rfl #[.int .u64 0, .int .u64 0, .int .u64 0, .int .u64 0, .int .u64 0, .int .u64 0, .int .u64 0, .int .u64 0, .int .u64 0, .int .u64 0, .int .u64 0, .int .u64 0, .int .u64 0, .int .u64 0, .int .u64 0, .int .u64 0, .int .u64 0, .int .u64 0, .int .u64 0, .int .u64 0] (by intro w; simp [go_sem]) ?_
    intro gM v7 hM lM bv7
    simp only [Act.put, List.setIfInBounds_toArray, List.set_cons_zero, List.set_cons_succ]
    have n_P_M := hP.before lM
    have n_M_P := hP.behind lM
    replace lM := Nat.le_trans hS lM
    replace hP := hP.after bv7
    replace hB := hB.trans (bv7.mono hS)
    replace hS := Nat.le_trans hS bv7.size
    clear bv7
    refine wpList_store_box (cells := oz) rfl 29 (.tmp 8) (.tmp 19) rfl hM (by rfl) (by rfl) (by rw [HZ.out.size]; rfl) (by rw [HZ.out.size]; kernel_rfl) (HZ.out.one) ?_
    intro v8 hM_ stv8
    simp only [Act.put]
    replace hP := stv8.box hP n_P_M
    replace hB := stv8.below w.heap.size w lM hB
    replace hS := Nat.le_trans hS (Nat.le_of_eq stv8.size.symm)
    clear hM stv8
    have hM := hM_
    clear hM_
    have CT := Lib.hid (fun w' => times_is a ep (smA c) _ HA.out HA.out.ok (sm_bytes c (by have := HC.out; omega)) w')
    rw [sm_top] at CT
    have i1 := HI.out
    have j1 := HJ.out
    go_upto_region 6 with fail
    go_loopw [9] (fun i wr => ∃ (k : Nat) (s : Array Value), k ≤ c ∧ i = .int .i64 k ∧ IsPt (smul k a) s ∧ Box wr gP 29 ep ∧ Box wr gM 29 s ∧ Below w.heap.size w wr) (fun i _ => c - (intOf i).toNat)
    case atStart => exact ⟨0, oz, Nat.zero_le _, rfl, HZ.out, hP, hM, hB⟩
    case round =>
      clear HZ hP hM hB hS
      obtain ⟨k, s, hk, rfl, hs, hP, hM, hB⟩ := hrel
      have HO := Lib.hid hs
      have XP := Lib.hid hP
      have XM := Lib.hid hM
      have BB := Lib.hid hB
      clear hs hP hM hB
      by_cases hlt : k < c
      case pos =>
        have hlti : (k : Int) < c := by omega
        have HCC := HC.out
        go_wp2_with first | (refine wpList_load_box rfl 29 _ rfl XM.out (by rfl) Try.underlying29 rfl (by rw [HO.out.size]; kernel_rfl) ?_) | (refine wpList_load_box rfl 29 _ rfl XP.out (by rfl) Try.underlying29 rfl (by rw [HA.out.size]; kernel_rfl) ?_)
        refine (add_p HO.out HA.out _).mono ?_
        rintro e_ z1 ⟨en, rfl, he, b1⟩
        have HE : Hid (IsPt (smul (k + 1) a) en) := Lib.hid (by rw [smul_succ]; exact he)
        replace XP := Lib.hid (XP.out.after b1)
        replace XM := Lib.hid (XM.out.after b1)
        replace BB := Lib.hid (BB.out.trans (b1.mono BB.out.size))
        clear he b1
        go_upto_region 7 with (refine wpList_store_box (cells := en) rfl 29 _ _ rfl XM.out (by rfl) (by rfl) (by rw [HO.out.size, HE.out.size]) (by rw [HE.out.size]; kernel_rfl) HE.out.one ?_; intro u9 X9 st9)
        have XP2 := Lib.hid (st9.box XP.out n_P_M)
        have XM2 := Lib.hid X9
        have BB2 := Lib.hid (st9.below w.heap.size w lM BB.out)
        clear XP XM BB HO st9 X9
        go_wp2_with fail
        go_roundw
        case rel => exact ⟨k + 1, en, by omega, by go_num, HE.out, XP2.out, XM2.out, BB2.out⟩
        case measure => simp [intOf] <;> omega
      case neg =>
        have hlti : ¬ (k : Int) < c := by omega
        have hkc : k = c := by omega
        have HK : Hid (IsPt (smul c a) s) := Lib.hid (by rw [← hkc]; exact HO.out)
        clear hkc HO
        go_upto_region 9 with fail
        have hKS : Keeps (fun w' => Box w' gP 29 ep ∧ Box w' gM 29 s ∧ Below w.heap.size w w') := fun w1 w2 h b => ⟨h.1.after b, h.2.1.after b, h.2.2.trans (b.mono h.2.2.size)⟩
        refine wp_region_U (w := wr) (fun w' => Box w' gP 29 ep ∧ Box w' gM 29 s ∧ Below w.heap.size w w') rfl (hKS _ _ ⟨XP.out, XM.out, BB.out⟩ (Below.refl _ _).drew) ?_

        refine wpU_val 0 hKS rfl (by kernel_rfl) (by kernel_rfl) (by kernel_rfl) rfl (fun _ _ _ _ h => h) (.agg ep) (fun w' h => run_load_box rfl h.1 (by simp [go_sem]) Try.underlying29 rfl (by rw [HA.out.size]; kernel_rfl)) ?_
        simp only [Act.put, List.setIfInBounds_toArray, List.set_cons_zero, List.set_cons_succ]
        refine wpU_val 1 hKS rfl (by kernel_rfl) (by kernel_rfl) (by kernel_rfl) rfl (fun _ _ _ _ h => h) (.int .u8 a1) (fun w' h => by simp [go_sem]) ?_
        simp only [Act.put, List.setIfInBounds_toArray, List.set_cons_zero, List.set_cons_succ]
        refine wpU_val 2 hKS rfl (by kernel_rfl) (by kernel_rfl) (by kernel_rfl) rfl (fun _ _ _ _ h => h) (.int .u8 c) (fun w' h => by simp [go_sem, i1, j1]) ?_
        simp only [Act.put, List.setIfInBounds_toArray, List.set_cons_zero, List.set_cons_succ]
        refine wpU_val 3 hKS rfl (by kernel_rfl) (by kernel_rfl) (by kernel_rfl) rfl (fun _ _ _ _ h => h) (.agg (smA c)) (fun w' h => run_build rfl _ (by simp [go_sem]) _ (build_sm c _)) ?_
        simp only [Act.put, List.setIfInBounds_toArray, List.set_cons_zero, List.set_cons_succ]
        refine wpU_val 5 hKS rfl (by kernel_rfl) (by kernel_rfl) (by kernel_rfl) rfl (fun _ _ _ _ h => h) (.agg s) (fun w' h => run_load_box rfl h.2.1 (by simp [go_sem]) Try.underlying29 rfl (by rw [HK.out.size]; kernel_rfl)) ?_
        simp only [Act.put, List.setIfInBounds_toArray, List.set_cons_zero, List.set_cons_succ]
        refine wpU_one 4 rfl (by kernel_rfl) rfl ?_
        intro z1 b1 s1
        refine wp_callR 22 #[.agg ep, .agg (smA c)] (by simp [go_sem]) _ (CT.out z1) ?_
        rintro e_ z2 ⟨en, rfl, he, b2⟩
        have HE := Lib.hid he
        refine ⟨_, rfl, hKS _ _ s1 b2, ?_⟩
        clear he s1 b1 b2
        simp only [Act.put, List.setIfInBounds_toArray, List.set_cons_zero, List.set_cons_succ]
        refine wpU_call 6 hKS rfl (by kernel_rfl) (by kernel_rfl) (by kernel_rfl) rfl (fun _ _ _ _ h => h) 19 #[.agg en, .agg s] (fun w => by simp [go_sem]) (.bool true) (fun w' => same_p HE.out HK.out w') ?_
        simp only [Act.put, List.setIfInBounds_toArray, List.set_cons_zero, List.set_cons_succ]

        refine wpU_val 7 hKS rfl (by kernel_rfl) (by kernel_rfl) (by kernel_rfl) rfl (fun _ _ _ _ h => h) (.bool true) (fun w' h => by simp [go_sem]) ?_
        simp only [Act.put, List.setIfInBounds_toArray, List.set_cons_zero, List.set_cons_succ]
        refine wpU_call 8 hKS rfl (by kernel_rfl) (by kernel_rfl) (by kernel_rfl) rfl (fun _ _ _ _ h => h) 9 #[] (fun w => by simp [go_sem]) (.bool true) (fun w' => awake7_any w') ?_
        simp only [Act.put, List.setIfInBounds_toArray, List.set_cons_zero, List.set_cons_succ]
        refine wpU_val 9 hKS rfl (by kernel_rfl) (by kernel_rfl) (by kernel_rfl) rfl (fun _ _ _ _ h => h) (.bool true) (fun w' h => by simp [go_sem]) ?_
        simp only [Act.put, List.setIfInBounds_toArray, List.set_cons_zero, List.set_cons_succ]
        refine wpU_val 10 hKS rfl (by kernel_rfl) (by kernel_rfl) (by kernel_rfl) rfl (fun _ _ _ _ h => h) (.bool true) (fun w' h => by simp [go_sem]) ?_
        simp only [Act.put, List.setIfInBounds_toArray, List.set_cons_zero, List.set_cons_succ]
        refine wpU_done (by kernel_rfl) ?_
        intro z3 b3 s3
        have hB := s3.2.2
        clear s3 b3 hKS
        go_wp2_with fail
        go_ret
        exact ⟨rfl, hB⟩

end Go.Proofs.Ytpkoniebbkkmjaa

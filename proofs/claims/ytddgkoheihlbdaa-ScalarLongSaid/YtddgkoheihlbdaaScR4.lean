/- scalar: the document's Reduce, May, MulAdd: what they compute. -/
import Derived.Test.YtddgkoheihlbdaaScR3
import Derived.Test.YtddgkoheihlbdaaSc6
namespace Go.Proofs.Ytddgkoheihlbdaa
open Go.RowKit

theorem digs_small (N k i : Nat) : (digs N k).getD i 0 < 65536 := by
  by_cases h : i < k
  · rw [digs_get _ _ _ h]; exact dig_lt _ _
  · simp [digs, h]
theorem dN_digs (N k : Nat) : dN (digs N k) = N % 65536 ^ k := by rw [digs, dN_map, fval_of_dig]
theorem dN_bytes (l : List UInt8) (n : Nat) (h : n = l.length) : dN (digs (leNat l) ((n + 1) / 2)) = leNat l := by
  rw [dN_digs]
  refine Nat.mod_eq_of_lt (Nat.lt_of_lt_of_le (leNat_lt l) ?_)
  rw [show (65536 : Nat) = 256 ^ 2 by rfl, ← Nat.pow_mul]
  exact Nat.pow_le_pow_right (by omega) (by omega)

set_option maxRecDepth 100000 in
set_option maxHeartbeats 4000000 in
theorem refReduce_any (a : Option Addr) (n c : Nat) (l : List UInt8) (w : World) (hn1 : n < 100000) (h : Sl w a n c l) :
    Calls Try.prog 28 #[.slice a n c] w (RetSl (leBytes (leNat l % LL) 32) w) := by
  have HD := Lib.hid (refDigits_any a n c l w hn1 h)
  have HE := Lib.hid (dN_bytes l n h.1)
  have HS := Lib.hid (fun i => digs_small (leNat l) ((n + 1) / 2) i)
  obtain ⟨D, hD⟩ : ∃ D, D = digs (leNat l) ((n + 1) / 2) := ⟨_, rfl⟩
  have hDl : D.length = (n + 1) / 2 := by rw [hD, digs_len]
  rw [← hD] at HD HE HS
  have hDn : D.length < 100000 := by omega
  rw [← HE.out]
  clear hD hDl h
  unfold RetSl
  have hB := Below.refl w.heap.size w
  go_enter Try.func28, Try.ntmps28
  go_upto_region 1 with fail
  go_step
  refine wpList_value rfl (.slice a n c) (by simp [go_sem]) ?_
  simp only [Act.put, List.setIfInBounds_toArray, List.set_cons_zero, List.set_cons_succ]
  refine wpList_enterR rfl 67 #[.slice a n c] (by simp [go_sem]) _ HD.out ?_
  rintro e w1 ⟨v, rfl, hown, hb⟩
  refine ⟨_, rfl, ?_⟩
  simp only [Act.put, List.setIfInBounds_toArray, List.set_cons_zero, List.set_cons_succ]
  obtain ⟨a1, c1, rfl, hS1⟩ := Su.ofOwns hown
  replace hB := hB.trans hb
  clear hown hb
  refine wpList_enterR rfl 66 #[.slice a1 D.length c1] (by simp [go_sem]) _ (refRest_any a1 _ c1 D w1 hDn HS.out hS1) ?_
  rintro e w2 ⟨a2, c2, rfl, hs, hb⟩
  refine ⟨_, rfl, ?_⟩
  simp only [Act.put, List.setIfInBounds_toArray, List.set_cons_zero, List.set_cons_succ]
  replace hB := hB.trans (hb.mono hB.size)
  clear hb hS1
  refine wpList_value rfl (.slice a2 (leBytes (dN D % LL) 32).length c2) (by simp [go_sem]) ?_
  simp only [Act.put, List.setIfInBounds_toArray, List.set_cons_zero, List.set_cons_succ]
  go_wp2_with fail
  go_ret
  exact ⟨a2, c2, rfl, hs, hB⟩

/-- the cells of 34 numbers -/
def fU (f : Nat → Nat) : Array Value := (uCells ((List.range 34).map f)).toArray
theorem fU_get (f : Nat → Nat) (j : Nat) (h : j < 34) : (fU f)[j]? = some (.int .u64 (f j : Nat)) := by
  simp [fU, uCells, h]
theorem fU_size (f : Nat → Nat) : (fU f).size = 34 := by simp [fU, uCells]
theorem fU_set (f : Nat → Nat) (i v : Nat) : (fU f).setIfInBounds i (.int .u64 (v : Nat)) = fU (upd f i v) := by
  apply Array.ext
  · simp [fU, uCells]
  · intro j h1 h2
    have h2' : j < 34 := by simpa [fU, uCells] using h2
    rw [Array.getElem_setIfInBounds (by simpa [fU, uCells] using h2')]
    unfold upd
    by_cases hj : i = j
    · subst hj; simp [fU, uCells]
    · rw [if_neg hj]; simp [fU, uCells, show ¬ j = i from fun e => hj e.symm]
theorem fU_zero : (uCells (List.replicate 34 0)).toArray = fU (fun _ => 0) := by
  unfold fU
  rw [List.map_const', List.length_range]
theorem fU_congr {f g : Nat → Nat} (h : ∀ j, j < 34 → f j = g j) : fU f = fU g := by
  unfold fU
  congr 2
  exact List.map_congr_left fun j hj => h j (by simpa using hj)

def BB : Nat := 4294967296
/-- how far the products are -/
structure MulD (M : Nat) (f : Nat → Nat) (s : Nat) : Prop where
  val : fval f 34 = M
  bd : ∀ j, f j ≤ s * BB
theorem MulD.put {M s : Nat} {f : Nat → Nat} (h : MulD M f s) (i v : Nat) (hi : i < 34) (hv : v < BB) : MulD (M + v * 65536 ^ i) (upd f i (f i + v)) (s + 1) := by
  obtain ⟨h1, h2⟩ := h
  refine ⟨?_, fun j => ?_⟩
  · have := (fval_upd f i (f i + v) 34).1 hi
    rw [Nat.add_mul] at this
    omega
  · have hj := h2 j
    have hii := h2 i
    have e : (s + 1) * BB = s * BB + BB := by rw [Nat.add_mul, Nat.one_mul]
    rw [e]
    unfold upd
    split
    · exact Nat.add_le_add hii (Nat.le_of_lt hv)
    · exact Nat.le_trans hj (Nat.le_add_right _ _)
theorem cr_le {f : Nat → Nat} {C : Nat} (h : ∀ j, f j ≤ C) : ∀ n, cr f n ≤ C
  | 0 => Nat.zero_le _
  | n + 1 => by
    have h1 := cr_le h n
    have h2 := h n
    rw [cr]; omega
theorem pf_end (f : Nat → Nat) : fU (pf f 34) = fU (nf f) := fU_congr fun j hj => by simp [pf, hj]
theorem mul_end {f : Nat → Nat} {M s : Nat} (h : MulD M f s) (hM : M < 65536 ^ 34) : dN ((List.range 34).map (nf f)) = M := by
  have h1 := fval_cr f 34
  rw [h.val] at h1
  rw [dN_map]
  generalize 65536 ^ 34 = B at *
  have : cr f 34 = 0 := by
    rcases Nat.eq_zero_or_pos (cr f 34) with h0 | h0
    · exact h0
    · have : B * 1 ≤ B * cr f 34 := Nat.mul_le_mul_left _ h0
      omega
  rw [this] at h1
  omega

theorem upd_upd (f : Nat → Nat) (i u v : Nat) : upd (upd f i u) i v = upd f i v := by funext j; unfold upd; split <;> rfl
theorem mul_row (M x A Yk y B : Nat) : M + x * A * Yk + x * y * (A * B) = M + x * A * (Yk + y * B) := by grind
theorem row_next (z x F FX FY A : Nat) : F + FX * FY + z * A + x * A * FY = F + z * A + (FX + x * A) * FY := by grind

set_option maxRecDepth 100000 in
set_option maxHeartbeats 20000000 in
theorem refMulAdd_any (a b d : Option Addr) (ca cb cd : Nat) (la lb' lc : List UInt8) (w : World) (sa : Sl w a 32 ca la) (sb : Sl w b 32 cb lb') (sd : Sl w d 32 cd lc) :
    Calls Try.prog 32 #[.slice a 32 ca, .slice b 32 cb, .slice d 32 cd] w (RetSl (leBytes ((leNat la * leNat lb' + leNat lc) % LL) 32) w) := by
  have hxa := sa.1
  have hxb := sb.1
  have hxd := sd.1
  have HXL := Lib.hid (leNat_lt la)
  have HYL := Lib.hid (leNat_lt lb')
  have HZL := Lib.hid (leNat_lt lc)
  rw [← hxa] at HXL
  rw [← hxb] at HYL
  rw [← hxd] at HZL
  have H1 := Lib.hid (fun w (h : Sl w a 32 ca la) => refDigits_any a 32 ca la w (by omega) h)
  have H2 := Lib.hid (fun w (h : Sl w b 32 cb lb') => refDigits_any b 32 cb lb' w (by omega) h)
  have H3 := Lib.hid (fun w (h : Sl w d 32 cd lc) => refDigits_any d 32 cd lc w (by omega) h)
  generalize leNat la = X at *
  generalize leNat lb' = Y at *
  generalize leNat lc = Z at *
  clear hxa hxb hxd
  unfold RetSl
  have hB := Below.refl w.heap.size w
  go_enter Try.func32, Try.ntmps32
  go_upto_region 1 with fail
  go_step
  refine wpList_value rfl (.slice a 32 ca) (by simp [go_sem]) ?_
  simp only [Act.put, List.setIfInBounds_toArray, List.set_cons_zero, List.set_cons_succ]
  refine wpList_enterR rfl 67 #[.slice a 32 ca] (by simp [go_sem]) _ (H1.out _ sa) ?_
  rintro e w1 ⟨v, rfl, hown, hb⟩
  refine ⟨_, rfl, ?_⟩
  simp only [Act.put, List.setIfInBounds_toArray, List.set_cons_zero, List.set_cons_succ]
  rw [digs_len] at hown
  obtain ⟨a1, c1, rfl, hS1⟩ := Su.ofOwns hown
  replace sb := sb.after hb
  replace sd := sd.after hb
  replace hB := hB.trans (hb.mono hB.size)
  clear hown hb
  refine wpList_value rfl (.slice a1 ((32 + 1) / 2) c1) (by simp [go_sem]) ?_
  simp only [Act.put, List.setIfInBounds_toArray, List.set_cons_zero, List.set_cons_succ]
  go_upto_region 2 with fail
  go_step
  refine wpList_value rfl (.slice b 32 cb) (by simp [go_sem]) ?_
  simp only [Act.put, List.setIfInBounds_toArray, List.set_cons_zero, List.set_cons_succ]
  refine wpList_enterR rfl 67 #[.slice b 32 cb] (by simp [go_sem]) _ (H2.out _ sb) ?_
  rintro e w2 ⟨v, rfl, hown, hb⟩
  refine ⟨_, rfl, ?_⟩
  simp only [Act.put, List.setIfInBounds_toArray, List.set_cons_zero, List.set_cons_succ]
  rw [digs_len] at hown
  obtain ⟨a2, c2, rfl, hS2⟩ := Su.ofOwns hown
  replace sd := sd.after hb
  replace hS1 := hS1.after hb
  replace hB := hB.trans (hb.mono hB.size)
  clear hown hb
  refine wpList_value rfl (.slice a2 ((32 + 1) / 2) c2) (by simp [go_sem]) ?_
  simp only [Act.put, List.setIfInBounds_toArray, List.set_cons_zero, List.set_cons_succ]
  go_upto_region 3 with fail
  go_step
  refine wpList_value rfl (.slice d 32 cd) (by simp [go_sem]) ?_
  simp only [Act.put, List.setIfInBounds_toArray, List.set_cons_zero, List.set_cons_succ]
  refine wpList_enterR rfl 67 #[.slice d 32 cd] (by simp [go_sem]) _ (H3.out _ sd) ?_
  rintro e w3 ⟨v, rfl, hown, hb⟩
  refine ⟨_, rfl, ?_⟩
  simp only [Act.put, List.setIfInBounds_toArray, List.set_cons_zero, List.set_cons_succ]
  rw [digs_len] at hown
  obtain ⟨a3, c3, rfl, hS3⟩ := Su.ofOwns hown
  replace hS1 := hS1.after hb
  replace hS2 := hS2.after hb
  replace hB := hB.trans (hb.mono hB.size)
  clear hown hb
  refine wpList_value rfl (.slice a3 ((32 + 1) / 2) c3) (by simp [go_sem]) ?_
  simp only [Act.put, List.setIfInBounds_toArray, List.set_cons_zero, List.set_cons_succ]
  change Su _ a1 16 c1 (digs X 16) at hS1
  change Su _ a2 16 c2 (digs Y 16) at hS2
  change Su _ a3 16 c3 (digs Z 16) at hS3
  go_upto_region 4 with fail
  go_step
  refine wpList_zeros rfl (.const (.int .i64 34)) (.const (.int .i64 34)) rfl 34 rfl rfl (by omega) ?_
  intro g W1 hz1 hrg hbz
  simp only [Act.put, List.setIfInBounds_toArray, List.set_cons_zero, List.set_cons_succ]
  rw [fU_zero] at hz1
  obtain ⟨xb, xo, rfl, hx⟩ := hS1.cell (by omega)
  obtain ⟨yb, yo, rfl, hy⟩ := hS2.cell (by omega)
  obtain ⟨zb, zo, rfl, hz⟩ := hS3.cell (by omega)
  have xc := hS1.2.1
  have yc := hS2.2.1
  have zc := hS3.2.1
  have xlt := cell_lt (hx 0 (by omega))
  have ylt := cell_lt (hy 0 (by omega))
  have zlt := cell_lt (hz 0 (by omega))
  have HX := Lib.hid hx
  have HY := Lib.hid hy
  have HZ := Lib.hid hz
  clear hS1 hS2 hS3 hx hy hz sa sb sd H1 H2 H3
  have hm0 : Hid (MulD (fval (dig Z) 0 + fval (dig X) 0 * fval (dig Y) 16) (fun _ => 0) (0 * 17)) := Lib.hid ⟨by rw [fval_zero]; simp [fval], fun j => Nat.zero_le _⟩
  go_wp2_with fail
  go_loopw [11] (fun iv wr => ∃ i : Nat, i ≤ 16 ∧ iv = .int .i64 i ∧ ∃ f, Box wr g 23 (fU f) ∧ Hid (MulD (fval (dig Z) i + fval (dig X) i * fval (dig Y) 16) f (i * 17)) ∧ Below w3.heap.size w3 wr) (fun i _ => 16 - (intOf i).toNat)
  case atStart => exact ⟨0, Nat.zero_le _, rfl, _, hz1, hm0, hbz⟩
  case round =>
    obtain ⟨wa, rfl⟩ : ∃ wa : World, wa = wr := ⟨_, rfl⟩
    obtain ⟨i, hi, rfl, f, hf, hm, hB2⟩ := hrel
    clear hz1 hbz hm0
    by_cases hlt : i < 16
    · have gf := hf.cell i (fU_get f i (by omega))
      have ff := hf.frozen i
      have gz := (hB2.cell (p := ⟨zb, zo + i, none⟩) zlt).trans (HZ.out i hlt)
      have hb1 := hm.out.bd i
      have hbb : BB = 4294967296 := rfl
      rw [hbb] at hb1
      have d1 := dig_lt Z i
      have HM1 := Lib.hid (hm.out.put i (dig Z i) (by omega) (by rw [hbb]; omega))
      obtain ⟨v, hv⟩ : ∃ v, v = f i := ⟨_, rfl⟩
      obtain ⟨z, hze⟩ : ∃ z, z = dig Z i := ⟨_, rfl⟩
      obtain ⟨s, hs⟩ : ∃ s, s = v + z := ⟨_, rfl⟩
      rw [← hv] at gf hb1 HM1
      rw [← hze] at gz d1 HM1
      rw [← hs] at HM1
      have HZE := Lib.hid hze
      have m1 : (v : Int) + (z : Int) = (s : Int) := by omega
      have k1 := u64w s (by omega)
      have b1 : (0 : Int) ≤ (i : Int) := by omega
      have b2 : (i : Int) < 16 := by omega
      have b3 : (i : Int) < 34 := by omega
      have HST := Lib.hid (fU_set f i s)
      clear hv hze hs hm hbb
      go_upto_region 8 with fail
      go_still_tail 11, (by kernel_rfl)
      change wpList _ _ _ _ _ wa.drew
      have hf2 := (hf.set i (.int .u64 (s : Nat))).drew
      rw [HST.out] at hf2
      have hB3 : Below w3.heap.size w3 (wa.setCell ⟨g, i, none⟩ (.int .u64 (s : Nat))).drew := (hB2.setCell hrg _).drew
      go_wp2_with fail
      generalize (wa.setCell ⟨g, i, none⟩ (.int .u64 (s : Nat))).drew = wx at *
      have hm2 : Hid (MulD (fval (dig Z) i + fval (dig X) i * fval (dig Y) 16 + z * 65536 ^ i + dig X i * 65536 ^ i * fval (dig Y) 0) (upd f i s) (i * 17 + 1 + 0)) := Lib.hid (by simpa [fval] using HM1.out)
      have HNX : Hid (fval (dig Z) i + fval (dig X) i * fval (dig Y) 16 + z * 65536 ^ i + dig X i * 65536 ^ i * fval (dig Y) 16 = fval (dig Z) (i + 1) + fval (dig X) (i + 1) * fval (dig Y) 16) := Lib.hid (by
        rw [HZE.out]; exact row_next _ _ _ _ _ _)
      have hxi := HX.out i hlt
      have d2 := dig_lt X i
      obtain ⟨x, hxe⟩ : ∃ x, x = dig X i := ⟨_, rfl⟩
      rw [← hxe] at hxi d2 hm2 HNX
      generalize fval (dig Z) i + fval (dig X) i * fval (dig Y) 16 + z * 65536 ^ i = M at *
      clear hf hB2 gf ff gz hb1 HM1 HZE HST hxe m1 k1 d1
      go_loopw [12] (fun kv wr => ∃ k : Nat, k ≤ 16 ∧ kv = .int .i64 k ∧ ∃ f, Box wr g 23 (fU f) ∧ Hid (MulD (M + x * 65536 ^ i * fval (dig Y) k) f (i * 17 + 1 + k)) ∧ Below w3.heap.size w3 wr) (fun i _ => 16 - (intOf i).toNat)
      case atStart => exact ⟨0, Nat.zero_le _, rfl, _, hf2, hm2, hB3⟩
      case round =>
        obtain ⟨wb, rfl⟩ : ∃ wb : World, wb = wr := ⟨_, rfl⟩
        obtain ⟨k, hk, rfl, f2, hf3, hm3, hB4⟩ := hrel
        clear hf2 hm2 hB3
        by_cases hlt2 : k < 16
        · have gf := hf3.cell (i + k) (fU_get f2 (i + k) (by omega))
          have ff := hf3.frozen (i + k)
          have gx := (hB4.cell (p := ⟨xb, xo + i, none⟩) xlt).trans hxi
          have gy := (hB4.cell (p := ⟨yb, yo + k, none⟩) ylt).trans (HY.out k hlt2)
          have hb1 := hm3.out.bd (i + k)
          rw [show BB = 4294967296 from rfl] at hb1
          have d1 := dig_lt Y k
          have hxy : x * dig Y k ≤ 65535 * 65535 := Nat.mul_le_mul (by omega) (by omega)
          have HM1 := Lib.hid (hm3.out.put (i + k) (x * dig Y k) (by omega) (by rw [show BB = 4294967296 from rfl]; omega))
          have HFV : Hid (M + x * 65536 ^ i * fval (dig Y) k + x * dig Y k * 65536 ^ (i + k) = M + x * 65536 ^ i * fval (dig Y) (k + 1)) := Lib.hid (by
            rw [Nat.pow_add]; exact mul_row _ _ _ _ _ _)
          rw [HFV.out] at HM1
          obtain ⟨p, hp⟩ : ∃ p, p = i + k := ⟨_, rfl⟩
          rw [← hp] at gf ff hb1 HM1
          have hp34 : p < 34 := by omega
          obtain ⟨v, hv⟩ : ∃ v, v = f2 p := ⟨_, rfl⟩
          obtain ⟨y, hye⟩ : ∃ y, y = dig Y k := ⟨_, rfl⟩
          rw [← hv] at gf hb1 HM1
          rw [← hye] at gy d1 HM1 hxy
          obtain ⟨q, hq⟩ : ∃ q, q = x * y := ⟨_, rfl⟩
          rw [← hq] at HM1 hxy
          obtain ⟨s, hs⟩ : ∃ s, s = v + q := ⟨_, rfl⟩
          rw [← hs] at HM1
          have m0 : (i : Int) + (k : Int) = (p : Int) := by omega
          have m1 : (x : Int) * (y : Int) = (q : Int) := by rw [hq]; simp
          have m2 : (v : Int) + (q : Int) = (s : Int) := by omega
          have k1 := u64w s (by omega)
          have k2 := u64w q (by omega)
          have b3 : (0 : Int) ≤ (k : Int) := by omega
          have b4 : (k : Int) < 16 := by omega
          have b5 : (0 : Int) ≤ (p : Int) := by omega
          have b6 : (p : Int) < 34 := by omega
          have b7 : IntKind.i64.wrap (p : Int) = (p : Int) := by rw [IntKind.wrap_i64]; omega
          have HST := Lib.hid (fU_set f2 p s)
          clear hp hv hye hq hs hm3 HFV
          go_upto_region 12 with fail
          go_still_tail 20, (by kernel_rfl)
          change wpList _ _ _ _ _ wb.drew
          have hf4 := (hf3.set p (.int .u64 (s : Nat))).drew
          rw [HST.out] at hf4
          have hB5 : Below w3.heap.size w3 (wb.setCell ⟨g, p, none⟩ (.int .u64 (s : Nat))).drew := (hB4.setCell hrg _).drew
          go_wp2_with fail
          exact ⟨⟨k + 1, by omega, by go_num, _, hf4, HM1, hB5⟩, by simp [intOf]; omega⟩
        · have hk16 : k = 16 := by omega
          rw [hk16, HNX.out, show i * 17 + 1 + 16 = (i + 1) * 17 by omega] at hm3
          have hkn : ¬ (k : Int) < 16 := by omega
          clear hk16
          go_wp2_with fail
          refine ⟨⟨i + 1, by omega, by go_num, f2, ?_⟩, by simp [intOf]; omega⟩
          first | exact ⟨hf3, hm3, hB4⟩ | exact ⟨hf3, hm3⟩ | exact ⟨hf3, hm3.out⟩
    · obtain rfl : i = 16 := by omega
      have hM : fval (dig Z) 16 + fval (dig X) 16 * fval (dig Y) 16 = X * Y + Z := by
        have e : ∀ N, N < 256 ^ 32 → fval (dig N) 16 = N := fun N hN => by rw [fval_of_dig]; exact Nat.mod_eq_of_lt hN
        rw [e _ HXL.out, e _ HYL.out, e _ HZL.out, Nat.add_comm]
      have hMl : X * Y + Z < 65536 ^ 34 := by
        have h1 := HXL.out
        have h2 := HYL.out
        have h3 := HZL.out
        have h4 : X * Y ≤ 256 ^ 32 * 256 ^ 32 := Nat.mul_le_mul (Nat.le_of_lt h1) (Nat.le_of_lt h2)
        have h5 : (256 : Nat) ^ 32 * 256 ^ 32 + 256 ^ 32 < 65536 ^ 34 := by decide +kernel
        exact Nat.lt_of_le_of_lt (Nat.add_le_add h4 (Nat.le_of_lt h3)) h5
      rw [hM] at hm
      have HEND := Lib.hid (mul_end hm.out hMl)
      have HCR := Lib.hid (cr_le hm.out.bd)
      have HBD := Lib.hid hm.out.bd
      clear hM hMl hm
      have hf0 := hf
      rw [← pf_zero f] at hf0
      go_wp2_with fail
      go_loopw [13, 65] (fun cv iv wr => ∃ i : Nat, i ≤ 34 ∧ iv = .int .i64 i ∧ cv = .int .u64 (cr f i : Nat) ∧ Box wr g 23 (fU (pf f i)) ∧ Below w3.heap.size w3 wr) (fun _ i _ => 34 - (intOf i).toNat)
      case atStart => exact ⟨0, Nat.zero_le _, rfl, rfl, hf0, hB2⟩
      case round =>
        obtain ⟨wb, rfl⟩ : ∃ wb : World, wb = wr := ⟨_, rfl⟩
        obtain ⟨i, hi, rfl, rfl, hf3, hB4⟩ := hrel
        clear hf0 hf hB2
        by_cases hlt2 : i < 34
        · have gf := hf3.cell i (fU_get _ i hlt2)
          rw [pf_here] at gf
          have ff := hf3.frozen i
          have h1 := HCR.out i
          have h2 := HBD.out i
          rw [show BB = 4294967296 from rfl] at h1 h2
          have HC1 : Hid (cr f (i + 1) = (f i + cr f i) / 65536) := Lib.hid rfl
          have HN : Hid (upd (pf f i) i ((f i + cr f i) % 65536) = pf f (i + 1)) := Lib.hid (pf_step f i)
          obtain ⟨v, hv⟩ : ∃ v, v = f i := ⟨_, rfl⟩
          obtain ⟨c, hc⟩ : ∃ c, c = cr f i := ⟨_, rfl⟩
          rw [← hv] at gf h2 HC1 HN
          rw [← hc] at h1 HC1 HN ⊢
          obtain ⟨s, hs⟩ : ∃ s, s = v + c := ⟨_, rfl⟩
          rw [← hs] at HC1 HN
          obtain ⟨q, hq⟩ : ∃ q, q = s / 65536 := ⟨_, rfl⟩
          obtain ⟨r, hr⟩ : ∃ r, r = s % 65536 := ⟨_, rfl⟩
          rw [← hq] at HC1
          rw [← hr] at HN
          have m1 : (v : Int) + (c : Int) = (s : Int) := by omega
          have m2 : (s : Int) / 65536 = (q : Int) := by omega
          have m3 : (s : Int) % 65536 = (r : Int) := by omega
          have m3' : (s : Int).tmod 65536 = (r : Int) := by rw [Int.tmod_eq_emod_of_nonneg (by omega)]; exact m3
          have k1 := u64w s (by omega)
          have k2 := u64w q (by omega)
          have k3 := u64w r (by omega)
          have b5 : (0 : Int) ≤ (i : Int) := by omega
          have b6 : (i : Int) < 34 := by omega
          have hf4 := (hf3.set i (.int .u64 (s : Nat))).set i (.int .u64 (r : Nat))
          rw [fU_set, fU_set, upd_upd, HN.out] at hf4
          have hB5 := (hB4.setCell (p := ⟨g, i, none⟩) hrg (.int .u64 (s : Nat))).setCell (p := ⟨g, i, none⟩) hrg (.int .u64 (r : Nat))
          clear hv hc hs hq hr
          go_wp2_with fail
          exact ⟨⟨i + 1, by omega, by go_num, by rw [HC1.out], hf4, hB5⟩, by simp [intOf]; omega⟩
        · obtain rfl : i = 34 := by omega
          rw [pf_end] at hf3
          have hsu := su_box (l := (List.range 34).map (nf f)) hf3 (by simp [maxLen])
          rw [List.length_map, List.length_range] at hsu
          have HR := Lib.hid (fun w h => refRest_any (some ⟨g, 0, none⟩) 34 34 ((List.range 34).map (nf f)) w (by omega) (fun i => by
            by_cases h : i < 34
            · simp [h, nf_lt]
            · simp [h]) h)
          rw [HEND.out] at HR
          clear hf3
          go_upto_region 21 with fail
          go_step
          refine wpList_value rfl (.slice (some ⟨g, 0, none⟩) 34 34) (by simp [go_sem]) ?_
          simp only [Act.put, List.setIfInBounds_toArray, List.set_cons_zero, List.set_cons_succ]
          refine wpList_enterR rfl 66 #[.slice (some ⟨g, 0, none⟩) 34 34] (by simp [go_sem]) _ (HR.out _ hsu) ?_
          rintro e w5 ⟨a5, c5, rfl, hs5, hb5⟩
          refine ⟨_, rfl, ?_⟩
          simp only [Act.put, List.setIfInBounds_toArray, List.set_cons_zero, List.set_cons_succ]
          have hBf := (hB.trans (hB4.mono hB.size)).trans (hb5.mono (Nat.le_trans hB.size hB4.size))
          clear hb5 hsu hB4 hB
          refine wpList_value rfl (.slice a5 (leBytes ((X * Y + Z) % LL) 32).length c5) (by simp [go_sem]) ?_
          simp only [Act.put, List.setIfInBounds_toArray, List.set_cons_zero, List.set_cons_succ]
          go_wp2_with fail
          go_ret
          exact ⟨a5, c5, rfl, hs5, hBf⟩
end Go.Proofs.Ytddgkoheihlbdaa

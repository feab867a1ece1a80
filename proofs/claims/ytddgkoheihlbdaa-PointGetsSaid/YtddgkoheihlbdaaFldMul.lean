/- field: Mul: what it computes. -/
import Derived.Test.YtddgkoheihlbdaaFldMore
import Derived.Test.YtddgkoheihlbdaaFldMulMath
import Derived.Test.YtddgkoheihlbdaaFld4
namespace Go.Proofs.Ytddgkoheihlbdaa
open Go.RowKit

/-- half j of the numbers of 128 bits -/
def hl (v : Nat → Nat) (j : Nat) : Nat := if j % 2 = 0 then v (j / 2) / 18446744073709551616 else v (j / 2) % 18446744073709551616
/-- the cells of five numbers of 128 bits -/
def sArr (v : Nat → Nat) : Array Value := ((List.range 10).map fun j => Value.int .u64 (hl v j : Nat)).toArray
theorem hl_hi (v : Nat → Nat) (q : Nat) : hl v (q * 2) = v q / 18446744073709551616 := by
  unfold hl; rw [if_pos (by omega), Nat.mul_div_cancel _ (by omega)]
theorem hl_lo (v : Nat → Nat) (q : Nat) : hl v (q * 2 + 1) = v q % 18446744073709551616 := by
  unfold hl; rw [if_neg (by omega), show (q * 2 + 1) / 2 = q by omega]
theorem sArr_get (v : Nat → Nat) (j : Nat) (h : j < 10) : (sArr v)[j]? = some (.int .u64 (hl v j : Nat)) := by
  simp [sArr, List.getElem?_map, List.getElem?_range h]
theorem sArr_size (v : Nat → Nat) : (sArr v).size = 10 := by simp [sArr]
theorem sArr_zero : sArr (fun _ => 0) = #[.int .u64 0, .int .u64 0, .int .u64 0, .int .u64 0, .int .u64 0, .int .u64 0, .int .u64 0, .int .u64 0, .int .u64 0, .int .u64 0] := rfl
theorem sArr_set (v : Nat → Nat) (q u : Nat) : ((sArr v).setIfInBounds (q * 2) (.int .u64 (u / 18446744073709551616 : Nat))).setIfInBounds (q * 2 + 1) (.int .u64 (u % 18446744073709551616 : Nat)) = sArr (upd v q u) := by
  apply Array.ext
  · simp [sArr]
  · intro j h1 h2
    simp only [sArr, List.size_toArray, List.length_map, List.length_range] at h2
    rw [Array.getElem_setIfInBounds (by simpa [sArr] using h2), Array.getElem_setIfInBounds (by simpa [sArr] using h2)]
    simp only [sArr, List.getElem_toArray, List.getElem_map, List.getElem_range]
    unfold hl upd
    by_cases e1 : q * 2 + 1 = j
    · subst e1
      rw [if_pos rfl, if_neg (by omega), if_pos (by omega)]
    · rw [if_neg e1]
      by_cases e2 : q * 2 = j
      · subst e2
        rw [if_pos rfl, if_pos (by omega), if_pos (by omega)]
      · rw [if_neg e2]
        have : ¬ j / 2 = q := by omega
        simp only [this, if_false]
theorem sArr_extract (v : Nat → Nat) (q : Nat) (h : q < 5) : (sArr v).extract (q * 2) (q * 2 + 2) = #[.int .u64 (v q / 18446744073709551616 : Nat), .int .u64 (v q % 18446744073709551616 : Nat)] := by
  apply Array.ext
  · simp [sArr]; omega
  · intro j h1 h2
    have h2' : j < 2 := h2
    rw [Array.getElem_extract]
    simp only [sArr, List.getElem_toArray, List.getElem_map, List.getElem_range]
    match j, h2' with
    | 0, _ => rw [Nat.add_zero, hl_hi]; rfl
    | 1, _ => rw [hl_lo]; rfl

theorem run_index_sum {P : Program} {w : World} (t e : TypeId) (v : Nat → Nat) (q : Nat) (h : P.underlying t = some (.array 5 e)) (hq : q < 5) (hz : (sizeOf e).run P w = .ok 2 w) (hp : (isAgg e).run P w = .ok true w) :
    (Instr.index t (.agg (sArr v)) (.int .i64 q)).run P w = .ok (sumV (v q)) w := by
  have he := sArr_extract v q hq
  simp [Instr.index, run_underlying h, asIntOf, go_sem, hq, hz, hp, part, he]

set_option maxRecDepth 100000 in
set_option maxHeartbeats 4000000 in
theorem mul_any (x y : L5) (w : World) (hx : ∀ j, j < 5 → x.at j < 4503599627370496) (hy : ∀ j, j < 5 → y.at j < 4503599627370496) :
    Calls Try.prog 34 #[x.v, y.v] w fun e w' => e = .returned (x.mul y).v ∧ Below w.heap.size w w' := by
  have HX := Lib.hid hx
  have HY := Lib.hid hy
  have HRL := Lib.hid (fun (i k : Nat) (hi : i < 5) (hk : k ≤ 5) => rowV_le hx hy hi (allV_le hx hy i (by omega)) k hk)
  have HP := Lib.hid (prod_le hx hy)
  have hmo := mulO_lt (v := allV x y 5) (allV_le hx hy 5 (Nat.le_refl _))
  have HCC := Lib.hid (cc_le (v := allV x y 5) (allV_le hx hy 5 (Nat.le_refl _)))
  have HAL := Lib.hid (allV_le hx hy 5 (Nat.le_refl _))
  have HCAR := Lib.hid (fun w : World => carry_any (mulO (allV x y 5)) w hmo)
  change Hid (∀ w : World, Calls _ _ #[(mulO (allV x y 5)).v] w fun e w' => e = .returned (x.mul y).v ∧ Below w.heap.size w w') at HCAR
  obtain ⟨R, hR⟩ : ∃ R, R = gArr (x.mul y).at := ⟨_, rfl⟩
  have hV : Value.agg R = (x.mul y).v := by rw [hR]; rfl
  have HRS := Lib.hid (show R.size = 5 by rw [hR]; exact gArr_size _)
  have HR1 := Lib.hid (show R.all (·.oneCell') = true by rw [hR]; exact gArr_one _)
  rw [← hV] at HCAR ⊢
  clear hR hV hx hy hmo
  have hxv : x.v = .agg (gArr x.at) := rfl
  have hyv : y.v = .agg (gArr y.at) := rfl
  rw [hxv, hyv]
  clear hxv hyv
  have HIX : Hid (∀ (i : Nat) (w : World), i < 5 → (Instr.index 25 (.agg (gArr x.at)) (.int .i64 i)).run Try.prog w = .ok (.int .u64 (x.at i : Nat)) w) :=
    Lib.hid fun i w hi => run_index_array _ 23 5 _ .i64 i _ Try.underlying25 hi (gArr_get _ i hi) (by simp [go_sem]) (by simp [go_sem])
  have HIY : Hid (∀ (i : Nat) (w : World), i < 5 → (Instr.index 25 (.agg (gArr y.at)) (.int .i64 i)).run Try.prog w = .ok (.int .u64 (y.at i : Nat)) w) :=
    Lib.hid fun i w hi => run_index_array _ 23 5 _ .i64 i _ Try.underlying25 hi (gArr_get _ i hi) (by simp [go_sem]) (by simp [go_sem])
  obtain ⟨X, hX⟩ : ∃ X, X = gArr x.at := ⟨_, rfl⟩
  obtain ⟨Y, hY⟩ : ∃ Y, Y = gArr y.at := ⟨_, rfl⟩
  obtain ⟨N, hN⟩ : ∃ N, N = gArr (fun _ => 0) := ⟨_, rfl⟩
  rw [← hX] at HIX ⊢
  rw [← hY] at HIY ⊢
  have HXS := Lib.hid (show X.size = 5 by rw [hX]; exact gArr_size _)
  have HYS := Lib.hid (show Y.size = 5 by rw [hY]; exact gArr_size _)
  have HNS := Lib.hid (show N.size = 5 by rw [hN]; exact gArr_size _)
  clear hX hY
  go_enter Try.func34, Try.ntmps34
  go_upto_region 2 with fail
  have g0 : Box ((((w.alloc (.cells X 27)).alloc (.cells Y 27)).alloc (.cells #[.int .u64 0, .int .u64 0, .int .u64 0, .int .u64 0, .int .u64 0] 27)).alloc (.cells #[.int .u64 0, .int .u64 0, .int .u64 0, .int .u64 0, .int .u64 0, .int .u64 0, .int .u64 0, .int .u64 0, .int .u64 0, .int .u64 0] 97)) w.heap.size 27 X := (((Box.new _ _ _).alloc _).alloc _).alloc _
  have g1 : Box ((((w.alloc (.cells X 27)).alloc (.cells Y 27)).alloc (.cells #[.int .u64 0, .int .u64 0, .int .u64 0, .int .u64 0, .int .u64 0] 27)).alloc (.cells #[.int .u64 0, .int .u64 0, .int .u64 0, .int .u64 0, .int .u64 0, .int .u64 0, .int .u64 0, .int .u64 0, .int .u64 0, .int .u64 0] 97)) (w.heap.size + 1) 27 Y := by
    have := ((Box.new (w.alloc (.cells X 27)) 27 Y).alloc (.cells #[.int .u64 0, .int .u64 0, .int .u64 0, .int .u64 0, .int .u64 0] 27)).alloc (.cells #[.int .u64 0, .int .u64 0, .int .u64 0, .int .u64 0, .int .u64 0, .int .u64 0, .int .u64 0, .int .u64 0, .int .u64 0, .int .u64 0] 97)
    simp only [World.size_alloc] at this
    exact this
  have g2 : Box ((((w.alloc (.cells X 27)).alloc (.cells Y 27)).alloc (.cells #[.int .u64 0, .int .u64 0, .int .u64 0, .int .u64 0, .int .u64 0] 27)).alloc (.cells #[.int .u64 0, .int .u64 0, .int .u64 0, .int .u64 0, .int .u64 0, .int .u64 0, .int .u64 0, .int .u64 0, .int .u64 0, .int .u64 0] 97)) (w.heap.size + 2) 27 N := by
    have := (Box.new ((w.alloc (.cells X 27)).alloc (.cells Y 27)) 27 #[.int .u64 0, .int .u64 0, .int .u64 0, .int .u64 0, .int .u64 0]).alloc (.cells #[.int .u64 0, .int .u64 0, .int .u64 0, .int .u64 0, .int .u64 0, .int .u64 0, .int .u64 0, .int .u64 0, .int .u64 0, .int .u64 0] 97)
    simp only [World.size_alloc] at this
    rw [hN]
    exact this
  have g3 : Box ((((w.alloc (.cells X 27)).alloc (.cells Y 27)).alloc (.cells #[.int .u64 0, .int .u64 0, .int .u64 0, .int .u64 0, .int .u64 0] 27)).alloc (.cells #[.int .u64 0, .int .u64 0, .int .u64 0, .int .u64 0, .int .u64 0, .int .u64 0, .int .u64 0, .int .u64 0, .int .u64 0, .int .u64 0] 97)) (w.heap.size + 3) 97 (sArr (fun _ => 0)) := by
    have := Box.new (((w.alloc (.cells X 27)).alloc (.cells Y 27)).alloc (.cells #[.int .u64 0, .int .u64 0, .int .u64 0, .int .u64 0, .int .u64 0] 27)) 97 (sArr (fun _ => 0))
    simp only [World.size_alloc] at this
    exact this
  have g4 : Below w.heap.size w ((((w.alloc (.cells X 27)).alloc (.cells Y 27)).alloc (.cells #[.int .u64 0, .int .u64 0, .int .u64 0, .int .u64 0, .int .u64 0] 27)).alloc (.cells #[.int .u64 0, .int .u64 0, .int .u64 0, .int .u64 0, .int .u64 0, .int .u64 0, .int .u64 0, .int .u64 0, .int .u64 0, .int .u64 0] 97)) := ((((Below.refl w.heap.size w).alloc (Nat.le_refl _) _).alloc (by simp) _).alloc (by simp; omega) _).alloc (by simp; omega) _
  have g5 : w.heap.size + 4 ≤ ((((w.alloc (.cells X 27)).alloc (.cells Y 27)).alloc (.cells #[.int .u64 0, .int .u64 0, .int .u64 0, .int .u64 0, .int .u64 0] 27)).alloc (.cells #[.int .u64 0, .int .u64 0, .int .u64 0, .int .u64 0, .int .u64 0, .int .u64 0, .int .u64 0, .int .u64 0, .int .u64 0, .int .u64 0] 97)).heap.size := by simp
  clear hN
  generalize ((((w.alloc (.cells X 27)).alloc (.cells Y 27)).alloc (.cells #[.int .u64 0, .int .u64 0, .int .u64 0, .int .u64 0, .int .u64 0] 27)).alloc (.cells #[.int .u64 0, .int .u64 0, .int .u64 0, .int .u64 0, .int .u64 0, .int .u64 0, .int .u64 0, .int .u64 0, .int .u64 0, .int .u64 0] 97)) = W at *
  go_step
  refine wpList_value rfl (.pointer (some ⟨w.heap.size, 0, none⟩)) (by simp [go_sem]) ?_
  refine wpList_load_box rfl 25 (.tmp 20) rfl g0 (by simp [go_sem, Act.put]) Try.underlying25 rfl (by rw [HXS.out]; kernel_rfl) ?_
  refine wpList_value rfl (.int .i64 0) (by simp [go_sem]) ?_
  simp only [Act.put, List.setIfInBounds_toArray, List.set_cons_zero, List.set_cons_succ]
  go_wp2_with fail
  go_loopw [22] (fun i wr => ∃ k : Nat, k ≤ 5 ∧ i = .int .i64 k ∧ Box wr (w.heap.size + 3) 97 (sArr (allV x y k)) ∧ Box wr (w.heap.size + 1) 27 Y ∧ Box wr (w.heap.size + 2) 27 N ∧ Below w.heap.size w wr ∧ w.heap.size + 4 ≤ wr.heap.size) (fun i _ => 5 - (intOf i).toNat)
  case atStart => exact ⟨0, by omega, rfl, g3, g1, g2, g4, g5⟩
  case round =>
    obtain ⟨wa, rfl⟩ : ∃ wa : World, wa = wr := ⟨_, rfl⟩
    obtain ⟨i, hi, rfl, hA, hY, hN, hB, hS⟩ := hrel
    clear g0 g1 g2 g3 g4 g5
    by_cases hlt : i < 5
    · have hix := fun w => HIX.out i w hlt
      have hxi := HX.out i hlt
      have HNX := Lib.hid (show allV x y (i + 1) = rowV x y i (allV x y i) 5 from rfl)
      obtain ⟨v, hv⟩ : ∃ v, v = allV x y i := ⟨_, rfl⟩
      have HRL' := Lib.hid (fun k hk => HRL.out i k hlt hk)
      rw [← hv] at hA HNX HRL'
      clear hv
      have HPR := Lib.hid (fun k hk => HP.out i k hlt hk)
      have HFA : Hid (∀ k, fac y i k = if i + k < 5 then y.at k else 19 * y.at k) := Lib.hid fun k => rfl
      have HRW : Hid (∀ k, rowV x y i v (k + 1) = upd (rowV x y i v k) (ix i k) (rowV x y i v k (ix i k) + x.at i * fac y i k)) := Lib.hid fun k => rfl
      obtain ⟨a, ha⟩ : ∃ a, a = x.at i := ⟨_, rfl⟩
      rw [← ha] at hix hxi HPR HRW
      clear ha
      have b5 : (0 : Int) ≤ (i : Int) := by omega
      have b6 : (i : Int) < 5 := by omega
      go_upto_region 5 with fail
      clear hix
      go_step
      refine wpList_value rfl (.pointer (some ⟨w.heap.size + 1, 0, none⟩)) (by simp [go_sem]) ?_
      refine wpList_load_box rfl 25 (.tmp 26) rfl hY (by simp [go_sem, Act.put]) Try.underlying25 rfl (by rw [HYS.out]; kernel_rfl) ?_
      refine wpList_value rfl (.int .i64 0) (by simp [go_sem]) ?_
      simp only [Act.put, List.setIfInBounds_toArray, List.set_cons_zero, List.set_cons_succ]
      go_wp2_with fail
      go_loopw [28] (fun i' wr => ∃ k : Nat, k ≤ 5 ∧ i' = .int .i64 k ∧ Box wr (w.heap.size + 3) 97 (sArr (rowV x y i v k)) ∧ Box wr (w.heap.size + 1) 27 Y ∧ Box wr (w.heap.size + 2) 27 N ∧ Below w.heap.size w wr ∧ w.heap.size + 4 ≤ wr.heap.size) (fun i _ => 5 - (intOf i).toNat)
      case atStart => exact ⟨0, by omega, rfl, hA, hY, hN, hB, hS⟩
      case round =>
        obtain ⟨wb, rfl⟩ : ∃ wb : World, wb = wr := ⟨_, rfl⟩
        obtain ⟨k, hk, rfl, hA2, hY2, hN2, hB2, hS2⟩ := hrel
        clear hA hY hN hB hS
        by_cases hlk : k < 5
        · have hiy := fun w => HIY.out k w hlk
          have hyk := HY.out k hlk
          have hfa := HFA.out k
          obtain ⟨hpr, hfl⟩ := HPR.out k hlk
          have hrl := HRL'.out k hk
          have hrw := HRW.out k
          obtain ⟨b, hb⟩ : ∃ b, b = y.at k := ⟨_, rfl⟩
          rw [← hb] at hiy hyk hfa
          clear hb
          obtain ⟨f, hf⟩ : ∃ f, f = fac y i k := ⟨_, rfl⟩
          rw [← hf] at hfa hpr hfl hrw
          clear hf
          obtain ⟨u, hu⟩ : ∃ u, u = rowV x y i v k := ⟨_, rfl⟩
          rw [← hu] at hA2 hrl hrw
          have HU := Lib.hid hu
          clear hu
          have b7 : (0 : Int) ≤ (k : Int) := by omega
          have b8 : (k : Int) < 5 := by omega
          obtain ⟨q, hq⟩ : ∃ q, q = ix i k := ⟨_, rfl⟩
          rw [← hq] at hrw
          have hq5 : q < 5 := by rw [hq]; unfold ix; split <;> omega
          have hrq := hrl q
          have HM := Lib.hid (fun w : World => more_any (u q) a f w (by omega) (by omega) (by omega))
          have HS5 := Lib.hid (sArr_set u q (u q + a * f))
          have c0 := sArr_get u (q * 2) (by omega)
          have c1 := sArr_get u (q * 2 + 1) (by omega)
          rw [hl_hi] at c0
          rw [hl_lo] at c1
          have k0 := hA2.cell _ c0
          have k1 := hA2.cell _ c1
          have HC0 := Lib.hid c0
          have HC1 := Lib.hid c1
          unfold sumV at HM
          obtain ⟨h, hh⟩ : ∃ h, h = u q / 18446744073709551616 := ⟨_, rfl⟩
          obtain ⟨l, hl⟩ : ∃ l, l = u q % 18446744073709551616 := ⟨_, rfl⟩
          obtain ⟨h', hh'⟩ : ∃ h', h' = (u q + a * f) / 18446744073709551616 := ⟨_, rfl⟩
          obtain ⟨l', hl'⟩ : ∃ l', l' = (u q + a * f) % 18446744073709551616 := ⟨_, rfl⟩
          rw [← hh, ← hl, ← hh', ← hl'] at HM
          rw [← hh', ← hl'] at HS5
          rw [← hh] at k0 HC0
          rw [← hl] at k1 HC1
          have HRW2 := Lib.hid hrw
          clear c0 c1 hh hl hh' hl' hrl hrw hrq hpr
          by_cases hik : i + k < 5
          · rw [if_pos hik] at hfa
            have hqe : q = i + k := by rw [hq]; unfold ix; rw [if_pos hik]
            subst hfa
            have e1 : (i : Int) + (k : Int) = (q : Int) := by omega
            have b9 : (0 : Int) ≤ (q : Int) := by omega
            have b10 : (q : Int) < 5 := by omega
            clear hq hqe hik
            go_wp2_with fail
            refine (HM.out _).mono ?_
            rintro e w1 ⟨rfl, hb1⟩
            have hA3 := hA2.after hb1
            have hY3 := hY2.after hb1
            have hN3 := hN2.after hb1
            have hB3 := hB2.trans (hb1.mono (by omega))
            have hS3 := Nat.le_trans hS2 hb1.size
            have k2 := hA3.cell _ HC0.out
            have k3 := hA3.cell _ HC1.out
            have k4 := hA3.frozen (q * 2)
            have k5 := hA3.frozen (q * 2 + 1)
            clear hiy hA2 hY2 hN2 hB2 hS2 hb1 k0 k1
            go_wp2_with fail
            refine ⟨⟨k + 1, by omega, by go_num, ?_, (hY3.far _ _ (by simp)).far _ _ (by simp), (hN3.far _ _ (by simp)).far _ _ (by simp), (hB3.setCell (by simp; omega) _).setCell (by simp; omega) _, by simpa using hS3⟩, by simp [intOf]; omega⟩
            have hh := (hA3.set (q * 2) (.int .u64 (h' : Nat))).set (q * 2 + 1) (.int .u64 (l' : Nat))
            rw [HS5.out, ← HRW2.out] at hh
            exact hh
          · rw [if_neg hik] at hfa
            have hqe : q = i + k - 5 := by rw [hq]; unfold ix; rw [if_neg hik]
            have e1 : (i : Int) + (k : Int) - 5 = (q : Int) := by omega
            have e2 : 19 * (b : Int) = (f : Int) := by omega
            have e3 : (5 : Int) ≤ (i : Int) + (k : Int) := by omega
            have b9 : (0 : Int) ≤ (q : Int) := by omega
            have b10 : (q : Int) < 5 := by omega
            clear hq hqe hfa
            go_wp2_with fail
            refine (HM.out _).mono ?_
            rintro e w1 ⟨rfl, hb1⟩
            have hA3 := hA2.after hb1
            have hY3 := hY2.after hb1
            have hN3 := hN2.after hb1
            have hB3 := hB2.trans (hb1.mono (by omega))
            have hS3 := Nat.le_trans hS2 hb1.size
            have k2 := hA3.cell _ HC0.out
            have k3 := hA3.cell _ HC1.out
            have k4 := hA3.frozen (q * 2)
            have k5 := hA3.frozen (q * 2 + 1)
            clear hiy hA2 hY2 hN2 hB2 hS2 hb1 k0 k1
            go_wp2_with fail
            refine ⟨⟨k + 1, by omega, by go_num, ?_, (hY3.far _ _ (by simp)).far _ _ (by simp), (hN3.far _ _ (by simp)).far _ _ (by simp), (hB3.setCell (by simp; omega) _).setCell (by simp; omega) _, by simpa using hS3⟩, by simp [intOf]; omega⟩
            have hh := (hA3.set (q * 2) (.int .u64 (h' : Nat))).set (q * 2 + 1) (.int .u64 (l' : Nat))
            rw [HS5.out, ← HRW2.out] at hh
            exact hh
        · obtain rfl : k = 5 := by omega
          go_wp2_with fail
          refine ⟨⟨i + 1, by omega, by go_num, by rw [HNX.out]; exact hA2, hY2, hN2, hB2, hS2⟩, by simp [intOf]; omega⟩
    · obtain rfl : i = 5 := by omega
      obtain ⟨V, hV⟩ : ∃ V, V = allV x y 5 := ⟨_, rfl⟩
      rw [← hV] at hA HCC HAL HCAR
      clear hV HRL HP HIX HIY HX HY hY
      have HIS : Hid (∀ (k : Nat) (w : World), k < 5 → (Instr.index 97 (.agg (sArr V)) (.int .i64 k)).run Try.prog w = .ok (sumV (V k)) w) :=
        Lib.hid fun k w hk => run_index_sum 97 96 V k Try.underlying97 hk (by simp [go_sem]) (by simp [go_sem])
      have HSS := Lib.hid (sArr_size V)
      obtain ⟨S, hS'⟩ : ∃ S, S = sArr V := ⟨_, rfl⟩
      rw [← hS'] at hA HIS HSS
      clear hS'
      go_upto_region 13 with fail
      go_step
      refine wpList_alloc_box rfl 27 rfl (gArr (fun _ => 0)) (by intro w; simp [go_sem]; rfl) ?_
      simp only [Act.put, List.setIfInBounds_toArray, List.set_cons_zero, List.set_cons_succ]
      have hA1 := hA.alloc (.cells (gArr (fun _ => 0)) 27)
      have hO1 := Box.new wa 27 (gArr (fun _ => 0))
      have hN1 := hN.alloc (.cells (gArr (fun _ => 0)) 27)
      have hB1 := hB.alloc (by omega) (.cells (gArr (fun _ => 0)) 27)
      have hS1 : wa.heap.size + 1 ≤ (wa.alloc (.cells (gArr (fun _ => 0)) 27)).heap.size := by simp
      generalize wa.alloc (.cells (gArr (fun _ => 0)) 27) = w1 at *
      clear hA hN hB
      have hHO := hS
      clear hS
      generalize wa.heap.size = O at *
      go_upto_region 15 with fail
      go_step
      refine wpList_load_box rfl 97 (.tmp 5) rfl hA1 (by simp [go_sem]) Try.underlying97 rfl (by rw [HSS.out]; kernel_rfl) ?_
      simp only [Act.put, List.setIfInBounds_toArray, List.set_cons_zero, List.set_cons_succ]
      clear hA1
      go_wp2_with fail
      go_loopw [11, 66] (fun c i wr => ∃ k : Nat, k ≤ 5 ∧ i = .int .i64 k ∧ c = .int .u64 (cc V k : Nat) ∧ Box wr O 27 (gArr (mix (oo V) (fun _ => 0) k)) ∧ Box wr (w.heap.size + 2) 27 N ∧ Below w.heap.size w wr ∧ O + 1 ≤ wr.heap.size) (fun _ i _ => 5 - (intOf i).toNat)
      case atStart => exact ⟨0, by omega, rfl, rfl, by rw [mix_zero]; exact hO1, hN1, hB1, hS1⟩
      case round =>
        obtain ⟨wb, rfl⟩ : ∃ wb : World, wb = wr := ⟨_, rfl⟩
        obtain ⟨k, hk, rfl, rfl, hX, hN2, hB2, hS2⟩ := hrel
        clear hO1 hN1 hB1 hS1
        by_cases hlk : k < 5
        · have his := fun w => HIS.out k w hlk
          have bV := HAL.out k
          have bc := HCC.out k hk
          have hcn : cc V (k + 1) = (V k + cc V k) / 2251799813685248 := rfl
          have hon : oo V k = (V k + cc V k) % 2251799813685248 := rfl
          have hst := mix_step (oo V) (fun _ => 0) k
          unfold sumV at his
          obtain ⟨h, hh⟩ : ∃ h, h = V k / 18446744073709551616 := ⟨_, rfl⟩
          obtain ⟨l, hl⟩ : ∃ l, l = V k % 18446744073709551616 := ⟨_, rfl⟩
          obtain ⟨c, hc⟩ : ∃ c, c = cc V k := ⟨_, rfl⟩
          have hadd := fun w => run_Add64 l c (by omega) (by omega) w
          obtain ⟨r, hr⟩ : ∃ r, r = (l + c) % 18446744073709551616 := ⟨_, rfl⟩
          obtain ⟨d, hd⟩ : ∃ d, d = (l + c) / 18446744073709551616 := ⟨_, rfl⟩
          rw [← hr, ← hd] at hadd
          rw [← hh, ← hl] at his
          rw [← hc] at hcn hon ⊢
          obtain ⟨s, hs⟩ : ∃ s, s = h + d := ⟨_, rfl⟩
          have m1 : (h : Int) + (d : Int) = (s : Int) := by omega
          have bs : s < 2251799813685248 := by omega
          have br : r < 18446744073709551616 := by omega
          obtain ⟨o, ho⟩ : ∃ o, o = oo V k := ⟨_, rfl⟩
          rw [← ho] at hon hst
          have m2 : bits BinOp.and IntKind.u64 (r : Int) 2251799813685247 = (o : Int) := by
            rw [and51 r (by omega)]
            have : low r = o := by unfold low; omega
            rw [this]
          obtain ⟨s13, hs13⟩ : ∃ s13, s13 = s * 8192 := ⟨_, rfl⟩
          have m3 : IntKind.u64.wrap ((s : Int) * 8192) = (s13 : Int) := by rw [IntKind.wrap_u64]; omega
          obtain ⟨r51, hr51⟩ : ∃ r51, r51 = r / 2251799813685248 := ⟨_, rfl⟩
          have m4 : (r : Int) / 2251799813685248 = (r51 : Int) := by omega
          obtain ⟨c', hc'⟩ : ∃ c', c' = cc V (k + 1) := ⟨_, rfl⟩
          rw [← hc'] at hcn
          have m5 : bits BinOp.or IntKind.u64 (s13 : Int) (r51 : Int) = (c' : Int) := by
            rw [u64_or_nat _ _ (by omega) (by omega)]
            have e := Nat.two_pow_add_eq_or_of_lt (i := 13) (b := r51) (by omega) s
            have e2 : s13 ||| r51 = s13 + r51 := by rw [hs13, show s * 8192 = 2 ^ 13 * s by omega, ← e]
            rw [e2]
            have : s13 + r51 = c' := by omega
            rw [this]
          have bs13 : s13 < 18446744073709551616 := by omega
          have HC' := Lib.hid hc'
          have HST := Lib.hid hst
          have hXa := hX.alloc (.cells #[.int .u64 h, .int .u64 l] 96)
          have gx := hXa.cell k (gArr_get _ k hlk)
          rw [mix_here] at gx
          have fx := hXa.frozen k
          have hBa := hB2.alloc (by omega) (.cells #[.int .u64 h, .int .u64 l] 96)
          have hNa := hN2.alloc (.cells #[.int .u64 h, .int .u64 l] 96)
          have hSa : O + 1 ≤ (wb.alloc (.cells #[.int .u64 h, .int .u64 l] 96)).heap.size := by simp; omega
          clear hcn hon hst hh hl hc hr hd hs ho hs13 hr51 hc' bV bc
          go_wp2_with fail
          refine ⟨⟨k + 1, by omega, by go_num, by rw [HC'.out], ?_, hNa.far _ _ (by simp; omega), hBa.setCell (by simp; omega) _, by simpa using hSa⟩, by simp [intOf]; omega⟩
          have hh := hXa.set k (.int .u64 (o : Nat))
          rw [gArr_set, HST.out] at hh
          exact hh
        · obtain rfl : k = 5 := by omega
          have bc := HCC.out 5 (Nat.le_refl _)
          have x0 := hX.cell 0 (gArr_get _ 0 (by omega))
          have x1 := hX.cell 1 (gArr_get _ 1 (by omega))
          have f0 := hX.frozen 0
          have f1 := hX.frozen 1
          rw [show mix (oo V) (fun _ => 0) 5 0 = oo V 0 from rfl] at x0
          rw [show mix (oo V) (fun _ => 0) 5 1 = oo V 1 from rfl] at x1
          have b0 := oo_lt V 0
          have b1 := oo_lt V 1
          have hT : lastT V = 19 * cc V 5 + oo V 0 := rfl
          have hml : (mulO V).v = .agg (gArr (upd (upd (mix (oo V) (fun _ => 0) 5) 0 (lastT V % 2251799813685248)) 1 (oo V 1 + lastT V / 2251799813685248))) := rfl
          rw [hml] at HCAR
          obtain ⟨T, hTe⟩ : ∃ T, T = lastT V := ⟨_, rfl⟩
          obtain ⟨c, hc⟩ : ∃ c, c = cc V 5 := ⟨_, rfl⟩
          obtain ⟨o0, ho0⟩ : ∃ o0, o0 = oo V 0 := ⟨_, rfl⟩
          obtain ⟨o1, ho1⟩ : ∃ o1, o1 = oo V 1 := ⟨_, rfl⟩
          rw [← hTe, ← hc, ← ho0] at hT
          rw [← hTe, ← ho1] at HCAR
          rw [← hc] at bc ⊢
          rw [← ho0] at x0 b0
          rw [← ho1] at x1 b1
          have HM := Lib.hid (fun w : World => Try.bits_Mul64 c 19 (by omega) (by omega) w)
          obtain ⟨h, hh⟩ : ∃ h, h = c * 19 / 18446744073709551616 := ⟨_, rfl⟩
          obtain ⟨l, hl⟩ : ∃ l, l = c * 19 % 18446744073709551616 := ⟨_, rfl⟩
          rw [← hh, ← hl] at HM
          have hadd := fun w => run_Add64 l o0 (by omega) (by omega) w
          obtain ⟨r, hr⟩ : ∃ r, r = (l + o0) % 18446744073709551616 := ⟨_, rfl⟩
          obtain ⟨d, hd⟩ : ∃ d, d = (l + o0) / 18446744073709551616 := ⟨_, rfl⟩
          rw [← hr, ← hd] at hadd
          obtain ⟨s, hs⟩ : ∃ s, s = h + d := ⟨_, rfl⟩
          have m1 : (h : Int) + (d : Int) = (s : Int) := by omega
          have bs : s < 1000 := by omega
          have br : r < 18446744073709551616 := by omega
          obtain ⟨z0, hz0⟩ : ∃ z0, z0 = T % 2251799813685248 := ⟨_, rfl⟩
          have m2 : bits BinOp.and IntKind.u64 (r : Int) 2251799813685247 = (z0 : Int) := by
            rw [and51 r (by omega)]
            have : low r = z0 := by unfold low; omega
            rw [this]
          obtain ⟨s13, hs13⟩ : ∃ s13, s13 = s * 8192 := ⟨_, rfl⟩
          have m3 : IntKind.u64.wrap ((s : Int) * 8192) = (s13 : Int) := by rw [IntKind.wrap_u64]; omega
          have m3' : (s : Int) * 8192 = (s13 : Int) := by omega
          obtain ⟨r51, hr51⟩ : ∃ r51, r51 = r / 2251799813685248 := ⟨_, rfl⟩
          have m4 : (r : Int) / 2251799813685248 = (r51 : Int) := by omega
          obtain ⟨g, hg⟩ : ∃ g, g = T / 2251799813685248 := ⟨_, rfl⟩
          have m5 : bits BinOp.or IntKind.u64 (s13 : Int) (r51 : Int) = (g : Int) := by
            rw [u64_or_nat _ _ (by omega) (by omega)]
            have e := Nat.two_pow_add_eq_or_of_lt (i := 13) (b := r51) (by omega) s
            have e2 : s13 ||| r51 = s13 + r51 := by rw [hs13, show s * 8192 = 2 ^ 13 * s by omega, ← e]
            rw [e2]
            have : s13 + r51 = g := by omega
            rw [this]
          obtain ⟨z1, hz1⟩ : ∃ z1, z1 = o1 + g := ⟨_, rfl⟩
          have m6 : (o1 : Int) + (g : Int) = (z1 : Int) := by omega
          have bg : g < 100000000 := by omega
          rw [← hz0, ← hg, ← hz1] at HCAR
          clear hT hml hTe hc ho0 ho1 hh hl hr hd hs hz0 hs13 hr51 hg hz1 HSS HIS HAL HCC
          go_wp2_with fail
          refine (HM.out _).mono ?_
          rintro e w2 ⟨rfl, rfl⟩
          go_upto_region 27 with fail
          have hX3 := (hX.set 0 (.int .u64 (z0 : Nat))).set 1 (.int .u64 (z1 : Nat))
          rw [gArr_set, gArr_set] at hX3
          have hN3 : Box ((w2.setCell ⟨O, 0, none⟩ (.int .u64 (z0 : Nat))).setCell ⟨O, 1, none⟩ (.int .u64 (z1 : Nat))) (w.heap.size + 2) 27 N := (hN2.far _ _ (by simp; omega)).far _ _ (by simp; omega)
          have hB3 : Below w.heap.size w ((w2.setCell ⟨O, 0, none⟩ (.int .u64 (z0 : Nat))).setCell ⟨O, 1, none⟩ (.int .u64 (z1 : Nat))) := (hB2.setCell (by simp; omega) _).setCell (by simp; omega) _
          obtain ⟨G, hG⟩ : ∃ G, G = gArr (upd (upd (mix (oo V) (fun _ => 0) 5) 0 z0) 1 z1) := ⟨_, rfl⟩
          rw [← hG] at hX3 HCAR
          have HGS := Lib.hid (show G.size = 5 by rw [hG]; exact gArr_size _)
          have hS3 : O + 1 ≤ ((w2.setCell ⟨O, 0, none⟩ (.int .u64 (z0 : Nat))).setCell ⟨O, 1, none⟩ (.int .u64 (z1 : Nat))).heap.size := by simpa using hS2
          generalize ((w2.setCell ⟨O, 0, none⟩ (.int .u64 (z0 : Nat))).setCell ⟨O, 1, none⟩ (.int .u64 (z1 : Nat))) = w3 at *
          clear hG hX hN2 hB2 x0 x1 f0 f1 hadd
          go_step
          refine wpList_load_box rfl 27 (.tmp 10) rfl hX3 (by simp [go_sem]) Try.underlying27 rfl (by rw [HGS.out]; kernel_rfl) ?_
          refine wpList_enter rfl 69 #[.agg G] (by simp [go_sem, Act.put]) _ _ (HCAR.out w3) ?_
          intro w4 hb4
          refine wpList_store_box (cells := R) rfl 27 (.tmp 4) (.tmp 123) rfl (hN3.after hb4) (by simp [go_sem, Act.put]) (by simp [go_sem, Act.put]) (by rw [HNS.out, HRS.out]) (by rw [HRS.out]; kernel_rfl) HR1.out ?_
          intro w5 hR5 hst
          have hB5 := hst.below w.heap.size w (by omega) (hB3.trans (hb4.mono (by omega)))
          simp only [Act.put, List.setIfInBounds_toArray, List.set_cons_zero, List.set_cons_succ]
          clear hst hb4 hX3 hN3 hB3
          go_wp2_with fail
          exact bodyPost_ret (v := .agg R) (box_result rfl _ _ (by rfl) hR5 Try.underlying27 rfl (by rw [HRS.out]; kernel_rfl)) rfl ⟨rfl, hB5⟩
end Go.Proofs.Ytddgkoheihlbdaa

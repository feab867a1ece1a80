/- the document's bit, Base64, sign: what they compute. -/
import Derived.Test.YtpdkbbenoipohaaOctMath
import Derived.Test.YtpdkbbenoipohaaOctRefHex
namespace Go.Proofs.Ytpdkbbenoipohaa
open Go.RowKit

set_option maxHeartbeats 1000000 in
theorem refbit_any (a : Option Addr) (len cap : Nat) (l : List UInt8) (i : Int) (w : World) (hs : Sl w a len cap l) (hi : 0 ≤ i) (hi2 : i ≤ 1000000000) :
    Calls Try.prog 23 #[.slice a len cap, .int .i64 i] w fun e w' => e = .returned (.int .u8 (bitL l i.toNat : Nat)) ∧ w' = w := by
  obtain ⟨n, rfl⟩ := Int.eq_ofNat_of_zero_le hi
  rw [Int.toNat_natCast]
  clear hi
  obtain ⟨hlen, hlc, hcm, hnil, hc⟩ := hs
  have HL := Lib.hid hlen
  have HC := Lib.hid hc
  clear hlen hc hnil
  obtain ⟨R, hR⟩ : ∃ R, R = bitL l n := ⟨_, rfl⟩
  rw [← hR]
  have HR := Lib.hid hR
  clear hR
  by_cases hge : len ≤ n / 8
  · obtain rfl : R = 0 := by
      rw [HR.out, bitL, List.getD_eq_getElem?_getD, List.getElem?_eq_none (by rw [← HL.out]; exact hge)]; simp
    have h1 : (len : Int) ≤ (n : Int) / 8 := by omega
    go_enter Try.func23, Try.ntmps23
    go_wp2_with fail
    go_ret
    exact ⟨rfl, rfl⟩
  · have h1 : (n : Int) / 8 < (len : Int) := by omega
    obtain ⟨b, o, rfl, hcc⟩ : ∃ b o, a = some ⟨b, o, none⟩ ∧ ∀ i, i < len → w.cell? ⟨b, o + i, none⟩ = some (.int .u8 ((l.getD i 0).toNat : Int)) := by
      rcases HC.out with hc | hc
      · omega
      · exact hc
    have c0 := hcc (n / 8) (by omega)
    obtain ⟨c, hcE⟩ : ∃ c, c = (l.getD (n / 8) 0).toNat := ⟨_, rfl⟩
    have hc8 : c < 256 := by rw [hcE]; exact UInt8.toNat_lt _
    rw [← hcE] at c0
    have HE := Lib.hid hcE
    clear hcE hcc hge
    obtain ⟨m, hm⟩ : ∃ m, m = 7 - n % 8 := ⟨_, rfl⟩
    have hm2 : 7 - (n : Int) % 8 = (m : Int) := by omega
    have HM := Lib.hid hm
    clear hm
    go_enter Try.func23, Try.ntmps23
    go_wp2_with fail
    go_loop [5, 6] (fun s t => ∃ (k x : Nat), k ≤ m ∧ t = .int .i64 k ∧ s = .int .u8 x ∧ x < 256 ∧ Hid (x = c / 2 ^ k)) (fun _ t => m - (intOf t).toNat)
    case atStart => exact ⟨0, c, Nat.zero_le _, rfl, rfl, hc8, Lib.hid (by simp)⟩
    case round =>
      obtain ⟨k, x, hk, rfl, rfl, hx, HX⟩ := hrel
      by_cases hlt : k < m
      · go_wp2_with fail
        go_round
        case rel => exact ⟨k + 1, x / 2, by omega, by go_num, by go_num, by omega, Lib.hid (by rw [HX.out, Nat.pow_succ, Nat.div_div_eq_div_mul])⟩
        case measure => simp [intOf]; omega
      · obtain rfl : k = m := by omega
        have hR2 := Lib.hid (show (R : Int) = (x : Int) % 2 by rw [HR.out, bitL, ← HE.out, ← HM.out, HX.out]; simp)
        go_wp2_with fail
        go_ret
        exact ⟨by rw [hR2.out]; rfl, rfl⟩

set_option maxHeartbeats 2000000 in
theorem refB64_any (a : Option Addr) (len cap : Nat) (l : List UInt8) (w : World) (hs : Sl w a len cap l) (hl : l.length ≤ 1000000) :
    Calls Try.prog 15 #[.slice a len cap] w fun e w' => e = .returned (.string ⟨(b64 l).toArray⟩) ∧ Below w.heap.size w w' := by
  rw [← refB64_eq]
  have HL := Lib.hid hs.1
  have HS := Lib.hid hs
  have hl' : len ≤ 1000000 := by have := hs.1; omega
  clear hs
  obtain ⟨i0, hi, hz0, hz1, hz2⟩ := info_parts bldInfo5
  have hown0 : (w.alloc (.cells #[] 5)).ownsRow w.heap.size 5 1 (.slice (some ⟨w.heap.size, 0, none⟩) 0 0) 0 (Lib.byteCells []) := World.ownsRow_lit w #[] 0 (Nat.le_refl _) (Nat.zero_le _) rfl
  have hW0 : Below w.heap.size w (w.alloc (.cells #[] 5)) := (Below.refl _ _).alloc (Nat.le_refl _) _
  obtain ⟨J, hJ⟩ : ∃ J, J = (8 * len + 5) / 6 := ⟨_, rfl⟩
  have hJ1 : 6 * J ≤ 8 * len + 5 := by omega
  have hJ2 : 8 * len ≤ 6 * J := by omega
  have HJ := Lib.hid hJ
  clear hJ
  go_enter Try.func15, Try.ntmps15
  go_wp2_with fail
  go_loopw [4, 5] (fun out i wr => ∃ j : Nat, j ≤ J ∧ i = .int .i64 (6 * (j : Int)) ∧ wr.ownsRow w.heap.size 5 1 out j (Lib.byteCells (sgnsTo l j)) ∧ Below w.heap.size w wr) (fun _ i _ => 6 * J - (intOf i).toNat)
  case atStart => exact ⟨0, Nat.zero_le _, rfl, hown0, hW0⟩
  case round =>
    obtain ⟨j, hj, rfl, hown, hW⟩ := hrel
    clear hown0 hW0
    by_cases hlt : 6 * j < 8 * len
    · have hlt' : 6 * (j : Int) < 8 * (len : Int) := by omega
      have hjJ : j < J := by omega
      go_wp2_with fail
      go_loopw [6, 7] (fun s t wq => ∃ k : Nat, k ≤ 6 ∧ t = .int .i64 k ∧ s = .int .u8 (grpK l (6 * j) k : Nat) ∧ wr = wq) (fun _ t _ => 6 - (intOf t).toNat)
      case atStart => exact ⟨0, by omega, rfl, rfl, rfl⟩
      case round =>
        obtain ⟨k, hk, rfl, rfl, rfl⟩ := hrel
        by_cases hk6 : k < 6
        · have hS := HS.out.after hW
          have hgk := grpK_lt l (6 * j) k
          have hgk2 : grpK l (6 * j) k < 64 := Nat.lt_of_lt_of_le hgk (Nat.pow_le_pow_right (by omega) hk)
          have hgk3 := grpK_lt l (6 * j) (k + 1)
          have hgk4 : grpK l (6 * j) (k + 1) < 128 := Nat.lt_of_lt_of_le hgk3 (Nat.pow_le_pow_right (n := 2) (by omega) (show k + 1 ≤ 7 by omega))
          have hb := bitL_lt l (6 * j + k)
          obtain ⟨x, hx⟩ : ∃ x, x = grpK l (6 * j) k := ⟨_, rfl⟩
          obtain ⟨y, hy⟩ : ∃ y, y = bitL l (6 * j + k) := ⟨_, rfl⟩
          have HG := Lib.hid (show grpK l (6 * j) (k + 1) = 2 * x + y by rw [hx, hy]; rfl)
          have HY := Lib.hid hy
          rw [← hx]
          rw [← hx] at hgk2
          rw [← hy] at hb
          clear hgk hgk3 hgk4 hx hy
          go_wp2_with fail
          refine (refbit_any _ _ _ _ _ _ hS (by omega) (by omega)).mono ?_
          rintro e wx ⟨rfl, rfl⟩
          rw [show (6 * (j : Int) + (k : Int)).toNat = 6 * j + k by omega, ← HY.out]
          go_wp2_with fail
          go_roundw
          case rel => exact ⟨k + 1, by omega, by go_num, by rw [HG.out]; go_num, trivial⟩
          case measure => simp [intOf]; omega
        · obtain rfl : k = 6 := by omega
          have hg := grp_lt l (6 * j)
          obtain ⟨x, hx⟩ : ∃ x, x = grp l (6 * j) := ⟨_, rfl⟩
          have HX := Lib.hid (show sgnsTo l (j + 1) = sgnsTo l j ++ [sgn x] by rw [hx, sgnsTo_succ])
          rw [show grpK l (6 * j) 6 = x from hx.symm]
          rw [← hx] at hg
          have es := sgn_eq x hg
          unfold signs at es
          clear hx
          go_wp2_with (at_builtin; go_loud (refine wpList_append_sl rfl (.tmp 28) (.tmp 32) 22 rfl w.heap.size 5 i0 Try.underlying22 hi hz0 hz1 hz2 _ j (sgnsTo l j) rfl (hown.alloc _) (some ⟨wr.heap.size, 0, none⟩) 1 1 [sgn x] rfl (sl_cell _ _ _ (cell_new wr _ _ rfl)) (by omega) (by have := hW.size; simp; omega) ?_); intro v1 w1 hown1 hg1)
          have hW1 := (hW.alloc hW.size _).grown hg1 (by have := hW.size; simp; omega) (fun t ht => (hown.lt t ht).1)
          rw [← HX.out] at hown1
          go_wp2_with fail
          go_roundw
          case rel => exact ⟨j + 1, by omega, by go_num, hown1, hW1⟩
          case measure => simp [intOf]; omega
    · obtain rfl : j = J := by omega
      have hlt' : 8 * (len : Int) ≤ 6 * (j : Int) := by omega
      have HB := Lib.hid (show refB64 l = padTo (sgnsTo l j) by rw [refB64, ← HL.out, ← HJ.out])
      have HN := Lib.hid (sgnsTo_len l j)
      obtain ⟨X, hX⟩ : ∃ X, X = sgnsTo l j := ⟨_, rfl⟩
      rw [← hX] at hown HB HN
      obtain ⟨p, hp⟩ : ∃ p, p = (4 - j % 4) % 4 := ⟨_, rfl⟩
      have HP := Lib.hid hp
      have hp4 : p < 4 := by omega
      clear hp hX
      go_wp2_with fail
      go_loopw [4] (fun out wq => ∃ k : Nat, k ≤ p ∧ wq.ownsRow w.heap.size 5 1 out (j + k) (Lib.byteCells (X ++ List.replicate k 61)) ∧ Below w.heap.size w wq) (fun out _ => j + p - slLen out)
      case atStart => exact ⟨0, Nat.zero_le _, by simpa using hown, hW⟩
      case round =>
        obtain ⟨k, hk, hown', hW'⟩ := hrel
        clear hown hW
        obtain ⟨a1, c1, rfl, hS⟩ := Sl.ofOwns hown'
        by_cases hkp : k < p
        · have hne : (((j : Int) + (k : Int)) % 4 != 0) = true := by have := HP.out; rw [bne_iff_ne]; omega
          have hrep := Lib.hid (show X ++ List.replicate k 61 ++ [61] = X ++ List.replicate (k + 1) 61 by rw [List.append_assoc, ← List.replicate_succ'])
          go_wp2_with (at_builtin; go_loud (refine wpList_append_sl rfl (.tmp 38) (.tmp 39) 22 rfl w.heap.size 5 i0 Try.underlying22 hi hz0 hz1 hz2 _ (j + k) (X ++ List.replicate k 61) rfl (hown'.alloc _) _ 1 1 [61] rfl (sl_cell _ _ 61 (cell_new _ _ _ rfl)) (by omega) (by have := hW'.size; simp; omega) ?_); intro v1 w1 hown1 hg1)
          have hW1 := (hW'.alloc hW'.size _).grown hg1 (by have := hW'.size; simp; omega) (fun t ht => (hown'.lt t ht).1)
          rw [hrep.out] at hown1
          obtain ⟨a2, c2, rfl, hS2⟩ := Sl.ofOwns hown1
          go_wp2_with fail
          go_roundw
          case rel => exact ⟨k + 1, by omega, hown1, hW1⟩
          case measure => simp [slLen]; omega
        · obtain rfl : k = p := by omega
          have hne : (((j : Int) + (k : Int)) % 4 != 0) = false := by have := HP.out; rw [bne_eq_false_iff_eq]; omega
          have hcv := conv_sl hS
          go_wp2_with fail
          go_ret
          exact ⟨by rw [HB.out, padTo, HN.out, ← HP.out]; rfl, hW'⟩
end Go.Proofs.Ytpdkbbenoipohaa

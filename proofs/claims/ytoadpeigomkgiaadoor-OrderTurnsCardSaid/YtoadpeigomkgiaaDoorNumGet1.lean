/- bytes.Cut, the digits, math.Inf, NaN, Copysign as number.Get uses them. -/
import Derived.Test.YtoadpeigomkgiaaDoorNumLib
import Derived.Test.YtoadpeigomkgiaaDoorReg
import Derived.Deep.Cut
import Derived.Deep.QuietTactic
import Derived.BigQuiet
import Derived.WalkLawsBesides
import Derived.WalkSmall
import Derived.StillTailTactics
namespace Go.Proofs.YtoadpeigomkgiaaDoor
open Go.RowKit

theorem Sl.some {w : World} {a : Option Addr} {len cap : Nat} {l : List UInt8} (h : Sl w a len cap l) (hl : 0 < len) : ∃ b o, a = Option.some ⟨b, o, none⟩ ∧ (∀ i, i < len → w.cell? ⟨b, o + i, none⟩ = Option.some (.int .u8 ((l.getD i 0).toNat : Int))) ∧ b < w.heap.size := by
  have hlt := h.lt
  rcases h.2.2.2.2 with h4 | ⟨b, o, rfl, h4⟩
  · omega
  · exact ⟨b, o, rfl, h4, hlt b o (by omega) rfl⟩
theorem Sl.drewN {w : World} {a : Option Addr} {len cap : Nat} {l : List UInt8} (h : Sl w a len cap l) (n : Nat) : Sl (w.drewN n) a len cap l := h

theorem run_frombits (w : World) (n : Int) : (Extern.MathFloatBits.float64frombits #[.int .u64 n]).run Tryd.prog w = .ok (.float .f64 n.toNat) w := rfl
theorem run_bits (w : World) (n : Nat) : (Extern.MathFloatBits.float64bits #[.float .f64 n]).run Tryd.prog w = .ok (.int .u64 n) w := rfl

set_option maxHeartbeats 2000000 in
theorem inf_pos (w : World) : Calls Tryd.prog 53 #[.int .i64 1] w fun e w' => e = .returned (.float .f64 9218868437227405312) ∧ w = w' := by
  go_enter Tryd.func53, Tryd.ntmps53
  go_wp2_with fail
  rw [run_callFunc_extern Tryd.func70 (by kernel_rfl) (by kernel_rfl) (by kernel_rfl) (e := Extern.MathFloatBits.float64frombits) (by kernel_rfl), run_frombits]
  simp only [Result.andThen]
  rw [Oper.upon_value]
  go_wp2_with fail
  go_ret
  exact ⟨rfl, rfl⟩
set_option maxHeartbeats 2000000 in
theorem inf_neg (w : World) : Calls Tryd.prog 53 #[.int .i64 (-1)] w fun e w' => e = .returned (.float .f64 18442240474082181120) ∧ w = w' := by
  go_enter Tryd.func53, Tryd.ntmps53
  go_wp2_with fail
  rw [run_callFunc_extern Tryd.func70 (by kernel_rfl) (by kernel_rfl) (by kernel_rfl) (e := Extern.MathFloatBits.float64frombits) (by kernel_rfl), run_frombits]
  simp only [Result.andThen]
  rw [Oper.upon_value]
  go_wp2_with fail
  go_ret
  exact ⟨rfl, rfl⟩
set_option maxHeartbeats 2000000 in
theorem nan_any (w : World) : Calls Tryd.prog 54 #[] w fun e w' => e = .returned (.float .f64 9221120237041090561) ∧ w = w' := by
  go_enter Tryd.func54, Tryd.ntmps54
  go_wp2_with fail
  rw [run_callFunc_extern Tryd.func70 (by kernel_rfl) (by kernel_rfl) (by kernel_rfl) (e := Extern.MathFloatBits.float64frombits) (by kernel_rfl), run_frombits]
  simp only [Result.andThen]
  rw [Oper.upon_value]
  go_wp2_with fail
  go_ret
  exact ⟨rfl, rfl⟩

theorem ofInt_nat (r : Nat) : BitVec.ofInt 64 (r : Int) = BitVec.ofNat 64 r := by simp
theorem u64_wrap (n : Nat) (h : n < 18446744073709551616) : IntKind.u64.wrap (n : Int) = (n : Int) := IntWalk.u64_in _ ⟨by omega, by omega⟩
theorem bits_clear (r : Nat) (h : r < 9223372036854775808) : bits .andNot .u64 (r : Int) 9223372036854775808 = (r : Int) := by
  have e : (BitVec.ofNat 64 r &&& ~~~ BitVec.ofNat 64 9223372036854775808).toNat = r := by
    rw [BitVec.toNat_and, BitVec.toNat_not, BitVec.toNat_ofNat, BitVec.toNat_ofNat]
    rw [Nat.mod_eq_of_lt (show r < 2 ^ 64 by simp only [Nat.reducePow]; omega)]
    rw [show 2 ^ 64 - 1 - 9223372036854775808 % 2 ^ 64 = 2 ^ 63 - 1 by decide, Nat.and_two_pow_sub_one_eq_mod]
    exact Nat.mod_eq_of_lt h
  show IntKind.u64.wrap ((BitVec.ofInt 64 (r : Int) &&& ~~~ BitVec.ofInt 64 9223372036854775808).toNat : Int) = _
  rw [ofInt_nat, show (BitVec.ofInt 64 9223372036854775808) = BitVec.ofNat 64 9223372036854775808 from rfl, e]
  exact u64_wrap r (by omega)
theorem bits_join (r : Nat) (h : r < 9223372036854775808) : bits .or .u64 (r : Int) 9223372036854775808 = ((r + 9223372036854775808 : Nat) : Int) := by
  have e : (BitVec.ofNat 64 r ||| BitVec.ofNat 64 9223372036854775808).toNat = r + 9223372036854775808 := by
    rw [BitVec.toNat_or, BitVec.toNat_ofNat, BitVec.toNat_ofNat]
    rw [Nat.mod_eq_of_lt (show r < 2 ^ 64 by simp only [Nat.reducePow]; omega)]
    rw [show 9223372036854775808 % 2 ^ 64 = 2 ^ 63 * 1 by decide, Nat.or_comm, ← Nat.two_pow_add_eq_or_of_lt (i := 63) h 1]
    omega
  show IntKind.u64.wrap ((BitVec.ofInt 64 (r : Int) ||| BitVec.ofInt 64 9223372036854775808).toNat : Int) = _
  rw [ofInt_nat, show (BitVec.ofInt 64 9223372036854775808) = BitVec.ofNat 64 9223372036854775808 from rfl, e]
  exact u64_wrap _ (by omega)
theorem bits_sign : bits .and .u64 13830554455654793216 9223372036854775808 = 9223372036854775808 := by decide

set_option maxHeartbeats 2000000 in
theorem copysign_any (r : Nat) (hr : r ≤ 2047 * 2 ^ 52) (w : World) : Calls Tryd.prog 58 #[.float .f64 r, .float .f64 13830554455654793216] w fun e w' => e = .returned (.float .f64 (r + 2 ^ 63)) ∧ w = w' := by
  have hr' : r < 9223372036854775808 := by simp only [Nat.reducePow, Nat.reduceMul] at hr; omega
  have b1 := bits_clear r hr'
  have b2 := bits_join r hr'
  have b3 := bits_sign
  clear hr hr'
  go_enter Tryd.func58, Tryd.ntmps58
  go_wp2_with fail
  rw [run_callFunc_extern Tryd.func73 (by kernel_rfl) (by kernel_rfl) (by kernel_rfl) (e := Extern.MathFloatBits.float64bits) (by kernel_rfl), run_bits]
  simp only [Result.andThen]
  rw [Oper.upon_value]
  go_wp2_with fail
  rw [run_callFunc_extern Tryd.func73 (by kernel_rfl) (by kernel_rfl) (by kernel_rfl) (e := Extern.MathFloatBits.float64bits) (by kernel_rfl), run_bits]
  simp only [Result.andThen]
  rw [Oper.upon_value]
  go_wp2_with fail
  rw [run_callFunc_extern Tryd.func70 (by kernel_rfl) (by kernel_rfl) (by kernel_rfl) (e := Extern.MathFloatBits.float64frombits) (by kernel_rfl), run_frombits]
  simp only [Result.andThen]
  rw [Oper.upon_value]
  go_wp2_with fail
  go_ret
  exact ⟨rfl, rfl⟩

def CutD (l : List UInt8) (w : World) (e : Ending) (w' : World) : Prop :=
  ∃ a1 n1 c1 a2 n2 c2, e = .returned (.tuple #[.slice a1 n1 c1, .slice a2 n2 c2, .bool (hasDot l)]) ∧ Sl w a1 n1 c1 (whole l) ∧ Sl w a2 n2 c2 (part l) ∧ Below w.heap.size w w'

set_option maxHeartbeats 2000000 in
set_option maxRecDepth 100000 in
theorem cutDot_any (a : Option Addr) (n c : Nat) (l : List UInt8) (b d : Nat) (w : World) (h1 : Sl w a n c l) (h2 : w.cell? ⟨b, 0, none⟩ = some (.int .u8 46)) (hd : 1 ≤ d) (hn : n ≤ 1000) :
    Calls Tryd.prog 56 #[.slice a n c, .slice (some ⟨b, 0, none⟩) 1 d] w (CutD l w) := by
  have hl := Lib.hid h1.1
  have hi := Lib.hid (idx_dot l)
  by_cases h : dot l < l.length
  · obtain ⟨i, hiE⟩ : ∃ i, i = dot l := ⟨_, rfl⟩
    have hI := Lib.hid (show idx l 46 = (i : Int) by rw [idx, hi.out, if_pos h, hiE])
    have hin : i < n := by rw [hl.out, hiE]; exact h
    have hcap := h1.2.1
    obtain ⟨p, q, rfl, _, _⟩ := h1.some (by omega)
    have hH := Lib.hid (show hasDot l = true by simp [hasDot, h])
    have HW := Lib.hid (show Sl w (some ⟨p, q, none⟩) i c (whole l) by unfold whole; rw [← hiE]; exact h1.take i (by omega))
    have HP := Lib.hid (show Sl w (if c = i + 1 then some ⟨p, q, none⟩ else some ⟨p, q + (i + 1), none⟩) (n - (i + 1)) (c - (i + 1)) (part l) by unfold part; rw [← hiE]; exact h1.drop (i + 1) (by omega))
    have hw1 : IntKind.i64.wrap ((i : Int) + 1) = (i : Int) + 1 := IntWalk.i64_in _ ⟨by omega, by omega⟩
    have HH1 := Lib.hid h1
    clear h hiE h1
    obtain ⟨a2, hA2⟩ : ∃ a2 : Option Addr, a2 = (if c = i + 1 then some ⟨p, q, none⟩ else some ⟨p, q + (i + 1), none⟩) := ⟨_, rfl⟩
    go_enter Tryd.func56, Tryd.ntmps56
    go_wp2_with fail
    refine (indexDot_any _ _ _ l _ _ _ 46 _ HH1.out h2 hd).mono ?_
    rintro e w' ⟨rfl, rfl⟩
    rw [hI.out]
    go_upto_region 3 with fail
    refine wp_region_made w.heap.size w rfl (by kernel_rfl) (Below.refl _ _) ?_
    refine wpQ_run rfl (.slice (some ⟨p, q, none⟩) n c) (fun w hw => by simp [go_sem]) ?_
    refine wpQ_run rfl (.int .i64 i) (fun w hw => by simp [go_sem]) ?_
    refine wpQ_run rfl (.slice (some ⟨p, q, none⟩) i c) (fun w hw => by simp [go_sem]; intro hx; exact absurd hx (by omega)) ?_
    refine wpQ_run rfl (.slice (some ⟨p, q, none⟩) n c) (fun w hw => by simp [go_sem]) ?_
    refine wpQ_run rfl (.int .i64 i) (fun w hw => by simp [go_sem]) ?_
    refine wpQ_run rfl (.slice (some ⟨b, 0, none⟩) 1 d) (fun w hw => by simp [go_sem]) ?_
    refine wpQ_run rfl (.int .i64 1) (fun w hw => by simp [go_sem]) ?_
    refine wpQ_run rfl (.int .i64 ((i : Int) + 1)) (fun w hw => by simp [go_sem, hw1]) ?_
    refine wpQ_run rfl (.slice a2 (n - (i + 1)) (c - (i + 1))) (fun w hw => by simp [go_sem]; rw [if_pos (by omega), hA2]) ?_
    refine wpQ_run rfl (.slice (some ⟨p, q, none⟩) i c) (fun w hw => by simp [go_sem]) ?_
    refine wpQ_run rfl (.slice a2 (n - (i + 1)) (c - (i + 1))) (fun w hw => by simp [go_sem]) ?_
    refine wpQ_run rfl (.bool true) (fun w hw => by simp [go_sem]) ?_
    intro w1 hb1
    go_wp2_with fail
    exact bodyPost_ret (v := .tuple #[.slice (some ⟨p, q, none⟩) i c, .slice a2 (n - (i + 1)) (c - (i + 1)), .bool true]) (by simp [results, Tryd.results56, go_sem]) rfl ⟨_, _, _, _, _, _, by rw [hH.out], HW.out, by rw [hA2]; exact HP.out, hb1⟩
  · have hI := Lib.hid (show idx l 46 = -1 by rw [idx, hi.out, if_neg h])
    have hH := Lib.hid (show hasDot l = false by simp [hasDot, h])
    have HW := Lib.hid (split_no l h)
    go_enter Tryd.func56, Tryd.ntmps56
    go_wp2_with fail
    refine (indexDot_any _ _ _ l _ _ _ 46 _ h1 h2 hd).mono ?_
    rintro e w' ⟨rfl, rfl⟩
    rw [hI.out]
    go_wp2_with fail
    exact bodyPost_ret (v := .tuple #[.slice a n c, .slice none 0 0, .bool false]) (by simp [results, Tryd.results56, go_sem]) rfl ⟨_, _, _, _, _, _, by rw [hH.out], by rw [HW.out.1]; exact h1, by rw [HW.out.2]; exact ⟨rfl, Nat.le_refl _, Nat.zero_le _, fun _ => rfl, .inl rfl⟩, Below.refl _ _⟩
end Go.Proofs.YtoadpeigomkgiaaDoor

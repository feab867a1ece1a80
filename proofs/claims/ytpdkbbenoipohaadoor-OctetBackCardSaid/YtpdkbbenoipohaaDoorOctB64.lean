/- octet.Base64: what it computes. -/
import Derived.Test.YtpdkbbenoipohaaDoorBld
import Derived.Test.YtpdkbbenoipohaaDoorSl
import Derived.WalkKit
import Derived.Handy
import Derived.Lib.Hide
namespace Go.Proofs.YtpdkbbenoipohaaDoor
open Go.RowKit

def signs : ByteArray := ⟨#[65, 66, 67, 68, 69, 70, 71, 72, 73, 74, 75, 76, 77, 78, 79, 80, 81, 82, 83, 84, 85, 86, 87, 88, 89, 90, 97, 98, 99, 100, 101, 102, 103, 104, 105, 106, 107, 108, 109, 110, 111, 112, 113, 114, 115, 116, 117, 118, 119, 120, 121, 122, 48, 49, 50, 51, 52, 53, 54, 55, 56, 57, 43, 47]⟩
def sgn (k : Nat) : UInt8 := if h : k < 64 then signs[k]'h else 0
theorem sgn_eq (k : Nat) (h : k < 64) : signs[k]'h = sgn k := by simp [sgn, h]

def quad (n : Nat) : List UInt8 := [sgn (n / 262144 % 64), sgn (n / 4096 % 64), sgn (n / 64 % 64), sgn (n % 64)]
def b64 : List UInt8 → List UInt8
  | [] => []
  | [a] => [sgn (a.toNat * 65536 / 262144 % 64), sgn (a.toNat * 65536 / 4096 % 64), 61, 61]
  | [a, b] => [sgn ((a.toNat * 65536 + b.toNat * 256) / 262144 % 64), sgn ((a.toNat * 65536 + b.toNat * 256) / 4096 % 64), sgn ((a.toNat * 65536 + b.toNat * 256) / 64 % 64), 61]
  | a :: b :: c :: t => quad (a.toNat * 65536 + b.toNat * 256 + c.toNat) ++ b64 t

theorem or_step (X y : Nat) (hX : X < 65536) (hy : y < 256) : bits BinOp.or IntKind.u32 ((X : Int) * 256) (y : Int) = ((X * 256 + y : Nat) : Int) := by
  have e1 : (X : Int) * 256 = ((X * 256 : Nat) : Int) := by omega
  rw [e1, u32_or_nat _ _ (by omega) (by omega)]
  congr 1
  have := Nat.two_pow_add_eq_or_of_lt (i := 8) (b := y) (by omega) X
  rw [show X * 256 = 2 ^ 8 * X by omega, this]
theorem or_first (y : Nat) (hy : y < 256) : bits BinOp.or IntKind.u32 0 (y : Int) = (y : Int) := by
  have := or_step 0 y (by omega) hy
  simpa using this
theorem and63 (X : Nat) (hX : X < 4294967296) : bits BinOp.and IntKind.u32 (X : Int) 63 = ((X % 64 : Nat) : Int) := by
  rw [show (63 : Int) = ((63 : Nat) : Int) from rfl, u32_and_nat _ _ hX (by omega)]
  congr 1
  exact Nat.and_two_pow_sub_one_eq_mod X 6

theorem byteCells_snoc (d : List UInt8) (c : UInt8) : Lib.byteCells d ++ [Value.int IntKind.u8 (c.toNat : Int)] = Lib.byteCells (d ++ [c]) := by simp [Lib.byteCells]
theorem byteCells_fill (d : List UInt8) : Lib.byteCells d ++ Lib.strCells ⟨#[61]⟩ = Lib.byteCells (d ++ [61]) := by simp [Lib.byteCells, Lib.strCells]
theorem shl_step (X : Nat) (hX : X < 16777216) : (X : Int) * 256 % 4294967296 = ((X * 256 : Nat) : Int) := by omega
theorem b64_len (l : List UInt8) : (b64 l).length ≤ 2 * l.length + 4 := by
  induction l using b64.induct <;> simp [b64, quad] <;> omega

set_option maxHeartbeats 1600000 in
theorem base64_any (a : Option Addr) (len cap : Nat) (l : List UInt8) (w : World) (hs : Sl w a len cap l) (hl : l.length ≤ 1000000) :
    Calls Tryd.prog 10 #[.slice a len cap] w fun e w' => e = .returned (.string ⟨(b64 l).toArray⟩) ∧ Below w.heap.size w w' := by
  go_enter Tryd.func10, Tryd.ntmps10
  go_wp2
  go_loopw [0] (fun s wr => ∃ (a' : Option Addr) (len' cap' : Nat) (l' d : List UInt8), s = .slice a' len' cap' ∧ Sl wr a' len' cap' l' ∧ (∀ b o, len' ≠ 0 → a' = some ⟨b, o, none⟩ → b < w.heap.size) ∧ d ++ b64 l' = b64 l ∧ Lib.IsBuilder 35 5 w.heap.size w.heap.size (Lib.byteCells d) wr ∧ Below w.heap.size w wr)
    (fun s _ => match s with | .slice _ n _ => n | _ => 0)
  case atStart =>
    have hb : Below w.heap.size w (w.alloc (.cells #[.pointer none, .slice none 0 0] 35)) := (Below.refl _ _).alloc (Nat.le_refl _) _
    exact ⟨a, len, cap, l, [], rfl, hs.below hb hs.lt, hs.lt, rfl, Lib.fresh_isBuilder _ _ _, hb⟩
  case round =>
    obtain ⟨a', len', cap', l', d, rfl, hs', hlow, hd, hB, hW⟩ := hrel
    obtain ⟨hlen, hlc, hcm, hnil, hc⟩ := hs'
    clear hs
    rcases l' with _ | ⟨x, _ | ⟨y, _ | ⟨z, t⟩⟩⟩
    · obtain rfl : len' = 0 := by simpa using hlen
      have HD := Lib.hid hd
      clear hlen hc hlow hd hnil
      go_wp2_with fail
      refine (bldOut _ _ _ _ hB hW.size).mono ?_
      rintro e w1 ⟨rfl, hb1⟩
      go_wp2_with fail
      go_ret
      exact ⟨by rw [← HD.out]; simp [b64], hW.trans hb1⟩
    · obtain rfl : len' = 1 := by simpa using hlen
      obtain ⟨b, o, rfl, hcc⟩ : ∃ b o, a' = some ⟨b, o, none⟩ ∧ ∀ i, i < 1 → wr.cell? ⟨b, o + i, none⟩ = some (.int .u8 (([x].getD i 0).toNat : Int)) := by
        rcases hc with hc | hc
        · omega
        · exact hc
      have c0 := hcc 0 (by omega)
      simp only [Nat.add_zero, List.getD_cons_zero] at c0
      have HS := Lib.hid (Sl.mk' hlen hlc hcm (fun h => by cases h) (.inr ⟨b, o, rfl, hcc⟩))
      have hbw : b < w.heap.size := hlow b o (by omega) rfl
      have hdl : d.length + 4 ≤ 3000000 := by
        have h1 := b64_len l
        rw [← hd] at h1
        simp [b64] at h1
        omega
      have hx := x.toNat_lt
      have HD := Lib.hid hd
      clear hlen hc hcc hlow hd hnil
      have e1 := or_first x.toNat hx
      obtain ⟨X1, hX1⟩ : ∃ X1 : Nat, X1 = x.toNat * 256 := ⟨_, rfl⟩
      obtain ⟨X2, hX2⟩ : ∃ X2 : Nat, X2 = X1 * 256 := ⟨_, rfl⟩
      have e2 : (x.toNat : Int) * 256 = (X1 : Int) := by omega
      have e3 : (X1 : Int) * 256 = (X2 : Int) := by omega
      obtain ⟨k0, h0⟩ : ∃ k : Nat, k = X2 / 262144 % 64 := ⟨_, rfl⟩
      obtain ⟨k1, h1⟩ : ∃ k : Nat, k = X2 / 4096 % 64 := ⟨_, rfl⟩
      have f0 := and63 (X2 / 262144) (by omega)
      rw [← h0] at f0
      have f1 := and63 (X2 / 4096) (by omega)
      rw [← h1] at f1
      have b1 : X1 < 65536 := by omega
      have b2 : X2 < 16777216 := by omega
      have l0 : k0 < 64 := by omega
      have l1 : k1 < 64 := by omega
      have hq : b64 [x] = [sgn k0, sgn k1, 61, 61] := by
        have : x.toNat * 65536 = X2 := by omega
        simp only [b64, this, h0, h1]
      simp only [Int.natCast_ediv] at f0 f1
      simp at f0 f1
      have HQ := Lib.hid hq
      clear hX1 hX2 h0 h1 hq
      go_wp2_with fail
      refine wp_loop_rounds 4 ?_
      rw [rounds_succ]
      go_wp2_with fail
      rw [rounds_succ]
      go_wp2_with fail
      rw [rounds_succ]
      go_wp2_with fail
      rw [rounds_succ]
      go_wp2_with fail
      clear e1 e2 e3
      refine wp_loop_rounds 5 ?_
      rw [rounds_succ]
      go_wp2_with fail
      refine (bldByte _ _ _ _ _ hB (by simp [Lib.byteCells]; omega) hW.size).mono ?_
      rintro e w1 ⟨rfl, hB1, hb1⟩
      replace hB1 : Lib.IsBuilder 35 5 w.heap.size w.heap.size (Lib.byteCells (d ++ [sgn k0])) w1 := by have hh := hB1; have hs := sgn_eq k0 l0; unfold signs at hs; rw [hs, byteCells_snoc] at hh; simpa using hh
      go_wp2_with fail
      rw [rounds_succ]
      go_wp2_with fail
      refine (bldByte _ _ _ _ _ hB1 (by simp [Lib.byteCells]; omega) (hW.trans hb1).size).mono ?_
      rintro e w2 ⟨rfl, hB2, hb2⟩
      replace hB2 : Lib.IsBuilder 35 5 w.heap.size w.heap.size (Lib.byteCells (d ++ [sgn k0, sgn k1])) w2 := by have hh := hB2; have hs := sgn_eq k1 l1; unfold signs at hs; rw [hs, byteCells_snoc] at hh; simpa using hh
      go_wp2_with fail
      rw [rounds_succ]
      go_wp2_with fail
      refine (bldString _ _ _ _ _ hB2 (by simp [Lib.byteCells, ByteArray.size]; omega) ((hW.trans hb1).trans hb2).size).mono ?_
      rintro e w3 ⟨rfl, hB3, hb3⟩
      replace hB3 : Lib.IsBuilder 35 5 w.heap.size w.heap.size (Lib.byteCells (d ++ [sgn k0, sgn k1, 61])) w3 := by have hh := hB3; rw [byteCells_fill] at hh; simpa using hh
      go_wp2_with fail
      rw [rounds_succ]
      go_wp2_with fail
      refine (bldString _ _ _ _ _ hB3 (by simp [Lib.byteCells, ByteArray.size]; omega) (((hW.trans hb1).trans hb2).trans hb3).size).mono ?_
      rintro e w4 ⟨rfl, hB4, hb4⟩
      replace hB4 : Lib.IsBuilder 35 5 w.heap.size w.heap.size (Lib.byteCells (d ++ [sgn k0, sgn k1, 61, 61])) w4 := by have hh := hB4; rw [byteCells_fill] at hh; simpa using hh
      go_wp2_with fail
      rw [rounds_succ]
      go_wp2_with fail
      go_roundw
      case rel =>
        have hb := ((hb1.trans hb2).trans hb3).trans hb4
        have hS := HS.out.drop 1 (by omega)
        refine ⟨_, _, _, [], d ++ [sgn k0, sgn k1, 61, 61], rfl, hS.below hb ?_, ?_, ?_, hB4, hW.trans hb⟩
        · intro b' o' _ e; split at e <;> (simp at e; try omega)
        · intro b' o' _ e; split at e <;> (simp at e; try omega)
        · rw [← HD.out, HQ.out]; simp [b64]
      case measure => simp
    · obtain rfl : len' = 2 := by simpa using hlen
      obtain ⟨b, o, rfl, hcc⟩ : ∃ b o, a' = some ⟨b, o, none⟩ ∧ ∀ i, i < 2 → wr.cell? ⟨b, o + i, none⟩ = some (.int .u8 (([x, y].getD i 0).toNat : Int)) := by
        rcases hc with hc | hc
        · omega
        · exact hc
      have c0 := hcc 0 (by omega)
      have c1 := hcc 1 (by omega)
      simp only [Nat.add_zero, List.getD_cons_zero, List.getD_cons_succ] at c0 c1
      have HS := Lib.hid (Sl.mk' hlen hlc hcm (fun h => by cases h) (.inr ⟨b, o, rfl, hcc⟩))
      have hbw : b < w.heap.size := hlow b o (by omega) rfl
      have hdl : d.length + 4 ≤ 3000000 := by
        have h1 := b64_len l
        rw [← hd] at h1
        simp [b64] at h1
        omega
      have hx := x.toNat_lt
      have hy := y.toNat_lt
      have HD := Lib.hid hd
      clear hlen hc hcc hlow hd hnil
      have e1 := or_first x.toNat hx
      obtain ⟨X1, hX1⟩ : ∃ X1 : Nat, X1 = x.toNat * 256 + y.toNat := ⟨_, rfl⟩
      obtain ⟨X2, hX2⟩ : ∃ X2 : Nat, X2 = X1 * 256 := ⟨_, rfl⟩
      have e2 := or_step x.toNat y.toNat (by omega) hy
      rw [← hX1] at e2
      have e3 : (X1 : Int) * 256 = (X2 : Int) := by omega
      obtain ⟨k0, h0⟩ : ∃ k : Nat, k = X2 / 262144 % 64 := ⟨_, rfl⟩
      obtain ⟨k1, h1⟩ : ∃ k : Nat, k = X2 / 4096 % 64 := ⟨_, rfl⟩
      obtain ⟨k2, h2⟩ : ∃ k : Nat, k = X2 / 64 % 64 := ⟨_, rfl⟩
      have f0 := and63 (X2 / 262144) (by omega)
      rw [← h0] at f0
      have f1 := and63 (X2 / 4096) (by omega)
      rw [← h1] at f1
      have f2 := and63 (X2 / 64) (by omega)
      rw [← h2] at f2
      have b1 : X1 < 65536 := by omega
      have b2 : X2 < 16777216 := by omega
      have l0 : k0 < 64 := by omega
      have l1 : k1 < 64 := by omega
      have l2 : k2 < 64 := by omega
      have hq : b64 [x, y] = [sgn k0, sgn k1, sgn k2, 61] := by
        have : x.toNat * 65536 + y.toNat * 256 = X2 := by omega
        simp only [b64, this, h0, h1, h2]
      simp only [Int.natCast_ediv] at f0 f1 f2
      simp at f0 f1 f2
      have HQ := Lib.hid hq
      clear hX1 hX2 h0 h1 h2 hq
      go_wp2_with fail
      refine wp_loop_rounds 4 ?_
      rw [rounds_succ]
      go_wp2_with fail
      rw [rounds_succ]
      go_wp2_with fail
      rw [rounds_succ]
      go_wp2_with fail
      rw [rounds_succ]
      go_wp2_with fail
      clear e1 e2 e3
      refine wp_loop_rounds 5 ?_
      rw [rounds_succ]
      go_wp2_with fail
      refine (bldByte _ _ _ _ _ hB (by simp [Lib.byteCells]; omega) hW.size).mono ?_
      rintro e w1 ⟨rfl, hB1, hb1⟩
      replace hB1 : Lib.IsBuilder 35 5 w.heap.size w.heap.size (Lib.byteCells (d ++ [sgn k0])) w1 := by have hh := hB1; have hs := sgn_eq k0 l0; unfold signs at hs; rw [hs, byteCells_snoc] at hh; simpa using hh
      go_wp2_with fail
      rw [rounds_succ]
      go_wp2_with fail
      refine (bldByte _ _ _ _ _ hB1 (by simp [Lib.byteCells]; omega) (hW.trans hb1).size).mono ?_
      rintro e w2 ⟨rfl, hB2, hb2⟩
      replace hB2 : Lib.IsBuilder 35 5 w.heap.size w.heap.size (Lib.byteCells (d ++ [sgn k0, sgn k1])) w2 := by have hh := hB2; have hs := sgn_eq k1 l1; unfold signs at hs; rw [hs, byteCells_snoc] at hh; simpa using hh
      go_wp2_with fail
      rw [rounds_succ]
      go_wp2_with fail
      refine (bldByte _ _ _ _ _ hB2 (by simp [Lib.byteCells]; omega) ((hW.trans hb1).trans hb2).size).mono ?_
      rintro e w3 ⟨rfl, hB3, hb3⟩
      replace hB3 : Lib.IsBuilder 35 5 w.heap.size w.heap.size (Lib.byteCells (d ++ [sgn k0, sgn k1, sgn k2])) w3 := by have hh := hB3; have hs := sgn_eq k2 l2; unfold signs at hs; rw [hs, byteCells_snoc] at hh; simpa using hh
      go_wp2_with fail
      rw [rounds_succ]
      go_wp2_with fail
      refine (bldString _ _ _ _ _ hB3 (by simp [Lib.byteCells, ByteArray.size]; omega) (((hW.trans hb1).trans hb2).trans hb3).size).mono ?_
      rintro e w4 ⟨rfl, hB4, hb4⟩
      replace hB4 : Lib.IsBuilder 35 5 w.heap.size w.heap.size (Lib.byteCells (d ++ [sgn k0, sgn k1, sgn k2, 61])) w4 := by have hh := hB4; rw [byteCells_fill] at hh; simpa using hh
      go_wp2_with fail
      rw [rounds_succ]
      go_wp2_with fail
      go_roundw
      case rel =>
        have hb := ((hb1.trans hb2).trans hb3).trans hb4
        have hS := HS.out.drop 2 (by omega)
        refine ⟨_, _, _, [], d ++ [sgn k0, sgn k1, sgn k2, 61], rfl, hS.below hb ?_, ?_, ?_, hB4, hW.trans hb⟩
        · intro b' o' _ e; split at e <;> (simp at e; try omega)
        · intro b' o' _ e; split at e <;> (simp at e; try omega)
        · rw [← HD.out, HQ.out]; simp [b64]
      case measure => simp
    · have hlen' : 3 ≤ len' := by simp at hlen; omega
      obtain ⟨b, o, rfl, hcc⟩ : ∃ b o, a' = some ⟨b, o, none⟩ ∧ ∀ i, i < len' → wr.cell? ⟨b, o + i, none⟩ = some (.int .u8 (((x :: y :: z :: t).getD i 0).toNat : Int)) := by
        rcases hc with hc | hc
        · omega
        · exact hc
      have c0 := hcc 0 (by omega)
      have c1 := hcc 1 (by omega)
      have c2 := hcc 2 (by omega)
      simp only [Nat.add_zero, List.getD_cons_zero, List.getD_cons_succ] at c0 c1 c2
      have HS := Lib.hid (Sl.mk' hlen hlc hcm (fun h => by cases h) (.inr ⟨b, o, rfl, hcc⟩))
      have hbw : b < w.heap.size := hlow b o (by omega) rfl
      have hdl : d.length + 4 ≤ 3000000 := by
        have h1 := b64_len l
        rw [← hd] at h1
        simp [b64, quad] at h1
        omega
      have hm : min (len' : Int) 3 = 3 := by omega
      have hx := x.toNat_lt
      have hy := y.toNat_lt
      have hz := z.toNat_lt
      have HD := Lib.hid hd
      clear hlen hc hcc hlow hd hnil
      have e1 := or_first x.toNat hx
      obtain ⟨X1, hX1⟩ : ∃ X1 : Nat, X1 = x.toNat * 256 + y.toNat := ⟨_, rfl⟩
      obtain ⟨X2, hX2⟩ : ∃ X2 : Nat, X2 = X1 * 256 + z.toNat := ⟨_, rfl⟩
      have e2 := or_step x.toNat y.toNat (by omega) hy
      rw [← hX1] at e2
      have e3 := or_step X1 z.toNat (by omega) hz
      rw [← hX2] at e3
      obtain ⟨k0, h0⟩ : ∃ k : Nat, k = X2 / 262144 % 64 := ⟨_, rfl⟩
      obtain ⟨k1, h1⟩ : ∃ k : Nat, k = X2 / 4096 % 64 := ⟨_, rfl⟩
      obtain ⟨k2, h2⟩ : ∃ k : Nat, k = X2 / 64 % 64 := ⟨_, rfl⟩
      obtain ⟨k3, h3⟩ : ∃ k : Nat, k = X2 % 64 := ⟨_, rfl⟩
      have f0 := and63 (X2 / 262144) (by omega)
      rw [← h0] at f0
      have f1 := and63 (X2 / 4096) (by omega)
      rw [← h1] at f1
      have f2 := and63 (X2 / 64) (by omega)
      rw [← h2] at f2
      have f3 := and63 (X2) (by omega)
      rw [← h3] at f3
      have b1 : X1 < 65536 := by omega
      have b2 : X2 < 16777216 := by omega
      have l0 : k0 < 64 := by omega
      have l1 : k1 < 64 := by omega
      have l2 : k2 < 64 := by omega
      have l3 : k3 < 64 := by omega
      have hq : quad (x.toNat * 65536 + y.toNat * 256 + z.toNat) = [sgn k0, sgn k1, sgn k2, sgn k3] := by
        have : x.toNat * 65536 + y.toNat * 256 + z.toNat = X2 := by omega
        rw [this, quad, h0, h1, h2, h3]
      simp only [Int.natCast_ediv] at f0 f1 f2
      simp at f0 f1 f2 f3
      have HQ := Lib.hid hq
      clear hX1 hX2 h0 h1 h2 h3 hq
      go_wp2_with fail
      refine wp_loop_rounds 4 ?_
      rw [rounds_succ]
      go_wp2_with fail
      rw [rounds_succ]
      go_wp2_with fail
      rw [rounds_succ]
      go_wp2_with fail
      rw [rounds_succ]
      go_wp2_with fail
      clear e1 e2 e3
      refine wp_loop_rounds 5 ?_
      rw [rounds_succ]
      go_wp2_with fail
      refine (bldByte _ _ _ _ _ hB (by simp [Lib.byteCells]; omega) hW.size).mono ?_
      rintro e w1 ⟨rfl, hB1, hb1⟩
      replace hB1 : Lib.IsBuilder 35 5 w.heap.size w.heap.size (Lib.byteCells (d ++ [sgn k0])) w1 := by have hh := hB1; have hs := sgn_eq k0 l0; unfold signs at hs; rw [hs, byteCells_snoc] at hh; simpa using hh
      go_wp2_with fail
      rw [rounds_succ]
      go_wp2_with fail
      refine (bldByte _ _ _ _ _ hB1 (by simp [Lib.byteCells]; omega) (hW.trans hb1).size).mono ?_
      rintro e w2 ⟨rfl, hB2, hb2⟩
      replace hB2 : Lib.IsBuilder 35 5 w.heap.size w.heap.size (Lib.byteCells (d ++ [sgn k0, sgn k1])) w2 := by have hh := hB2; have hs := sgn_eq k1 l1; unfold signs at hs; rw [hs, byteCells_snoc] at hh; simpa using hh
      go_wp2_with fail
      rw [rounds_succ]
      go_wp2_with fail
      refine (bldByte _ _ _ _ _ hB2 (by simp [Lib.byteCells]; omega) ((hW.trans hb1).trans hb2).size).mono ?_
      rintro e w3 ⟨rfl, hB3, hb3⟩
      replace hB3 : Lib.IsBuilder 35 5 w.heap.size w.heap.size (Lib.byteCells (d ++ [sgn k0, sgn k1, sgn k2])) w3 := by have hh := hB3; have hs := sgn_eq k2 l2; unfold signs at hs; rw [hs, byteCells_snoc] at hh; simpa using hh
      go_wp2_with fail
      rw [rounds_succ]
      go_wp2_with fail
      refine (bldByte _ _ _ _ _ hB3 (by simp [Lib.byteCells]; omega) (((hW.trans hb1).trans hb2).trans hb3).size).mono ?_
      rintro e w4 ⟨rfl, hB4, hb4⟩
      replace hB4 : Lib.IsBuilder 35 5 w.heap.size w.heap.size (Lib.byteCells (d ++ [sgn k0, sgn k1, sgn k2, sgn k3])) w4 := by have hh := hB4; have hs := sgn_eq k3 l3; unfold signs at hs; rw [hs, byteCells_snoc] at hh; simpa using hh
      go_wp2_with fail
      rw [rounds_succ]
      go_wp2_with fail
      go_roundw
      case rel =>
        have hb := ((hb1.trans hb2).trans hb3).trans hb4
        have hS := HS.out.drop 3 (by omega)
        refine ⟨_, _, _, t, d ++ [sgn k0, sgn k1, sgn k2, sgn k3], rfl, hS.below hb ?_, ?_, ?_, hB4, hW.trans hb⟩
        · intro b' o' _ e; split at e <;> (simp at e; try omega)
        · intro b' o' _ e; split at e <;> (simp at e; try omega)
        · rw [← HD.out]; simp [b64, HQ.out]
      case measure => simp; omega
end Go.Proofs.YtpdkbbenoipohaaDoor

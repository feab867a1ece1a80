/- octet.Unbase64: what it computes. -/
import Derived.Test.YtpdkbbenoipohaaOctMath
import Derived.Test.YtpdkbbenoipohaaOctUnhex
import Derived.Test.YtpdkbbenoipohaaConv
import Derived.Lib.IndexBytes
namespace Go.Proofs.Ytpdkbbenoipohaa
open Go.RowKit

def svI (c : UInt8) : Int := match sval c.toNat with | some v => (v : Int) | none => -1
theorem svI_some (c : UInt8) (v : Nat) (h : sval c.toNat = some v) : svI c = (v : Int) := by simp [svI, h]
theorem svI_none (c : UInt8) (h : sval c.toNat = none) : svI c = -1 := by simp [svI, h]
theorem idx_any (c : UInt8) (w : World) : Calls Try.prog 20 #[.string signs, .int .u8 (c.toNat : Int)] w fun e w' => e = .returned (.int .i64 (svI c)) ∧ w = w' := by
  refine (Try.strings_IndexByte signs (c.toNat : Int) w).mono ?_
  rintro e w' ⟨rfl, rfl⟩
  have h := sval_idx ⟨c.toNat, c.toNat_lt⟩
  refine ⟨?_, rfl⟩
  rw [Int.toNat_natCast, h]
  rfl
theorem u32_first (k m : Nat) (h : k * m < 4294967296) : bits .or .u32 0 ((k : Int) * (m : Int)) = ((k * m : Nat) : Int) := by
  rw [show ((k : Int) * (m : Int)) = ((k * m : Nat) : Int) by simp, show (0 : Int) = ((0 : Nat) : Int) from rfl, u32_or_nat _ _ (by omega) h]
  simp
theorem u32_next (X k m : Nat) (j : Nat) (hX : X % 2 ^ j = 0) (hk : k * m < 2 ^ j) (hX2 : X < 16777216) (hj : j ≤ 24) : bits .or .u32 (X : Int) ((k : Int) * (m : Int)) = ((X + k * m : Nat) : Int) := by
  have h2 : (2 : Int) ^ j ≤ 2 ^ 24 := by
    have := Nat.pow_le_pow_right (n := 2) (by omega) hj
    exact_mod_cast this
  have hk' : (k : Int) * (m : Int) < 2 ^ j := by
    have : ((k * m : Nat) : Int) < ((2 ^ j : Nat) : Int) := by exact_mod_cast hk
    simpa using this
  have hp : (0 : Int) ≤ (k : Int) * (m : Int) := by
    have : (0 : Int) ≤ ((k * m : Nat) : Int) := Int.natCast_nonneg _
    simpa using this
  rw [bits_join .u32 32 (by decide) (fun n h0 h1 => by rw [IntKind.wrap_u32]; omega) j _ _ (by omega) (by exact_mod_cast hX) (by omega) hp hk' (by omega)]
  simp
theorem unb_drop (s : ByteArray) (h : 4 ≤ s.size) : unb s.data.toList = dec4 (s[0]'(by omega)) (s[1]'(by omega)) (s[2]'(by omega)) (s[3]'(by omega)) ++ unb (s.extract 4 s.size).data.toList := by
  have hl : 4 ≤ s.data.toList.length := by simpa using h
  rw [Lib.extract_to_end]
  obtain ⟨l, hE⟩ : ∃ l, l = s.data.toList := ⟨_, rfl⟩
  have g0 : s[0]'(by omega) = s.data.toList[0]'(by omega) := rfl
  have g1 : s[1]'(by omega) = s.data.toList[1]'(by omega) := rfl
  have g2 : s[2]'(by omega) = s.data.toList[2]'(by omega) := rfl
  have g3 : s[3]'(by omega) = s.data.toList[3]'(by omega) := rfl
  rw [g0, g1, g2, g3]
  simp only [← hE]
  rw [← hE] at hl
  match l, hl with
  | a :: b :: c :: d :: t, _ => simp [unb]
theorem unb_short (s : ByteArray) (h : s.size < 4) : unb s.data.toList = [] := by
  have hl : s.data.toList.length < 4 := by simpa using h
  match s.data.toList, hl with
  | [], _ => rfl
  | [_], _ => rfl
  | [_, _], _ => rfl
  | [_, _, _], _ => rfl
theorem ofNat_256 (n : Nat) : UInt8.ofNat (n % 256) = UInt8.ofNat n := by
  apply UInt8.toNat_inj.1; simp

set_option maxHeartbeats 8000000 in
set_option maxRecDepth 100000 in
theorem unb_any (s : ByteArray) (w : World) (hs : s.size ≤ 100000) :
    Calls Try.prog 11 #[.string s] w (Gave (unb64 s.data.toList) (.int .i64 (errForm (unb64 s.data.toList))) w.heap.size w) := by
  obtain ⟨R, hR⟩ : ∃ R, R = unb64 s.data.toList := ⟨_, rfl⟩
  rw [← hR]
  have HR := Lib.hid hR
  have HSL := Lib.hid (show s.toList = s.data.toList from Lib.toList_data s)
  clear hR
  obtain ⟨i0, hi, hz0, hz1, hz2⟩ := info_parts bldInfo5
  go_enter Try.func11, Try.ntmps11
  go_wp2_with fail
  go_loopw [4, 5] (fun out rest wr => ∃ (r : ByteArray) (d : List UInt8), rest = .string r ∧ wr.ownsRow w.heap.size 5 1 out d.length (Lib.byteCells d) ∧ Hid (unb s.data.toList = d ++ unb r.data.toList) ∧ d.length + r.size ≤ s.size ∧ Below w.heap.size w wr) (fun _ rest _ => strLen rest)
  case atStart => exact ⟨s, [], rfl, World.ownsRow_nil _ _ _ _, Lib.hid (by simp), by simp, Below.refl _ _⟩
  case round =>
    obtain ⟨wa, rfl⟩ : ∃ wa : World, wa = wr := ⟨_, rfl⟩
    obtain ⟨r, d, rfl, hown, HD, hdl, hW⟩ := hrel
    by_cases hlt : 4 ≤ r.size
    · have hlt' : (4 : Int) ≤ (r.size : Int) := by omega
      have HU := Lib.hid (unb_drop r hlt)
      have hex : (r.extract 4 r.size).size = r.size - 4 := by simp
      obtain ⟨r', hr'⟩ : ∃ r', r' = r.extract 4 r.size := ⟨_, rfl⟩
      rw [← hr'] at HU hex
      have HEX := Lib.hid hex
      have er := hr'.symm
      obtain ⟨c0, hc0⟩ : ∃ c, c = r[0]'(by omega) := ⟨_, rfl⟩
      obtain ⟨c1, hc1⟩ : ∃ c, c = r[1]'(by omega) := ⟨_, rfl⟩
      obtain ⟨c2, hc2⟩ : ∃ c, c = r[2]'(by omega) := ⟨_, rfl⟩
      obtain ⟨c3, hc3⟩ : ∃ c, c = r[3]'(by omega) := ⟨_, rfl⟩
      rw [← hc0, ← hc1, ← hc2, ← hc3] at HU
      have e0 := hc0.symm
      have e1 := hc1.symm
      have e2 := hc2.symm
      have e3 := hc3.symm
      clear hc0 hc1 hc2 hc3 hr' hex
      cases h0 : sval c0.toNat with
      | none =>
        have q0 := svI_none c0 h0
        have HV := Lib.hid (show dec4 c0 c1 c2 c3 = [] by simp only [dec4, h0])
        have HT := Lib.hid (show unb s.data.toList = d ++ unb r'.data.toList by rw [HD.out, HU.out, HV.out]; simp)
        clear h0 HU HD
        go_wp2_with fail
        refine wp_loop_rounds 5 ?_
        rw [rounds_succ]
        go_wp2_with fail
        refine (idx_any _ _).mono ?_
        rintro e wx ⟨rfl, rfl⟩
        go_wp2_with fail
        refine wp_loop_rounds 4 ?_
        rw [rounds_succ]
        go_wp2_with fail
        go_roundw
        case rel => exact ⟨r', d, rfl, by simpa using hown, HT, by have := HEX.out; simp; omega, hW⟩
        case measure => have := HEX.out; simp [strLen]; omega
      | some k0 =>
        cases h1 : sval c1.toNat with
        | none =>
          have q0 := svI_some c0 k0 h0
          have l0 : k0 < 64 := sval_lt ⟨c0.toNat, c0.toNat_lt⟩ k0 h0
          have q1 := svI_none c1 h1
          obtain ⟨X0, hX0⟩ : ∃ X : Nat, X = k0 * 262144 := ⟨_, rfl⟩
          have f0 := u32_first k0 262144 (by omega)
          rw [← hX0] at f0
          simp at f0
          have HV := Lib.hid (show dec4 c0 c1 c2 c3 = [] by simp only [dec4, h0, h1])
          have HT := Lib.hid (show unb s.data.toList = d ++ unb r'.data.toList by rw [HD.out, HU.out, HV.out]; simp)
          have bX0 : X0 < 16777216 := by omega
          clear h0 h1 hX0 HU HD
          go_wp2_with fail
          refine wp_loop_rounds 5 ?_
          rw [rounds_succ]
          go_wp2_with fail
          refine (idx_any _ _).mono ?_
          rintro e wx ⟨rfl, rfl⟩
          go_wp2_with fail
          rw [rounds_succ]
          go_wp2_with fail
          refine (idx_any _ _).mono ?_
          rintro e wx ⟨rfl, rfl⟩
          go_wp2_with fail
          refine wp_loop_rounds 4 ?_
          rw [rounds_succ]
          go_wp2_with fail
          go_roundw
          case rel => exact ⟨r', d, rfl, by simpa using hown, HT, by have := HEX.out; simp; omega, hW⟩
          case measure => have := HEX.out; simp [strLen]; omega
        | some k1 =>
          cases h2 : sval c2.toNat with
          | none =>
            have q0 := svI_some c0 k0 h0
            have l0 : k0 < 64 := sval_lt ⟨c0.toNat, c0.toNat_lt⟩ k0 h0
            have q1 := svI_some c1 k1 h1
            have l1 : k1 < 64 := sval_lt ⟨c1.toNat, c1.toNat_lt⟩ k1 h1
            have q2 := svI_none c2 h2
            obtain ⟨X0, hX0⟩ : ∃ X : Nat, X = k0 * 262144 := ⟨_, rfl⟩
            have f0 := u32_first k0 262144 (by omega)
            rw [← hX0] at f0
            simp at f0
            obtain ⟨X1, hX1⟩ : ∃ X : Nat, X = k0 * 262144 + k1 * 4096 := ⟨_, rfl⟩
            have f1 := u32_next X0 k1 4096 18 (by omega) (by omega) (by omega) (by omega)
            rw [show X0 + k1 * 4096 = X1 by omega] at f1
            simp at f1
            obtain ⟨z0, hz0'⟩ : ∃ z : Nat, z = X1 / 65536 % 256 := ⟨_, rfl⟩
            have HV := Lib.hid (show dec4 c0 c1 c2 c3 = [UInt8.ofNat z0] by
              simp only [dec4, h0, h1, h2]
              rw [show k0 * 262144 + k1 * 4096 = X1 from hX1.symm, hz0', ofNat_256])
            have g0 : (X1 : Int) / 65536 = (z0 : Int) := by omega
            have lz0 : z0 < 256 := by omega
            have HT := Lib.hid (show unb s.data.toList = (d ++ [UInt8.ofNat z0]) ++ unb r'.data.toList by rw [HD.out, HU.out, HV.out]; simp)
            have bX0 : X0 < 16777216 := by omega
            have bX1 : X1 < 16777216 := by omega
            clear h0 h1 h2 hX0 hX1 hz0' HU HD
            go_wp2_with fail
            refine wp_loop_rounds 5 ?_
            rw [rounds_succ]
            go_wp2_with fail
            refine (idx_any _ _).mono ?_
            rintro e wx ⟨rfl, rfl⟩
            go_wp2_with fail
            rw [rounds_succ]
            go_wp2_with fail
            refine (idx_any _ _).mono ?_
            rintro e wx ⟨rfl, rfl⟩
            go_wp2_with fail
            rw [rounds_succ]
            go_wp2_with fail
            refine (idx_any _ _).mono ?_
            rintro e wx ⟨rfl, rfl⟩
            go_wp2_with fail
            refine wp_loop_rounds 4 ?_
            rw [rounds_succ]
            go_wp2_with (at_builtin; go_loud (refine wpList_append_sl rfl (.tmp 42) (.tmp 49) 22 rfl w.heap.size 5 i0 Try.underlying22 hi hz0 hz1 hz2 _ (d.length) (d) rfl (hown.alloc _) _ 1 1 [UInt8.ofNat z0] rfl (sl_cell_nat _ _ z0 lz0 (cell_new _ _ _ rfl)) (by omega) (by have := hW.size; simp; omega) ?_); intro v1 w1 hown1 hg1)
            have hW1 := (hW.alloc hW.size _).grown hg1 (by have := hW.size; simp; omega) (fun t ht => (hown.lt t ht).1)
            rw [rounds_succ]
            go_wp2_with fail
            go_roundw
            case rel => exact ⟨r', d ++ [UInt8.ofNat z0], rfl, by simpa using hown1, HT, by have := HEX.out; simp; omega, hW1⟩
            case measure => have := HEX.out; simp [strLen]; omega
          | some k2 =>
            cases h3 : sval c3.toNat with
            | none =>
              have q0 := svI_some c0 k0 h0
              have l0 : k0 < 64 := sval_lt ⟨c0.toNat, c0.toNat_lt⟩ k0 h0
              have q1 := svI_some c1 k1 h1
              have l1 : k1 < 64 := sval_lt ⟨c1.toNat, c1.toNat_lt⟩ k1 h1
              have q2 := svI_some c2 k2 h2
              have l2 : k2 < 64 := sval_lt ⟨c2.toNat, c2.toNat_lt⟩ k2 h2
              have q3 := svI_none c3 h3
              obtain ⟨X0, hX0⟩ : ∃ X : Nat, X = k0 * 262144 := ⟨_, rfl⟩
              have f0 := u32_first k0 262144 (by omega)
              rw [← hX0] at f0
              simp at f0
              obtain ⟨X1, hX1⟩ : ∃ X : Nat, X = k0 * 262144 + k1 * 4096 := ⟨_, rfl⟩
              have f1 := u32_next X0 k1 4096 18 (by omega) (by omega) (by omega) (by omega)
              rw [show X0 + k1 * 4096 = X1 by omega] at f1
              simp at f1
              obtain ⟨X2, hX2⟩ : ∃ X : Nat, X = k0 * 262144 + k1 * 4096 + k2 * 64 := ⟨_, rfl⟩
              have f2 := u32_next X1 k2 64 12 (by omega) (by omega) (by omega) (by omega)
              rw [show X1 + k2 * 64 = X2 by omega] at f2
              simp at f2
              obtain ⟨z0, hz0'⟩ : ∃ z : Nat, z = X2 / 65536 % 256 := ⟨_, rfl⟩
              obtain ⟨z1, hz1'⟩ : ∃ z : Nat, z = X2 / 256 % 256 := ⟨_, rfl⟩
              have HV := Lib.hid (show dec4 c0 c1 c2 c3 = [UInt8.ofNat z0, UInt8.ofNat z1] by
                simp only [dec4, h0, h1, h2, h3]
                rw [show k0 * 262144 + k1 * 4096 + k2 * 64 = X2 from hX2.symm, hz0', hz1', ofNat_256, ofNat_256])
              have g0 : (X2 : Int) / 65536 = (z0 : Int) := by omega
              have lz0 : z0 < 256 := by omega
              have g1 : (X2 : Int) / 256 % 256 = (z1 : Int) := by omega
              have lz1 : z1 < 256 := by omega
              have HT := Lib.hid (show unb s.data.toList = (d ++ [UInt8.ofNat z0, UInt8.ofNat z1]) ++ unb r'.data.toList by rw [HD.out, HU.out, HV.out]; simp)
              have bX0 : X0 < 16777216 := by omega
              have bX1 : X1 < 16777216 := by omega
              have bX2 : X2 < 16777216 := by omega
              clear h0 h1 h2 h3 hX0 hX1 hX2 hz0' hz1' HU HD
              go_wp2_with fail
              refine wp_loop_rounds 5 ?_
              rw [rounds_succ]
              go_wp2_with fail
              refine (idx_any _ _).mono ?_
              rintro e wx ⟨rfl, rfl⟩
              go_wp2_with fail
              rw [rounds_succ]
              go_wp2_with fail
              refine (idx_any _ _).mono ?_
              rintro e wx ⟨rfl, rfl⟩
              go_wp2_with fail
              rw [rounds_succ]
              go_wp2_with fail
              refine (idx_any _ _).mono ?_
              rintro e wx ⟨rfl, rfl⟩
              go_wp2_with fail
              rw [rounds_succ]
              go_wp2_with fail
              refine (idx_any _ _).mono ?_
              rintro e wx ⟨rfl, rfl⟩
              go_wp2_with fail
              refine wp_loop_rounds 4 ?_
              rw [rounds_succ]
              go_wp2_with (at_builtin; go_loud (refine wpList_append_sl rfl (.tmp 42) (.tmp 49) 22 rfl w.heap.size 5 i0 Try.underlying22 hi hz0 hz1 hz2 _ (d.length) (d) rfl (hown.alloc _) _ 1 1 [UInt8.ofNat z0] rfl (sl_cell_nat _ _ z0 lz0 (cell_new _ _ _ rfl)) (by omega) (by have := hW.size; simp; omega) ?_); intro v1 w1 hown1 hg1)
              have hW1 := (hW.alloc hW.size _).grown hg1 (by have := hW.size; simp; omega) (fun t ht => (hown.lt t ht).1)
              rw [rounds_succ]
              go_wp2_with (at_builtin; go_loud (refine wpList_append_sl rfl (.tmp 42) (.tmp 49) 22 rfl w.heap.size 5 i0 Try.underlying22 hi hz0 hz1 hz2 _ (d.length + 1) (d ++ [UInt8.ofNat z0]) rfl (hown1.alloc _) _ 1 1 [UInt8.ofNat z1] rfl (sl_cell_nat _ _ z1 lz1 (cell_new _ _ _ rfl)) (by omega) (by have := hW1.size; simp; omega) ?_); intro v2 w2 hown2 hg2)
              have hW2 := (hW1.alloc hW1.size _).grown hg2 (by have := hW1.size; simp; omega) (fun t ht => (hown1.lt t ht).1)
              rw [rounds_succ]
              go_wp2_with fail
              go_roundw
              case rel => exact ⟨r', d ++ [UInt8.ofNat z0, UInt8.ofNat z1], rfl, by simpa using hown2, HT, by have := HEX.out; simp; omega, hW2⟩
              case measure => have := HEX.out; simp [strLen]; omega
            | some k3 =>
              have q0 := svI_some c0 k0 h0
              have l0 : k0 < 64 := sval_lt ⟨c0.toNat, c0.toNat_lt⟩ k0 h0
              have q1 := svI_some c1 k1 h1
              have l1 : k1 < 64 := sval_lt ⟨c1.toNat, c1.toNat_lt⟩ k1 h1
              have q2 := svI_some c2 k2 h2
              have l2 : k2 < 64 := sval_lt ⟨c2.toNat, c2.toNat_lt⟩ k2 h2
              have q3 := svI_some c3 k3 h3
              have l3 : k3 < 64 := sval_lt ⟨c3.toNat, c3.toNat_lt⟩ k3 h3
              obtain ⟨X0, hX0⟩ : ∃ X : Nat, X = k0 * 262144 := ⟨_, rfl⟩
              have f0 := u32_first k0 262144 (by omega)
              rw [← hX0] at f0
              simp at f0
              obtain ⟨X1, hX1⟩ : ∃ X : Nat, X = k0 * 262144 + k1 * 4096 := ⟨_, rfl⟩
              have f1 := u32_next X0 k1 4096 18 (by omega) (by omega) (by omega) (by omega)
              rw [show X0 + k1 * 4096 = X1 by omega] at f1
              simp at f1
              obtain ⟨X2, hX2⟩ : ∃ X : Nat, X = k0 * 262144 + k1 * 4096 + k2 * 64 := ⟨_, rfl⟩
              have f2 := u32_next X1 k2 64 12 (by omega) (by omega) (by omega) (by omega)
              rw [show X1 + k2 * 64 = X2 by omega] at f2
              simp at f2
              obtain ⟨X3, hX3⟩ : ∃ X : Nat, X = k0 * 262144 + k1 * 4096 + k2 * 64 + k3 := ⟨_, rfl⟩
              have f3 := u32_next X2 k3 1 6 (by omega) (by omega) (by omega) (by omega)
              rw [show X2 + k3 * 1 = X3 by omega] at f3
              simp at f3
              obtain ⟨z0, hz0'⟩ : ∃ z : Nat, z = X3 / 65536 % 256 := ⟨_, rfl⟩
              obtain ⟨z1, hz1'⟩ : ∃ z : Nat, z = X3 / 256 % 256 := ⟨_, rfl⟩
              obtain ⟨z2, hz2'⟩ : ∃ z : Nat, z = X3 % 256 := ⟨_, rfl⟩
              have HV := Lib.hid (show dec4 c0 c1 c2 c3 = [UInt8.ofNat z0, UInt8.ofNat z1, UInt8.ofNat z2] by
                simp only [dec4, h0, h1, h2, h3]
                rw [show k0 * 262144 + k1 * 4096 + k2 * 64 + k3 = X3 from hX3.symm, hz0', hz1', hz2', ofNat_256, ofNat_256, ofNat_256])
              have g0 : (X3 : Int) / 65536 = (z0 : Int) := by omega
              have lz0 : z0 < 256 := by omega
              have g1 : (X3 : Int) / 256 % 256 = (z1 : Int) := by omega
              have lz1 : z1 < 256 := by omega
              have g2 : (X3 : Int) % 256 = (z2 : Int) := by omega
              have lz2 : z2 < 256 := by omega
              have HT := Lib.hid (show unb s.data.toList = (d ++ [UInt8.ofNat z0, UInt8.ofNat z1, UInt8.ofNat z2]) ++ unb r'.data.toList by rw [HD.out, HU.out, HV.out]; simp)
              have bX0 : X0 < 16777216 := by omega
              have bX1 : X1 < 16777216 := by omega
              have bX2 : X2 < 16777216 := by omega
              have bX3 : X3 < 16777216 := by omega
              clear h0 h1 h2 h3 hX0 hX1 hX2 hX3 hz0' hz1' hz2' HU HD
              go_wp2_with fail
              refine wp_loop_rounds 5 ?_
              rw [rounds_succ]
              go_wp2_with fail
              refine (idx_any _ _).mono ?_
              rintro e wx ⟨rfl, rfl⟩
              go_wp2_with fail
              rw [rounds_succ]
              go_wp2_with fail
              refine (idx_any _ _).mono ?_
              rintro e wx ⟨rfl, rfl⟩
              go_wp2_with fail
              rw [rounds_succ]
              go_wp2_with fail
              refine (idx_any _ _).mono ?_
              rintro e wx ⟨rfl, rfl⟩
              go_wp2_with fail
              rw [rounds_succ]
              go_wp2_with fail
              refine (idx_any _ _).mono ?_
              rintro e wx ⟨rfl, rfl⟩
              go_wp2_with fail
              rw [rounds_succ]
              go_wp2_with fail
              refine wp_loop_rounds 4 ?_
              rw [rounds_succ]
              go_wp2_with (at_builtin; go_loud (refine wpList_append_sl rfl (.tmp 42) (.tmp 49) 22 rfl w.heap.size 5 i0 Try.underlying22 hi hz0 hz1 hz2 _ (d.length) (d) rfl (hown.alloc _) _ 1 1 [UInt8.ofNat z0] rfl (sl_cell_nat _ _ z0 lz0 (cell_new _ _ _ rfl)) (by omega) (by have := hW.size; simp; omega) ?_); intro v1 w1 hown1 hg1)
              have hW1 := (hW.alloc hW.size _).grown hg1 (by have := hW.size; simp; omega) (fun t ht => (hown.lt t ht).1)
              rw [rounds_succ]
              go_wp2_with (at_builtin; go_loud (refine wpList_append_sl rfl (.tmp 42) (.tmp 49) 22 rfl w.heap.size 5 i0 Try.underlying22 hi hz0 hz1 hz2 _ (d.length + 1) (d ++ [UInt8.ofNat z0]) rfl (hown1.alloc _) _ 1 1 [UInt8.ofNat z1] rfl (sl_cell_nat _ _ z1 lz1 (cell_new _ _ _ rfl)) (by omega) (by have := hW1.size; simp; omega) ?_); intro v2 w2 hown2 hg2)
              have hW2 := (hW1.alloc hW1.size _).grown hg2 (by have := hW1.size; simp; omega) (fun t ht => (hown1.lt t ht).1)
              rw [rounds_succ]
              go_wp2_with (at_builtin; go_loud (refine wpList_append_sl rfl (.tmp 42) (.tmp 49) 22 rfl w.heap.size 5 i0 Try.underlying22 hi hz0 hz1 hz2 _ (d.length + 1 + 1) (d ++ [UInt8.ofNat z0] ++ [UInt8.ofNat z1]) rfl (hown2.alloc _) _ 1 1 [UInt8.ofNat z2] rfl (sl_cell_nat _ _ z2 lz2 (cell_new _ _ _ rfl)) (by omega) (by have := hW2.size; simp; omega) ?_); intro v3 w3 hown3 hg3)
              have hW3 := (hW2.alloc hW2.size _).grown hg3 (by have := hW2.size; simp; omega) (fun t ht => (hown2.lt t ht).1)
              rw [rounds_succ]
              go_wp2_with fail
              go_roundw
              case rel => exact ⟨r', d ++ [UInt8.ofNat z0, UInt8.ofNat z1, UInt8.ofNat z2], rfl, by simpa using hown3, HT, by have := HEX.out; simp; omega, hW3⟩
              case measure => have := HEX.out; simp [strLen]; omega
    · have hlt' : (r.size : Int) < 4 := by omega
      have HX := Lib.hid (show unb s.data.toList = d by rw [HD.out, unb_short r (by omega)]; simp)
      clear HD
      obtain ⟨a1, c1, rfl, hS⟩ := Sl.ofOwns hown
      go_wp2_with fail
      refine (base64_any _ _ _ _ _ hS (by omega)).mono ?_
      rintro e wz ⟨rfl, hbz⟩
      have hWz := hW.trans (hbz.mono hW.size)
      by_cases hq : b64 d = s.toList
      · have HR2 := Lib.hid (show R = some d by rw [HR.out, unb64, HX.out, if_pos (by rw [hq]; exact HSL.out)])
        go_wp2_with fail
        go_ret2
        exact ⟨a1, _, c1, by rw [HR2.out]; rfl, by rw [HR2.out]; exact hS.after hbz, hWz⟩
      · have HR2 := Lib.hid (show R = none by rw [HR.out, unb64, HX.out, if_neg (by intro hh; exact hq (hh.trans HSL.out.symm))])
        replace hq : (b64 d == s.toList) = false := by simpa using hq
        go_wp2_with fail
        go_ret2
        exact ⟨none, 0, 0, by rw [HR2.out]; rfl, by rw [HR2.out]; exact sl_nil _, hWz⟩
end Go.Proofs.Ytpdkbbenoipohaa

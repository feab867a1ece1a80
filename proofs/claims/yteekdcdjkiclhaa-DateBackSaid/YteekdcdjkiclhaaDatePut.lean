/- date.put, date.Put: what they compute. -/
import Derived.Test.YteekdcdjkiclhaaBld
import Derived.Test.YteekdcdjkiclhaaDate1
namespace Go.Proofs.Yteekdcdjkiclhaa
open Go.RowKit

def digC (n s : Nat) : UInt8 := UInt8.ofNat (48 + n / 10 ^ s % 10)
def decTo (n w k : Nat) : List UInt8 := (List.range k).map fun i => digC n (w - 1 - i)
theorem decTo_succ (n w k : Nat) : decTo n w (k + 1) = decTo n w k ++ [digC n (w - 1 - k)] := by simp [decTo, List.range_succ]
theorem decTo_len (n w k : Nat) : (decTo n w k).length = k := by simp [decTo]
theorem strCells_eq (s : ByteArray) : Lib.strCells s = Lib.byteCells s.data.toList := by simp [Lib.strCells, Lib.byteCells]

set_option maxHeartbeats 2000000 in
theorem put_any (B b : Nat) (d : List UInt8) (n w : Nat) (sign : ByteArray) (wd : World) (hB : Lib.IsBuilder 40 5 B b (Lib.byteCells d) wd) (hBw : B ≤ wd.heap.size) (hw : w ≤ 4) (hn : n ≤ 1000000) (hd : d.length ≤ 1000) (hs : sign.size ≤ 10) :
    Calls Try.prog 20 #[.pointer (some ⟨b, 0, none⟩), .int .i64 n, .int .i64 w, .string sign] wd fun e w' => e = .returned (.tuple #[]) ∧ Lib.IsBuilder 40 5 B b (Lib.byteCells (d ++ decTo n w w ++ sign.data.toList)) w' ∧ Below B wd w' := by
  go_enter Try.func20, Try.ntmps20
  go_wp2_with fail
  go_loopw [8] (fun s wr => ∃ k : Nat, k ≤ w ∧ s = .int .i64 ((w : Int) - 1 - (k : Int)) ∧ Lib.IsBuilder 40 5 B b (Lib.byteCells (d ++ decTo n w k)) wr ∧ Below B wd wr) (fun s _ => (intOf s + 1).toNat)
  case atStart => exact ⟨0, Nat.zero_le _, by go_num, by simpa [decTo] using hB, Below.refl _ _⟩
  case round =>
    obtain ⟨wa, rfl⟩ : ∃ wa : World, wa = wr := ⟨_, rfl⟩
    obtain ⟨k, hk, rfl, hB1, hW⟩ := hrel
    by_cases hlt : k < w
    · obtain ⟨s, hsE⟩ : ∃ s, s = w - 1 - k := ⟨_, rfl⟩
      have es : (w : Int) - 1 - (k : Int) = (s : Int) := by omega
      have hs3 : s ≤ 3 := by omega
      have HS := Lib.hid hsE
      rw [es]
      clear hsE
      go_wp2_with fail
      go_loopw [9, 18] (fun x c wq => ∃ j y : Nat, j ≤ s ∧ c = .int .i64 j ∧ x = .int .i64 y ∧ y ≤ 1000000 ∧ Hid (y = n / 10 ^ j) ∧ wa = wq) (fun _ c _ => s - (intOf c).toNat)
      case atStart => exact ⟨0, n, Nat.zero_le _, rfl, rfl, hn, Lib.hid (by simp), rfl⟩
      case round =>
        obtain ⟨j, y, hj, rfl, rfl, hy, HY, rfl⟩ := hrel
        by_cases hjs : j < s
        · go_wp2_with fail
          go_roundw
          case rel => exact ⟨j + 1, y / 10, by omega, by go_num, by go_num, by omega, Lib.hid (by rw [HY.out, Nat.pow_succ, Nat.div_div_eq_div_mul]), trivial⟩
          case measure => simp [intOf]; omega
        · obtain rfl : j = s := by omega
          obtain ⟨z, hz⟩ : ∃ z, z = y % 10 := ⟨_, rfl⟩
          have hz9 : z ≤ 9 := by omega
          have e1 : (y : Int) % 10 = (z : Int) := by omega
          have HD := Lib.hid (show digC n j = UInt8.ofNat (48 + z) by rw [digC, hz, HY.out])
          have HC := Lib.hid (show Lib.byteCells (d ++ decTo n w k) ++ [.int .u8 (48 + (z : Int))] = Lib.byteCells (d ++ decTo n w (k + 1)) by
            rw [decTo_succ, ← HS.out, HD.out, ← List.append_assoc]
            simp [Lib.byteCells]; omega)
          clear hz
          go_wp2_with fail
          refine (bldByte _ _ _ _ _ hB1 (by simp [Lib.byteCells, decTo_len]; omega) (Nat.le_trans hBw hW.size)).mono ?_
          rintro e w2 ⟨rfl, hB2, hb2⟩
          rw [HC.out] at hB2
          go_wp2_with fail
          go_roundw
          case rel => exact ⟨k + 1, by omega, by have := HS.out; congr 1; omega, hB2, hW.trans hb2⟩
          case measure => simp [intOf]
    · obtain rfl : k = w := by omega
      have es : (k : Int) - 1 - (k : Int) = -1 := by omega
      rw [es]
      go_wp2_with fail
      refine (bldString _ _ _ _ _ hB1 (by simp [Lib.byteCells, decTo_len]; omega) (Nat.le_trans hBw hW.size)).mono ?_
      rintro e w2 ⟨rfl, hB2, hb2⟩
      rw [strCells_eq, byteCells_append] at hB2
      go_wp2_with fail
      go_end0
      exact ⟨rfl, by simpa using hB2, hW.trans hb2⟩

/-- A date's text. -/
def fmtD (y m d r : Nat) : List UInt8 := decTo y 4 4 ++ [45] ++ decTo m 2 2 ++ [45] ++ decTo d 2 2 ++ [95] ++ decTo (r / 3600) 2 2 ++ [58] ++ decTo (r / 60 % 60) 2 2 ++ [58] ++ decTo (r % 60) 2 2
/-- What Put hands back. -/
def PutPost (n : Int) (B : Nat) (w : World) (e : Ending) (w' : World) : Prop :=
  ∃ y m d r : Nat, e = .returned (.tuple #[.string ⟨(fmtD y m d r).toArray⟩, .bool true]) ∧ y ≤ 9999 ∧ 1 ≤ m ∧ m ≤ 12 ∧ 1 ≤ d ∧ (d : Int) ≤ dim y m ∧ r < 86400 ∧
    n = (dby y + ((d : Int) - 1) + cum y m) * 86400 + r ∧ Below B w w'

theorem dby_366 (x : Int) (h : 0 ≤ x) : dby (x / 366) ≤ x := by unfold dby; omega
theorem dby_step (a : Int) : dby a + 365 ≤ dby (a + 1) := by have := dby_succ a; have := lp_01 a; omega
theorem dby_mono (a b : Int) (h : a ≤ b) : dby a ≤ dby b := by unfold dby; omega

set_option maxHeartbeats 1000000 in
theorem Put_no (n : Int) (w : World) (h : n < 0 ∨ 315569520000 ≤ n) :
    Calls Try.prog 12 #[.int .i64 n] w fun e w' => e = .returned (.tuple #[.string ⟨#[]⟩, .bool false]) ∧ w' = w := by
  rcases h with h | h
  · go_enter Try.func12, Try.ntmps12
    go_wp2_with fail
    go_ret2
    exact ⟨rfl, rfl⟩
  · have h0 : 0 ≤ n := by omega
    have hm := Lib.hid dby_max
    go_enter Try.func12, Try.ntmps12
    go_wp2_with fail
    refine (ahead_any _ _ (by omega) (by omega)).mono ?_
    rintro e w1 ⟨rfl, rfl⟩
    rw [hm.out]
    go_wp2_with fail
    go_ret2
    exact ⟨rfl, rfl⟩

set_option maxHeartbeats 4000000 in
theorem Put_yes (n : Int) (w : World) (h0 : 0 ≤ n) (h1 : n < 315569520000) :
    Calls Try.prog 12 #[.int .i64 n] w (PutPost n w.heap.size w) := by
  have hm := Lib.hid dby_max
  obtain ⟨L, hL⟩ : ∃ L, L = n / 86400 := ⟨_, rfl⟩
  obtain ⟨r, hr⟩ : ∃ r : Nat, r = (n % 86400).toNat := ⟨_, rfl⟩
  have er : n % 86400 = (r : Int) := by omega
  have br : r < 86400 := by omega
  have bL0 : 0 ≤ L := by omega
  have bL1 : L < 3652425 := by omega
  have HN := Lib.hid (show n = L * 86400 + r by omega)
  have eL := hL.symm
  clear hL hr
  have g0 := dby_366 L bL0
  go_enter Try.func12, Try.ntmps12
  go_wp2_with fail
  refine (ahead_any _ _ (by omega) (by omega)).mono ?_
  rintro e w1 ⟨rfl, rfl⟩
  rw [hm.out]
  go_wp2_with fail
  rw [eL, er]
  clear eL er
  go_loop [6] (fun t => ∃ y : Nat, y ≤ 9999 ∧ dby y ≤ L ∧ t = .int .i64 y) (fun t => (9999 - intOf t).toNat)
  case atStart => exact ⟨(L / 366).toNat, by omega, by rw [show (((L / 366).toNat : Nat) : Int) = L / 366 by omega]; exact g0, by rw [show (((L / 366).toNat : Nat) : Int) = L / 366 by omega]⟩
  case round =>
    obtain ⟨y, hy1, hy2, rfl⟩ := hrel
    clear g0
    have hy3 : dby ((y : Int) + 1) ≤ L → y + 1 ≤ 9999 := by
      intro hh
      rcases Nat.lt_or_ge y 9999 with h | h
      · omega
      · obtain rfl : y = 9999 := by omega
        have : dby (((9999 : Nat) : Int) + 1) = 3652425 := by decide
        omega
    have HY3 := Lib.hid hy3
    have HS := Lib.hid (dby_succ (y : Int))
    clear hy3
    by_cases hlt : dby ((y : Int) + 1) ≤ L
    · have hy9 := HY3.out hlt
      go_wp2_with fail
      refine (ahead_any _ _ (by omega) (by omega)).mono ?_
      rintro e w1 ⟨rfl, rfl⟩
      go_wp2_with fail
      go_round
      case rel => exact ⟨y + 1, by omega, by rw [Int.natCast_add]; exact hlt, by go_num⟩
      case measure => simp [intOf]; omega
    · have hgt : L < dby ((y : Int) + 1) := by omega
      have hb := dby_bd (y : Int) (by omega) (by omega)
      have hlp := lp_01 (y : Int)
      clear hlt
      go_wp2_with fail
      refine (ahead_any _ _ (by omega) (by omega)).mono ?_
      rintro e w1 ⟨rfl, rfl⟩
      go_wp2_with fail
      refine (ahead_any _ _ (by omega) (by omega)).mono ?_
      rintro e w1 ⟨rfl, rfl⟩
      obtain ⟨A0, hA0⟩ : ∃ A0, A0 = dby (y : Int) := ⟨_, rfl⟩
      rw [HS.out] at hgt
      rw [← hA0] at hgt hb hy2 ⊢
      have HA0 := Lib.hid hA0
      clear hA0
      go_wp2_with fail
      go_loop [4, 7] (fun t k => ∃ m : Nat, 1 ≤ m ∧ m ≤ 12 ∧ k = .int .i64 m ∧ 0 ≤ L - A0 - cum y m ∧ t = .int .i64 (L - A0 - cum y m)) (fun _ k => (12 - intOf k).toNat)
      case atStart => exact ⟨1, by omega, by omega, rfl, by simp [cum]; omega, by simp [cum]⟩
      case round =>
        obtain ⟨m, hm1, hm2, rfl, hr0, rfl⟩ := hrel
        have cb := cum_bd (y : Int) m
        have db := dim_bd (y : Int) (m : Int)
        have cs := Lib.hid (cum_succ (y : Int) m hm1)
        have c13 := Lib.hid (cum_13 (y : Int))
        obtain ⟨Q, hQ⟩ : ∃ Q, Q = cum (y : Int) m := ⟨_, rfl⟩
        obtain ⟨P, hP⟩ : ∃ P, P = dim (y : Int) (m : Int) := ⟨_, rfl⟩
        rw [← hQ] at cb cs hr0 ⊢
        rw [← hP] at db cs
        have HQ := Lib.hid hQ
        have HP := Lib.hid hP
        clear hQ hP
        by_cases hge : P ≤ L - A0 - Q
        · have hm3 : m + 1 ≤ 12 := by
            rcases Nat.lt_or_ge m 12 with h | h
            · omega
            · obtain rfl : m = 12 := by omega
              have h1 := cs.out
              have h2 := c13.out
              simp only [Nat.reduceAdd] at h1
              omega
          go_wp2_with fail
          refine (days_any _ _ _ (by omega)).mono ?_
          rintro e w1 ⟨rfl, rfl⟩
          rw [← HP.out]
          go_wp2_with fail
          refine (days_any _ _ _ (by omega)).mono ?_
          rintro e w1 ⟨rfl, rfl⟩
          rw [← HP.out]
          go_wp2_with fail
          go_round
          case rel => exact ⟨m + 1, by omega, by omega, by go_num, by rw [cs.out]; omega, by rw [cs.out]; go_num⟩
          case measure => simp [intOf]; omega
        · have hlt : L - A0 - Q < P := by omega
          clear hge
          obtain ⟨d, hd⟩ : ∃ d : Nat, d = (L - A0 - Q + 1).toNat := ⟨_, rfl⟩
          have ed : L - A0 - Q + 1 = (d : Int) := by omega
          have HF := Lib.hid (show n = (dby y + ((d : Int) - 1) + cum y m) * 86400 + r ∧ 1 ≤ d ∧ (d : Int) ≤ dim y m by
            rw [← HA0.out, ← HQ.out, ← HP.out, HN.out]; omega)
          have bd31 : d ≤ 31 := by omega
          clear hd
          obtain ⟨r1, hr1⟩ : ∃ r1 : Nat, r1 = r / 3600 := ⟨_, rfl⟩
          obtain ⟨r2, hr2⟩ : ∃ r2 : Nat, r2 = r / 60 % 60 := ⟨_, rfl⟩
          obtain ⟨r3, hr3⟩ : ∃ r3 : Nat, r3 = r % 60 := ⟨_, rfl⟩
          have f1 : (r : Int) / 3600 = (r1 : Int) := by omega
          have f2 : (r : Int) / 60 % 60 = (r2 : Int) := by omega
          have f3 : (r : Int) % 60 = (r3 : Int) := by omega
          have bb1 : r1 ≤ 1000000 := by omega
          have bb2 : r2 ≤ 1000000 := by omega
          have bb3 : r3 ≤ 1000000 := by omega
          have HRR := Lib.hid (And.intro hr1 (And.intro hr2 hr3))
          clear hr1 hr2 hr3
          go_wp2_with fail
          refine (days_any _ _ _ (by omega)).mono ?_
          rintro e w1 ⟨rfl, rfl⟩
          rw [← HP.out]
          go_wp2_with fail
          have hB0 : Lib.IsBuilder 40 5 w1.heap.size w1.heap.size (Lib.byteCells []) (w1.alloc (.cells #[.pointer none, .slice none 0 0] 40)) := Lib.fresh_isBuilder _ _ _
          have hW0 : Below w1.heap.size w1 (w1.alloc (.cells #[.pointer none, .slice none 0 0] 40)) := (Below.refl _ _).alloc (Nat.le_refl _) _
          refine (put_any w1.heap.size w1.heap.size ([]) y 4 ⟨#[45]⟩ _ hB0 hW0.size (by omega) (by omega) (by simp) (by decide)).mono ?_
          rintro e w2 ⟨rfl, hB1, hb1⟩
          have hW1 := hW0.trans hb1
          go_wp2_with fail
          refine (put_any w1.heap.size w1.heap.size ([] ++ decTo y 4 4 ++ (⟨#[45]⟩ : ByteArray).data.toList) m 2 ⟨#[45]⟩ _ hB1 hW1.size (by omega) (by omega) (by simp [decTo_len]) (by decide)).mono ?_
          rintro e w3 ⟨rfl, hB2, hb2⟩
          have hW2 := hW1.trans hb2
          go_wp2_with fail
          refine (put_any w1.heap.size w1.heap.size ([] ++ decTo y 4 4 ++ (⟨#[45]⟩ : ByteArray).data.toList ++ decTo m 2 2 ++ (⟨#[45]⟩ : ByteArray).data.toList) d 2 ⟨#[95]⟩ _ hB2 hW2.size (by omega) (by omega) (by simp [decTo_len]) (by decide)).mono ?_
          rintro e w4 ⟨rfl, hB3, hb3⟩
          have hW3 := hW2.trans hb3
          go_wp2_with fail
          refine (put_any w1.heap.size w1.heap.size ([] ++ decTo y 4 4 ++ (⟨#[45]⟩ : ByteArray).data.toList ++ decTo m 2 2 ++ (⟨#[45]⟩ : ByteArray).data.toList ++ decTo d 2 2 ++ (⟨#[95]⟩ : ByteArray).data.toList) r1 2 ⟨#[58]⟩ _ hB3 hW3.size (by omega) (by omega) (by simp [decTo_len]) (by decide)).mono ?_
          rintro e w5 ⟨rfl, hB4, hb4⟩
          have hW4 := hW3.trans hb4
          go_wp2_with fail
          refine (put_any w1.heap.size w1.heap.size ([] ++ decTo y 4 4 ++ (⟨#[45]⟩ : ByteArray).data.toList ++ decTo m 2 2 ++ (⟨#[45]⟩ : ByteArray).data.toList ++ decTo d 2 2 ++ (⟨#[95]⟩ : ByteArray).data.toList ++ decTo r1 2 2 ++ (⟨#[58]⟩ : ByteArray).data.toList) r2 2 ⟨#[58]⟩ _ hB4 hW4.size (by omega) (by omega) (by simp [decTo_len]) (by decide)).mono ?_
          rintro e w6 ⟨rfl, hB5, hb5⟩
          have hW5 := hW4.trans hb5
          go_wp2_with fail
          refine (put_any w1.heap.size w1.heap.size ([] ++ decTo y 4 4 ++ (⟨#[45]⟩ : ByteArray).data.toList ++ decTo m 2 2 ++ (⟨#[45]⟩ : ByteArray).data.toList ++ decTo d 2 2 ++ (⟨#[95]⟩ : ByteArray).data.toList ++ decTo r1 2 2 ++ (⟨#[58]⟩ : ByteArray).data.toList ++ decTo r2 2 2 ++ (⟨#[58]⟩ : ByteArray).data.toList) r3 2 ⟨#[]⟩ _ hB5 hW5.size (by omega) (by omega) (by simp [decTo_len]) (by decide)).mono ?_
          rintro e w7 ⟨rfl, hB6, hb6⟩
          have hW6 := hW5.trans hb6
          go_wp2_with fail
          refine (bldOut _ _ _ _ hB6 hW6.size).mono ?_
          rintro e w9 ⟨rfl, hb9⟩
          have hW9 := hW6.trans hb9
          go_wp2_with fail
          go_ret2
          refine ⟨y, m, d, r, ?_, hy1, hm1, hm2, HF.out.2.1, HF.out.2.2, br, HF.out.1, hW9⟩
          obtain ⟨e1, e2, e3⟩ := HRR.out
          unfold fmtD
          rw [← e1, ← e2, ← e3]
          simp
end Go.Proofs.Yteekdcdjkiclhaa

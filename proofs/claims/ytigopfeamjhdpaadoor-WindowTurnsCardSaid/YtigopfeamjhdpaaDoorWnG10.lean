/- date.put, date.Put: what they compute. date.Clock, date.Get: what they compute. date.Get: what it computes. the document's dates: two, Days, ahead: what they compute. the document's Clock and Get: what they compute. the document's Get: what it computes. Dates: what a date's text says; texts stand as their numbers. Principals: key.May, key.Put: what they compute. Windows: an end may be, a window may be; the window without ends, put. Arguments that are lists of canceled sums, or slices of bytes: opened to their cells. The window without ends, put; no sums, put. The list of 'awake', put. -/
import Derived.Test.YtigopfeamjhdpaaDoorWnG9
import Derived.Laws.Strings
namespace Go.Proofs.YtigopfeamjhdpaaDoor
open Go.RowKit

def digC (n s : Nat) : UInt8 := UInt8.ofNat (48 + n / 10 ^ s % 10)
def decTo (n w k : Nat) : List UInt8 := (List.range k).map fun i => digC n (w - 1 - i)
theorem decTo_succ (n w k : Nat) : decTo n w (k + 1) = decTo n w k ++ [digC n (w - 1 - k)] := by simp [decTo, List.range_succ]
theorem decTo_len (n w k : Nat) : (decTo n w k).length = k := by simp [decTo]
theorem strCells_eq (s : ByteArray) : Lib.strCells s = Lib.byteCells s.data.toList := by simp [Lib.strCells, Lib.byteCells]

set_option maxHeartbeats 2000000 in
theorem put_any (B b : Nat) (d : List UInt8) (n w : Nat) (sign : ByteArray) (wd : World) (hB : Lib.IsBuilder 72 5 B b (Lib.byteCells d) wd) (hBw : B ≤ wd.heap.size) (hw : w ≤ 4) (hn : n ≤ 1000000) (hd : d.length ≤ 1000) (hs : sign.size ≤ 10) :
    Calls Tryd.prog 48 #[.pointer (some ⟨b, 0, none⟩), .int .i64 n, .int .i64 w, .string sign] wd fun e w' => e = .returned (.tuple #[]) ∧ Lib.IsBuilder 72 5 B b (Lib.byteCells (d ++ decTo n w w ++ sign.data.toList)) w' ∧ Below B wd w' := by
  go_enter Tryd.func48, Tryd.ntmps48
  go_wp2_with fail
  go_loopw [8] (fun s wr => ∃ k : Nat, k ≤ w ∧ s = .int .i64 ((w : Int) - 1 - (k : Int)) ∧ Lib.IsBuilder 72 5 B b (Lib.byteCells (d ++ decTo n w k)) wr ∧ Below B wd wr) (fun s _ => (intOf s + 1).toNat)
  case atStart => exact ⟨0, Nat.zero_le _, by go_num, by simpa [decTo] using hB, Below.refl _ _⟩
  case round =>
    obtain ⟨wa, rfl⟩ : ∃ wa : World, wa = wr := ⟨_, rfl⟩
    obtain ⟨k, hk, rfl, hB1, hW⟩ := hrel
    by_cases hlt : k < w
    · obtain ⟨s, hsE⟩ : ∃ s, s = w - 1 - k := ⟨_, rfl⟩
      have es : (w : Int) - 1 - (k : Int) = (s : Int) := by omega
      have hs3 : s ≤ 3 := by omega
      have HS := Lib.hid hsE
      rw [es]
      clear hsE
      go_wp2_with fail
      go_loopw [9, 18] (fun x c wq => ∃ j y : Nat, j ≤ s ∧ c = .int .i64 j ∧ x = .int .i64 y ∧ y ≤ 1000000 ∧ Hid (y = n / 10 ^ j) ∧ wa = wq) (fun _ c _ => s - (intOf c).toNat)
      case atStart => exact ⟨0, n, Nat.zero_le _, rfl, rfl, hn, Lib.hid (by simp), rfl⟩
      case round =>
        obtain ⟨j, y, hj, rfl, rfl, hy, HY, rfl⟩ := hrel
        by_cases hjs : j < s
        · go_wp2_with fail
          go_roundw
          case rel => exact ⟨j + 1, y / 10, by omega, by go_num, by go_num, by omega, Lib.hid (by rw [HY.out, Nat.pow_succ, Nat.div_div_eq_div_mul]), trivial⟩
          case measure => simp [intOf]; omega
        · obtain rfl : j = s := by omega
          obtain ⟨z, hz⟩ : ∃ z, z = y % 10 := ⟨_, rfl⟩
          have hz9 : z ≤ 9 := by omega
          have e1 : (y : Int) % 10 = (z : Int) := by omega
          have HD := Lib.hid (show digC n j = UInt8.ofNat (48 + z) by rw [digC, hz, HY.out])
          have HC := Lib.hid (show Lib.byteCells (d ++ decTo n w k) ++ [.int .u8 (48 + (z : Int))] = Lib.byteCells (d ++ decTo n w (k + 1)) by
            rw [decTo_succ, ← HS.out, HD.out, ← List.append_assoc]
            simp [Lib.byteCells]; omega)
          clear hz
          go_wp2_with fail
          refine (bldByte _ _ _ _ _ hB1 (by simp [Lib.byteCells, decTo_len]; omega) (Nat.le_trans hBw hW.size)).mono ?_
          rintro e w2 ⟨rfl, hB2, hb2⟩
          rw [HC.out] at hB2
          go_wp2_with fail
          go_roundw
          case rel => exact ⟨k + 1, by omega, by have := HS.out; congr 1; omega, hB2, hW.trans hb2⟩
          case measure => simp [intOf]
    · obtain rfl : k = w := by omega
      have es : (k : Int) - 1 - (k : Int) = -1 := by omega
      rw [es]
      go_wp2_with fail
      refine (bldString _ _ _ _ _ hB1 (by simp [Lib.byteCells, decTo_len]; omega) (Nat.le_trans hBw hW.size)).mono ?_
      rintro e w2 ⟨rfl, hB2, hb2⟩
      rw [strCells_eq, byteCells_append] at hB2
      go_wp2_with fail
      go_end0
      exact ⟨rfl, by simpa using hB2, hW.trans hb2⟩

/-- A date's text. -/
def fmtD (y m d r : Nat) : List UInt8 := decTo y 4 4 ++ [45] ++ decTo m 2 2 ++ [45] ++ decTo d 2 2 ++ [95] ++ decTo (r / 3600) 2 2 ++ [58] ++ decTo (r / 60 % 60) 2 2 ++ [58] ++ decTo (r % 60) 2 2
/-- What Put hands back. -/
def PutPost (n : Int) (B : Nat) (w : World) (e : Ending) (w' : World) : Prop :=
  ∃ y m d r : Nat, e = .returned (.tuple #[.string ⟨(fmtD y m d r).toArray⟩, .bool true]) ∧ y ≤ 9999 ∧ 1 ≤ m ∧ m ≤ 12 ∧ 1 ≤ d ∧ (d : Int) ≤ dim y m ∧ r < 86400 ∧
    n = (dby y + ((d : Int) - 1) + cum y m) * 86400 + r ∧ Below B w w'

theorem dby_366 (x : Int) (h : 0 ≤ x) : dby (x / 366) ≤ x := by unfold dby; omega
theorem dby_step (a : Int) : dby a + 365 ≤ dby (a + 1) := by have := dby_succ a; have := lp_01 a; omega
theorem dby_mono (a b : Int) (h : a ≤ b) : dby a ≤ dby b := by unfold dby; omega

set_option maxHeartbeats 1000000 in
theorem Put_no (n : Int) (w : World) (h : n < 0 ∨ 315569520000 ≤ n) :
    Calls Tryd.prog 33 #[.int .i64 n] w fun e w' => e = .returned (.tuple #[.string ⟨#[]⟩, .bool false]) ∧ w' = w := by
  rcases h with h | h
  · go_enter Tryd.func33, Tryd.ntmps33
    go_wp2_with fail
    go_ret2
    exact ⟨rfl, rfl⟩
  · have h0 : 0 ≤ n := by omega
    have hm := Lib.hid dby_max
    go_enter Tryd.func33, Tryd.ntmps33
    go_wp2_with fail
    refine (ahead_any _ _ (by omega) (by omega)).mono ?_
    rintro e w1 ⟨rfl, rfl⟩
    rw [hm.out]
    go_wp2_with fail
    go_ret2
    exact ⟨rfl, rfl⟩

set_option maxHeartbeats 4000000 in
theorem Put_yes (n : Int) (w : World) (h0 : 0 ≤ n) (h1 : n < 315569520000) :
    Calls Tryd.prog 33 #[.int .i64 n] w (PutPost n w.heap.size w) := by
  have hm := Lib.hid dby_max
  obtain ⟨L, hL⟩ : ∃ L, L = n / 86400 := ⟨_, rfl⟩
  obtain ⟨r, hr⟩ : ∃ r : Nat, r = (n % 86400).toNat := ⟨_, rfl⟩
  have er : n % 86400 = (r : Int) := by omega
  have br : r < 86400 := by omega
  have bL0 : 0 ≤ L := by omega
  have bL1 : L < 3652425 := by omega
  have HN := Lib.hid (show n = L * 86400 + r by omega)
  have eL := hL.symm
  clear hL hr
  have g0 := dby_366 L bL0
  go_enter Tryd.func33, Tryd.ntmps33
  go_wp2_with fail
  refine (ahead_any _ _ (by omega) (by omega)).mono ?_
  rintro e w1 ⟨rfl, rfl⟩
  rw [hm.out]
  go_wp2_with fail
  rw [eL, er]
  clear eL er
  go_loop [6] (fun t => ∃ y : Nat, y ≤ 9999 ∧ dby y ≤ L ∧ t = .int .i64 y) (fun t => (9999 - intOf t).toNat)
  case atStart => exact ⟨(L / 366).toNat, by omega, by rw [show (((L / 366).toNat : Nat) : Int) = L / 366 by omega]; exact g0, by rw [show (((L / 366).toNat : Nat) : Int) = L / 366 by omega]⟩
  case round =>
    obtain ⟨y, hy1, hy2, rfl⟩ := hrel
    clear g0
    have hy3 : dby ((y : Int) + 1) ≤ L → y + 1 ≤ 9999 := by
      intro hh
      rcases Nat.lt_or_ge y 9999 with h | h
      · omega
      · obtain rfl : y = 9999 := by omega
        have : dby (((9999 : Nat) : Int) + 1) = 3652425 := by decide
        omega
    have HY3 := Lib.hid hy3
    have HS := Lib.hid (dby_succ (y : Int))
    clear hy3
    by_cases hlt : dby ((y : Int) + 1) ≤ L
    · have hy9 := HY3.out hlt
      go_wp2_with fail
      refine (ahead_any _ _ (by omega) (by omega)).mono ?_
      rintro e w1 ⟨rfl, rfl⟩
      go_wp2_with fail
      go_round
      case rel => exact ⟨y + 1, by omega, by rw [Int.natCast_add]; exact hlt, by go_num⟩
      case measure => simp [intOf]; omega
    · have hgt : L < dby ((y : Int) + 1) := by omega
      have hb := dby_bd (y : Int) (by omega) (by omega)
      have hlp := lp_01 (y : Int)
      clear hlt
      go_wp2_with fail
      refine (ahead_any _ _ (by omega) (by omega)).mono ?_
      rintro e w1 ⟨rfl, rfl⟩
      go_wp2_with fail
      refine (ahead_any _ _ (by omega) (by omega)).mono ?_
      rintro e w1 ⟨rfl, rfl⟩
      obtain ⟨A0, hA0⟩ : ∃ A0, A0 = dby (y : Int) := ⟨_, rfl⟩
      rw [HS.out] at hgt
      rw [← hA0] at hgt hb hy2 ⊢
      have HA0 := Lib.hid hA0
      clear hA0
      go_wp2_with fail
      go_loop [4, 7] (fun t k => ∃ m : Nat, 1 ≤ m ∧ m ≤ 12 ∧ k = .int .i64 m ∧ 0 ≤ L - A0 - cum y m ∧ t = .int .i64 (L - A0 - cum y m)) (fun _ k => (12 - intOf k).toNat)
      case atStart => exact ⟨1, by omega, by omega, rfl, by simp [cum]; omega, by simp [cum]⟩
      case round =>
        obtain ⟨m, hm1, hm2, rfl, hr0, rfl⟩ := hrel
        have cb := cum_bd (y : Int) m
        have db := dim_bd (y : Int) (m : Int)
        have cs := Lib.hid (cum_succ (y : Int) m hm1)
        have c13 := Lib.hid (cum_13 (y : Int))
        obtain ⟨Q, hQ⟩ : ∃ Q, Q = cum (y : Int) m := ⟨_, rfl⟩
        obtain ⟨P, hP⟩ : ∃ P, P = dim (y : Int) (m : Int) := ⟨_, rfl⟩
        rw [← hQ] at cb cs hr0 ⊢
        rw [← hP] at db cs
        have HQ := Lib.hid hQ
        have HP := Lib.hid hP
        clear hQ hP
        by_cases hge : P ≤ L - A0 - Q
        · have hm3 : m + 1 ≤ 12 := by
            rcases Nat.lt_or_ge m 12 with h | h
            · omega
            · obtain rfl : m = 12 := by omega
              have h1 := cs.out
              have h2 := c13.out
              simp only [Nat.reduceAdd] at h1
              omega
          go_wp2_with fail
          refine (days_any _ _ _ (by omega)).mono ?_
          rintro e w1 ⟨rfl, rfl⟩
          rw [← HP.out]
          go_wp2_with fail
          refine (days_any _ _ _ (by omega)).mono ?_
          rintro e w1 ⟨rfl, rfl⟩
          rw [← HP.out]
          go_wp2_with fail
          go_round
          case rel => exact ⟨m + 1, by omega, by omega, by go_num, by rw [cs.out]; omega, by rw [cs.out]; go_num⟩
          case measure => simp [intOf]; omega
        · have hlt : L - A0 - Q < P := by omega
          clear hge
          obtain ⟨d, hd⟩ : ∃ d : Nat, d = (L - A0 - Q + 1).toNat := ⟨_, rfl⟩
          have ed : L - A0 - Q + 1 = (d : Int) := by omega
          have HF := Lib.hid (show n = (dby y + ((d : Int) - 1) + cum y m) * 86400 + r ∧ 1 ≤ d ∧ (d : Int) ≤ dim y m by
            rw [← HA0.out, ← HQ.out, ← HP.out, HN.out]; omega)
          have bd31 : d ≤ 31 := by omega
          clear hd
          obtain ⟨r1, hr1⟩ : ∃ r1 : Nat, r1 = r / 3600 := ⟨_, rfl⟩
          obtain ⟨r2, hr2⟩ : ∃ r2 : Nat, r2 = r / 60 % 60 := ⟨_, rfl⟩
          obtain ⟨r3, hr3⟩ : ∃ r3 : Nat, r3 = r % 60 := ⟨_, rfl⟩
          have f1 : (r : Int) / 3600 = (r1 : Int) := by omega
          have f2 : (r : Int) / 60 % 60 = (r2 : Int) := by omega
          have f3 : (r : Int) % 60 = (r3 : Int) := by omega
          have bb1 : r1 ≤ 1000000 := by omega
          have bb2 : r2 ≤ 1000000 := by omega
          have bb3 : r3 ≤ 1000000 := by omega
          have HRR := Lib.hid (And.intro hr1 (And.intro hr2 hr3))
          clear hr1 hr2 hr3
          go_wp2_with fail
          refine (days_any _ _ _ (by omega)).mono ?_
          rintro e w1 ⟨rfl, rfl⟩
          rw [← HP.out]
          go_wp2_with fail
          have hB0 : Lib.IsBuilder 72 5 w1.heap.size w1.heap.size (Lib.byteCells []) (w1.alloc (.cells #[.pointer none, .slice none 0 0] 72)) := Lib.fresh_isBuilder _ _ _
          have hW0 : Below w1.heap.size w1 (w1.alloc (.cells #[.pointer none, .slice none 0 0] 72)) := (Below.refl _ _).alloc (Nat.le_refl _) _
          refine (put_any w1.heap.size w1.heap.size ([]) y 4 ⟨#[45]⟩ _ hB0 hW0.size (by omega) (by omega) (by simp) (by decide)).mono ?_
          rintro e w2 ⟨rfl, hB1, hb1⟩
          have hW1 := hW0.trans hb1
          go_wp2_with fail
          refine (put_any w1.heap.size w1.heap.size ([] ++ decTo y 4 4 ++ (⟨#[45]⟩ : ByteArray).data.toList) m 2 ⟨#[45]⟩ _ hB1 hW1.size (by omega) (by omega) (by simp [decTo_len]) (by decide)).mono ?_
          rintro e w3 ⟨rfl, hB2, hb2⟩
          have hW2 := hW1.trans hb2
          go_wp2_with fail
          refine (put_any w1.heap.size w1.heap.size ([] ++ decTo y 4 4 ++ (⟨#[45]⟩ : ByteArray).data.toList ++ decTo m 2 2 ++ (⟨#[45]⟩ : ByteArray).data.toList) d 2 ⟨#[95]⟩ _ hB2 hW2.size (by omega) (by omega) (by simp [decTo_len]) (by decide)).mono ?_
          rintro e w4 ⟨rfl, hB3, hb3⟩
          have hW3 := hW2.trans hb3
          go_wp2_with fail
          refine (put_any w1.heap.size w1.heap.size ([] ++ decTo y 4 4 ++ (⟨#[45]⟩ : ByteArray).data.toList ++ decTo m 2 2 ++ (⟨#[45]⟩ : ByteArray).data.toList ++ decTo d 2 2 ++ (⟨#[95]⟩ : ByteArray).data.toList) r1 2 ⟨#[58]⟩ _ hB3 hW3.size (by omega) (by omega) (by simp [decTo_len]) (by decide)).mono ?_
          rintro e w5 ⟨rfl, hB4, hb4⟩
          have hW4 := hW3.trans hb4
          go_wp2_with fail
          refine (put_any w1.heap.size w1.heap.size ([] ++ decTo y 4 4 ++ (⟨#[45]⟩ : ByteArray).data.toList ++ decTo m 2 2 ++ (⟨#[45]⟩ : ByteArray).data.toList ++ decTo d 2 2 ++ (⟨#[95]⟩ : ByteArray).data.toList ++ decTo r1 2 2 ++ (⟨#[58]⟩ : ByteArray).data.toList) r2 2 ⟨#[58]⟩ _ hB4 hW4.size (by omega) (by omega) (by simp [decTo_len]) (by decide)).mono ?_
          rintro e w6 ⟨rfl, hB5, hb5⟩
          have hW5 := hW4.trans hb5
          go_wp2_with fail
          refine (put_any w1.heap.size w1.heap.size ([] ++ decTo y 4 4 ++ (⟨#[45]⟩ : ByteArray).data.toList ++ decTo m 2 2 ++ (⟨#[45]⟩ : ByteArray).data.toList ++ decTo d 2 2 ++ (⟨#[95]⟩ : ByteArray).data.toList ++ decTo r1 2 2 ++ (⟨#[58]⟩ : ByteArray).data.toList ++ decTo r2 2 2 ++ (⟨#[58]⟩ : ByteArray).data.toList) r3 2 ⟨#[]⟩ _ hB5 hW5.size (by omega) (by omega) (by simp [decTo_len]) (by decide)).mono ?_
          rintro e w7 ⟨rfl, hB6, hb6⟩
          have hW6 := hW5.trans hb6
          go_wp2_with fail
          refine (bldOut _ _ _ _ hB6 hW6.size).mono ?_
          rintro e w9 ⟨rfl, hb9⟩
          have hW9 := hW6.trans hb9
          go_wp2_with fail
          go_ret2
          refine ⟨y, m, d, r, ?_, hy1, hm1, hm2, HF.out.2.1, HF.out.2.2, br, HF.out.1, hW9⟩
          obtain ⟨e1, e2, e3⟩ := HRR.out
          unfold fmtD
          rw [← e1, ← e2, ← e3]
          simp
end Go.Proofs.YtigopfeamjhdpaaDoor
namespace Go.Proofs.YtigopfeamjhdpaaDoor
open Go.RowKit

theorem Sl.drewN {w : World} {a : Option Addr} {len cap : Nat} {l : List UInt8} (h : Sl w a len cap l) (n : Nat) : Sl (w.drewN n) a len cap l := h

def clockF : List UInt8 := [48, 48, 58, 48, 48, 58, 48, 48]
def dateF : List UInt8 := [48, 48, 48, 48, 45, 48, 48, 45, 48, 48, 95, 48, 48, 58, 48, 48, 58, 48, 48]
theorem fitsL_length (l r : List UInt8) (h : fitsL l r = true) : l.length = r.length := by
  rcases Nat.decEq l.length r.length with hne | he
  · rw [fitsL_len l r hne] at h; cases h
  · exact he
theorem clockB : ((⟨#[48, 48, 48, 48, 45, 48, 48, 45, 48, 48, 95, 48, 48, 58, 48, 48, 58, 48, 48]⟩ : ByteArray).extract 11 19).data.toList = clockF := by decide
theorem dateB : (⟨#[48, 48, 48, 48, 45, 48, 48, 45, 48, 48, 95, 48, 48, 58, 48, 48, 58, 48, 48]⟩ : ByteArray).data.toList = dateF := rfl
theorem fits_clock (l : List UInt8) (h : fitsL l clockF = true) : ∃ a b c d e f, l = [a, b, 58, c, d, 58, e, f] ∧ isD_XDateMath a = true ∧ isD_XDateMath b = true ∧ isD_XDateMath c = true ∧ isD_XDateMath d = true ∧ isD_XDateMath e = true ∧ isD_XDateMath f = true := by
  have hl := fitsL_length l _ h
  unfold clockF at h hl
  match l, hl, h with
  | [a, b, p, c, d, q, e, f], _, h =>
    simp [fitsL, fitsC] at h
    obtain ⟨h1, h2, h3, h4, h5, h6, h7, h8⟩ := h
    subst h3 h6
    exact ⟨a, b, c, d, e, f, rfl, h1, h2, h4, h5, h7, h8⟩
theorem fits_clock_not (l : List UInt8) (h : fitsL l clockF = false) : clockOk l = false := by
  unfold clockF at h
  unfold clockOk
  split
  · rename_i a b p c d q e f
    simp [fitsL, fitsC] at h ⊢
    intro h1 h2 h3 h4 h5 h6 h7 h8
    have := h h1 h2 h3 h4 h5 h6 h7
    rw [h8] at this
    cases this
  · rfl
theorem fits_date (l : List UInt8) (h : fitsL l dateF = true) : ∃ y1 y2 y3 y4 m1 m2 d1 d2 t, l = y1 :: y2 :: y3 :: y4 :: 45 :: m1 :: m2 :: 45 :: d1 :: d2 :: 95 :: t ∧ isD_XDateMath y1 = true ∧ isD_XDateMath y2 = true ∧ isD_XDateMath y3 = true ∧ isD_XDateMath y4 = true ∧ isD_XDateMath m1 = true ∧ isD_XDateMath m2 = true ∧ isD_XDateMath d1 = true ∧ isD_XDateMath d2 = true ∧ fitsL t clockF = true := by
  have hl := fitsL_length l _ h
  unfold dateF at h hl
  match l, hl, h with
  | y1 :: y2 :: y3 :: y4 :: p :: m1 :: m2 :: q :: d1 :: d2 :: r :: t, _, h =>
    simp only [fitsL, Bool.and_eq_true] at h
    obtain ⟨h1, h2, h3, h4, h5, h6, h7, h8, h9, h10, h11, h12⟩ := h
    simp [fitsC] at h1 h2 h3 h4 h5 h6 h7 h8 h9 h10 h11
    subst h5 h8 h11
    exact ⟨y1, y2, y3, y4, m1, m2, d1, d2, t, rfl, h1, h2, h3, h4, h6, h7, h9, h10, h12⟩
theorem clockOk_fits (t : List UInt8) (h : clockOk t = true) : fitsL t clockF = true := by
  cases hf : fitsL t clockF with
  | true => rfl
  | false => rw [fits_clock_not t hf] at h; cases h
theorem fits_date_not (l : List UInt8) (h : fitsL l dateF = false) : dateOk l = false := by
  unfold dateF at h
  unfold dateOk
  split
  · rename_i y1 y2 y3 y4 p m1 m2 q d1 d2 r t
    cases hc : clockOk t with
    | false => simp
    | true =>
      have hf := clockOk_fits t hc
      unfold clockF at hf
      simp [fitsL, fitsC, hf] at h ⊢
      intro h1 h2 h3 h4 h5 h6 h7 h8 h9 h10 h11
      exact absurd h11 (h h1 h2 h3 h4 h5 h6 h7 h8 h9 h10)
  · rfl
theorem digN_two (a b : UInt8) : digN [a, b] = two2 a b := by simp [digN, two2]
theorem digN_four (a b c d : UInt8) : digN [a, b, c, d] = 100 * two2 a b + two2 c d := by simp [digN, two2]; omega
theorem two2_lt (a b : UInt8) (ha : isD_XDateMath a = true) (hb : isD_XDateMath b = true) : two2 a b ≤ 99 := by
  have h1 := (isD_iff a).1 ha
  have h2 := (isD_iff b).1 hb
  unfold two2 dg; omega

set_option maxHeartbeats 2000000 in
theorem clock_any (a : Option Addr) (len cap : Nat) (l : List UInt8) (w : World) (hs : Sl w a len cap l) (hl : l.length ≤ 9223372036854775807) :
    Calls Tryd.prog 41 #[.slice a len cap] w fun e w' => e = .returned (.tuple #[.int .i64 (clockV l), .bool (clockOk l)]) ∧ Below w.heap.size w w' := by
  obtain ⟨R, hR⟩ : ∃ R, R = clockOk l := ⟨_, rfl⟩
  obtain ⟨V, hV⟩ : ∃ V, V = clockV l := ⟨_, rfl⟩
  rw [← hR, ← hV]
  have HR := Lib.hid hR
  have HV := Lib.hid hV
  clear hR hV
  cases hf : fitsL l clockF with
  | false =>
    have HE := Lib.hid (show R = false by rw [HR.out]; exact fits_clock_not l hf)
    have HZ := Lib.hid (show V = 0 by rw [HV.out, clockV, ← HR.out, HE.out]; rfl)
    go_enter Tryd.func41, Tryd.ntmps41
    go_wp2_with fail
    refine (fits_any _ _ _ _ _ _ hs (by decide) (by decide) hl).mono ?_
    rintro e w1 ⟨rfl, hb1⟩
    rw [clockB, hf]
    go_wp2_with fail
    go_ret2
    exact ⟨by rw [HE.out, HZ.out]; rfl, hb1⟩
  | true =>
    obtain ⟨c1, c2, c3, c4, c5, c6, rfl, i1, i2, i3, i4, i5, i6⟩ := fits_clock l hf
    obtain rfl : len = 8 := hs.1
    have hcap : 8 ≤ cap := hs.2.1
    obtain ⟨b, o, rfl, _, _⟩ := hs.some (by omega)
    obtain ⟨H, hH⟩ : ∃ H, H = two2 c1 c2 := ⟨_, rfl⟩
    obtain ⟨M, hM⟩ : ∃ M, M = two2 c3 c4 := ⟨_, rfl⟩
    obtain ⟨S, hS⟩ : ∃ S, S = two2 c5 c6 := ⟨_, rfl⟩
    have bH : H ≤ 99 := by rw [hH]; exact two2_lt _ _ i1 i2
    have bM : M ≤ 99 := by rw [hM]; exact two2_lt _ _ i3 i4
    have bS : S ≤ 99 := by rw [hS]; exact two2_lt _ _ i5 i6
    have HK := Lib.hid (show R = decide (H ≤ 23 ∧ M ≤ 59 ∧ S ≤ 59) by rw [HR.out]; simp [clockOk, i1, i2, i3, i4, i5, i6, hH, hM, hS])
    have HN := Lib.hid (show V = if R then 3600 * (H : Int) + 60 * (M : Int) + (S : Int) else 0 by rw [HV.out, clockV, ← HR.out, hH, hM, hS]; rfl)
    have D1 := digN_two c1 c2
    have D2 := digN_two c3 c4
    have D3 := digN_two c5 c6
    rw [← hH] at D1
    rw [← hM] at D2
    rw [← hS] at D3
    have G1 : Hid (∀ c ∈ [c1, c2], isD_XDateMath c = true) := Lib.hid (by simp [i1, i2])
    have G2 : Hid (∀ c ∈ [c3, c4], isD_XDateMath c = true) := Lib.hid (by simp [i3, i4])
    have G3 : Hid (∀ c ∈ [c5, c6], isD_XDateMath c = true) := Lib.hid (by simp [i5, i6])
    have DD1 := Lib.hid D1
    have DD2 := Lib.hid D2
    have DD3 := Lib.hid D3
    have HS := Lib.hid hs
    clear hH hM hS D1 D2 D3 i1 i2 i3 i4 i5 i6 hs HR HV
    go_enter Tryd.func41, Tryd.ntmps41
    go_wp2_with fail
    refine (fits_any _ _ _ _ _ _ HS.out (by decide) (by decide) hl).mono ?_
    rintro e w1 ⟨rfl, hb1⟩
    rw [clockB, hf]
    have hs1 := HS.out.after hb1
    have t1 := hs1.take 2 (by omega)
    have t2 := hs1.sub 3 5 (by omega) (by omega)
    have t3 := hs1.sub 6 8 (by omega) (by omega)
    simp only [List.take_succ_cons, List.take_zero, List.drop_succ_cons, List.drop_zero] at t1 t2 t3
    have T1 := Lib.hid t1
    have T2 := Lib.hid t2
    have T3 := Lib.hid t3
    clear hf t1 t2 t3 hs1
    go_wp2_with fail
    go_quiet ((go_at_call 42; first | (with_reducible exact Calls.quiet_of_same (digits_any _ _ _ _ _ (T1.out.drewN _) G1.out (by simp))) | (with_reducible exact Calls.quiet_of_same (digits_any _ _ _ _ _ (T2.out.drewN _) G2.out (by simp))) | (with_reducible exact Calls.quiet_of_same (digits_any _ _ _ _ _ (T3.out.drewN _) G3.out (by simp)))))
    rw [DD1.out, DD2.out, DD3.out]
    have hW := below_drewN hb1 nq
    by_cases x1 : H ≤ 23
    · by_cases x2 : M ≤ 59
      · by_cases x3 : S ≤ 59
        · have HE := Lib.hid (show R = true by rw [HK.out]; simp [x1, x2, x3])
          have HZ := Lib.hid (show V = (H : Int) * 3600 + (M : Int) * 60 + (S : Int) by rw [HN.out, HE.out, if_pos rfl]; omega)
          go_wp2_with fail
          go_ret2
          exact ⟨by rw [HE.out, HZ.out]; rfl, hW⟩
        · have HE := Lib.hid (show R = false by rw [HK.out]; simp [x3])
          have HZ := Lib.hid (show V = 0 by rw [HN.out, HE.out]; rfl)
          replace x3 : (59 : Int) < (S : Int) := by omega
          go_wp2_with fail
          go_ret2
          exact ⟨by rw [HE.out, HZ.out]; rfl, hW⟩
      · have HE := Lib.hid (show R = false by rw [HK.out]; simp [x2])
        have HZ := Lib.hid (show V = 0 by rw [HN.out, HE.out]; rfl)
        replace x2 : (59 : Int) < (M : Int) := by omega
        go_wp2_with fail
        go_ret2
        exact ⟨by rw [HE.out, HZ.out]; rfl, hW⟩
    · have HE := Lib.hid (show R = false by rw [HK.out]; simp [x1])
      have HZ := Lib.hid (show V = 0 by rw [HN.out, HE.out]; rfl)
      replace x1 : (23 : Int) < (H : Int) := by omega
      go_wp2_with fail
      go_ret2
      exact ⟨by rw [HE.out, HZ.out]; rfl, hW⟩
end Go.Proofs.YtigopfeamjhdpaaDoor
namespace Go.Proofs.YtigopfeamjhdpaaDoor
open Go.RowKit

set_option maxHeartbeats 4000000 in
theorem get_any (a : Option Addr) (len cap : Nat) (l : List UInt8) (w : World) (hs : Sl w a len cap l) (hl : l.length ≤ 9223372036854775807) :
    Calls Tryd.prog 27 #[.slice a len cap] w fun e w' => e = .returned (.tuple #[.int .i64 (dateV l), .bool (dateOk l)]) ∧ Below w.heap.size w w' := by
  obtain ⟨R, hR⟩ : ∃ R, R = dateOk l := ⟨_, rfl⟩
  obtain ⟨V, hV⟩ : ∃ V, V = dateV l := ⟨_, rfl⟩
  rw [← hR, ← hV]
  have HR := Lib.hid hR
  have HV := Lib.hid hV
  clear hR hV
  cases hf : fitsL l dateF with
  | false =>
    have HE := Lib.hid (show R = false by rw [HR.out]; exact fits_date_not l hf)
    have HZ := Lib.hid (show V = 0 by rw [HV.out, dateV, ← HR.out, HE.out]; rfl)
    go_enter Tryd.func27, Tryd.ntmps27
    go_wp2_with fail
    refine (fits_any _ _ _ _ _ _ hs (by decide) (by decide) hl).mono ?_
    rintro e w1 ⟨rfl, hb1⟩
    rw [dateB, hf]
    go_wp2_with fail
    go_ret2
    exact ⟨by rw [HE.out, HZ.out]; rfl, hb1⟩
  | true =>
    obtain ⟨y1, y2, y3, y4, m1, m2, d1, d2, t, rfl, i1, i2, i3, i4, i5, i6, i7, i8, ht⟩ := fits_date l hf
    have htl : t.length = 8 := fitsL_length t _ ht
    obtain rfl : len = 19 := by rw [hs.1]; simp [htl]
    have hcap : 19 ≤ cap := hs.2.1
    obtain ⟨b, o, rfl, _, _⟩ := hs.some (by omega)
    obtain ⟨Y, hY⟩ : ∃ Y, Y = 100 * two2 y1 y2 + two2 y3 y4 := ⟨_, rfl⟩
    obtain ⟨M, hM⟩ : ∃ M, M = two2 m1 m2 := ⟨_, rfl⟩
    obtain ⟨D, hD⟩ : ∃ D, D = two2 d1 d2 := ⟨_, rfl⟩
    have bY : Y ≤ 9999 := by have := two2_lt y1 y2 i1 i2; have := two2_lt y3 y4 i3 i4; omega
    have bM : M ≤ 99 := by rw [hM]; exact two2_lt _ _ i5 i6
    have bD : D ≤ 99 := by rw [hD]; exact two2_lt _ _ i7 i8
    obtain ⟨CO, hCO⟩ : ∃ CO, CO = clockOk t := ⟨_, rfl⟩
    obtain ⟨CV, hCV⟩ : ∃ CV, CV = clockV t := ⟨_, rfl⟩
    have bCV : 0 ≤ CV ∧ CV ≤ 1000000 := by
      obtain ⟨c1, c2, c3, c4, c5, c6, rfl, _, _, _, _, _, _⟩ := fits_clock t ht
      rw [hCV, clockV]
      cases hc : clockOk [c1, c2, 58, c3, c4, 58, c5, c6] with
      | false => simp
      | true =>
        simp [clockOk] at hc
        simp [clockN]; omega
    obtain ⟨bCV1, bCV2⟩ := bCV
    have HK := Lib.hid (show R = (CO && decide (1 ≤ M ∧ M ≤ 12 ∧ 1 ≤ D ∧ (D : Int) ≤ dim (Y : Nat) (M : Nat))) by rw [HR.out]; simp [dateOk, i1, i2, i3, i4, i5, i6, i7, i8, hY, hM, hD, hCO])
    have HN := Lib.hid (show V = if R then (dby (Y : Nat) + ((D : Int) - 1) + cum (Y : Nat) M) * 86400 + CV else 0 by
      rw [HV.out, dateV, ← HR.out]
      cases hr : R with
      | false => rfl
      | true =>
        have : CO = true := by have := HK.out; rw [hr] at this; simp at this; exact this.1
        simp only [if_true, dateN, hY, hM, hD, hCV, clockV, ← hCO, this])
    have DD1 := Lib.hid (show digN [y1, y2, y3, y4] = Y by rw [digN_four, hY])
    have DD2 := Lib.hid (show digN [m1, m2] = M by rw [digN_two, hM])
    have DD3 := Lib.hid (show digN [d1, d2] = D by rw [digN_two, hD])
    have G1 : Hid (∀ c ∈ [y1, y2, y3, y4], isD_XDateMath c = true) := Lib.hid (by simp [i1, i2, i3, i4])
    have G2 : Hid (∀ c ∈ [m1, m2], isD_XDateMath c = true) := Lib.hid (by simp [i5, i6])
    have G3 : Hid (∀ c ∈ [d1, d2], isD_XDateMath c = true) := Lib.hid (by simp [i7, i8])
    have HS := Lib.hid hs
    have HT := Lib.hid htl
    have HCO := Lib.hid hCO
    have HCV := Lib.hid hCV
    clear hY hM hD i1 i2 i3 i4 i5 i6 i7 i8 hs HR HV htl hCO hCV ht
    go_enter Tryd.func27, Tryd.ntmps27
    go_wp2_with fail
    refine (fits_any _ _ _ _ _ _ HS.out (by decide) (by decide) hl).mono ?_
    rintro e w1 ⟨rfl, hb1⟩
    rw [dateB, hf]
    have hs1 := HS.out.after hb1
    have t4 := Lib.hid (hs1.sub 11 19 (by omega) (by omega))
    clear hs1 hf hl
    go_wp2_with fail
    have tt := t4.out
    simp only [List.drop_succ_cons, List.drop_zero] at tt
    rw [List.take_of_length_le (by rw [HT.out]; omega)] at tt
    refine (clock_any _ _ _ t _ tt (by rw [HT.out]; omega)).mono ?_
    rintro e w2 ⟨rfl, hb2⟩
    rw [← HCO.out, ← HCV.out]
    have hW2 := hb1.trans (hb2.mono hb1.size)
    have hs2 := HS.out.after hW2
    have t1 := hs2.take 4 (by omega)
    have t2 := hs2.sub 5 7 (by omega) (by omega)
    have t3 := hs2.sub 8 10 (by omega) (by omega)
    simp only [List.take_succ_cons, List.take_zero, List.drop_succ_cons, List.drop_zero] at t1 t2 t3
    have T1 := Lib.hid t1
    have T2 := Lib.hid t2
    have T3 := Lib.hid t3
    clear t1 t2 t3 hs2 tt t4
    go_wp2_with fail
    go_quiet ((go_at_call 42; first | (with_reducible exact Calls.quiet_of_same (digits_any _ _ _ _ _ (T1.out.drewN _) G1.out (by simp))) | (with_reducible exact Calls.quiet_of_same (digits_any _ _ _ _ _ (T2.out.drewN _) G2.out (by simp))) | (with_reducible exact Calls.quiet_of_same (digits_any _ _ _ _ _ (T3.out.drewN _) G3.out (by simp)))))
    rw [DD1.out, DD2.out, DD3.out]
    have hW := below_drewN hW2 nq
    cases hco : CO with
    | false =>
      have HE := Lib.hid (show R = false by rw [HK.out, hco]; rfl)
      have HZ := Lib.hid (show V = 0 by rw [HN.out, HE.out]; rfl)
      go_wp2_with fail
      go_ret2
      exact ⟨by rw [HE.out, HZ.out]; rfl, hW⟩
    | true =>
      by_cases x1 : 1 ≤ M
      · by_cases x2 : M ≤ 12
        · by_cases x3 : 1 ≤ D
          · have bd := dim_bd (Y : Nat) (M : Nat)
            obtain ⟨L, hL⟩ : ∃ L, L = dim (Y : Nat) (M : Nat) := ⟨_, rfl⟩
            have HLL := Lib.hid hL
            rw [← hL] at bd
            clear hL
            by_cases x4 : (D : Int) ≤ L
            · have HE := Lib.hid (show R = true by rw [HK.out, hco, ← HLL.out]; simp [x1, x2, x3, x4])
              have HZ := Lib.hid (show V = (dby (Y : Nat) + ((D : Int) - 1) + cum (Y : Nat) M) * 86400 + CV by rw [HN.out, HE.out, if_pos rfl])
              have by1 := dby_bd (Y : Nat) (by omega) (by omega)
              go_wp2_with fail
              refine (days_any _ _ _ (by omega)).mono ?_
              rintro e w3 ⟨rfl, rfl⟩
              rw [← HLL.out]
              go_wp2_with fail
              refine (ahead_any _ _ (by omega) (by omega)).mono ?_
              rintro e w3 ⟨rfl, rfl⟩
              obtain ⟨A0, hA0⟩ : ∃ A0, A0 = dby (Y : Nat) := ⟨_, rfl⟩
              rw [← hA0]
              rw [← hA0] at by1
              have HA0 := Lib.hid hA0
              clear hA0
              go_wp2_with fail
              go_loop [9, 10] (fun s k => ∃ j : Nat, 1 ≤ j ∧ j ≤ M ∧ k = .int .i64 j ∧ s = .int .i64 (A0 + ((D : Int) - 1) + cum (Y : Nat) j)) (fun _ k => M - (intOf k).toNat)
              case atStart => exact ⟨1, by omega, x1, rfl, by simp [cum]⟩
              case round =>
                obtain ⟨j, hj1, hj2, rfl, rfl⟩ := hrel
                have cb := cum_bd (Y : Nat) j
                have cs := Lib.hid (cum_succ (Y : Nat) j hj1)
                obtain ⟨Q, hQ⟩ : ∃ Q, Q = cum (Y : Nat) j := ⟨_, rfl⟩
                rw [← hQ]
                rw [← hQ] at cb cs
                have HQ := Lib.hid hQ
                clear hQ
                by_cases hlt : j < M
                · have db := dim_bd (Y : Nat) (j : Nat)
                  go_wp2_with fail
                  refine (days_any _ _ _ (by omega)).mono ?_
                  rintro e w3 ⟨rfl, rfl⟩
                  obtain ⟨P, hP⟩ : ∃ P, P = dim (Y : Nat) (j : Nat) := ⟨_, rfl⟩
                  rw [← hP]
                  rw [← hP] at db cs
                  clear hP
                  go_wp2_with fail
                  go_round
                  case rel => exact ⟨j + 1, by omega, by omega, by go_num, by rw [cs.out]; go_num⟩
                  case measure => simp [intOf]; omega
                · obtain rfl : j = M := by omega
                  go_wp2_with fail
                  go_ret2
                  exact ⟨by rw [HE.out, HZ.out, ← HA0.out, ← HQ.out]; rfl, hW⟩
            · have HE := Lib.hid (show R = false by rw [HK.out, hco, ← HLL.out]; simp [x4])
              have HZ := Lib.hid (show V = 0 by rw [HN.out, HE.out]; rfl)
              replace x4 : L < (D : Int) := by omega
              go_wp2_with fail
              refine (days_any _ _ _ (by omega)).mono ?_
              rintro e w3 ⟨rfl, rfl⟩
              rw [← HLL.out]
              go_wp2_with fail
              go_ret2
              exact ⟨by rw [HE.out, HZ.out]; rfl, hW⟩
          · have HE := Lib.hid (show R = false by rw [HK.out, hco]; simp [x3])
            have HZ := Lib.hid (show V = 0 by rw [HN.out, HE.out]; rfl)
            replace x3 : (D : Int) < 1 := by omega
            go_wp2_with fail
            go_ret2
            exact ⟨by rw [HE.out, HZ.out]; rfl, hW⟩
        · have HE := Lib.hid (show R = false by rw [HK.out, hco]; simp [x2])
          have HZ := Lib.hid (show V = 0 by rw [HN.out, HE.out]; rfl)
          replace x2 : (12 : Int) < (M : Int) := by omega
          go_wp2_with fail
          go_ret2
          exact ⟨by rw [HE.out, HZ.out]; rfl, hW⟩
      · have HE := Lib.hid (show R = false by rw [HK.out, hco]; simp [x1])
        have HZ := Lib.hid (show V = 0 by rw [HN.out, HE.out]; rfl)
        replace x1 : (M : Int) < 1 := by omega
        go_wp2_with fail
        go_ret2
        exact ⟨by rw [HE.out, HZ.out]; rfl, hW⟩
end Go.Proofs.YtigopfeamjhdpaaDoor
namespace Go.Proofs.YtigopfeamjhdpaaDoor
open Go.RowKit

def twoB (a b : UInt8) : Bool := isD_XDateMath a && isD_XDateMath b
def twoV (a b : UInt8) : Int := if twoB a b then (two2 a b : Nat) else 0

set_option maxHeartbeats 1600000 in
theorem two_any (a : Option Addr) (len cap : Nat) (l : List UInt8) (at' : Int) (c1 c2 : UInt8) (w : World) (hs : Sl w a len cap l) (h0 : 0 ≤ at') (h1 : at' + 2 ≤ (len : Int)) (hl : len ≤ 100) (g1 : l.getD at'.toNat 0 = c1) (g2 : l.getD (at'.toNat + 1) 0 = c2) :
    Calls Tryd.prog 60 #[.slice a len cap, .int .i64 at'] w fun e w' => e = .returned (.tuple #[.int .i64 (twoV c1 c2), .bool (twoB c1 c2)]) ∧ Below w.heap.size w w' := by
  obtain ⟨n, rfl⟩ := Int.eq_ofNat_of_zero_le h0
  rw [Int.toNat_natCast] at g1 g2
  obtain ⟨b, o, rfl, hcc, _⟩ := hs.some (by omega)
  have k0 := hcc n (by omega)
  have k1 := hcc (n + 1) (by omega)
  rw [g1] at k0
  rw [g2] at k1
  have b1 := c1.toNat_lt
  have b2 := c2.toNat_lt
  have hlc := hs.2.1
  obtain ⟨R, hR⟩ : ∃ R, R = twoB c1 c2 := ⟨_, rfl⟩
  obtain ⟨V, hV⟩ : ∃ V, V = twoV c1 c2 := ⟨_, rfl⟩
  rw [← hR, ← hV]
  have HR := Lib.hid hR
  have HV := Lib.hid hV
  clear hcc g1 g2 hs hR hV h0
  have fin : Hid (R = false → V = 0) := Lib.hid (by intro h; rw [HV.out, twoV, ← HR.out, h]; rfl)
  by_cases x1 : c1.toNat < 48
  · have HE := Lib.hid (show R = false by rw [HR.out, twoB, (isD_not c1).2 (by omega)]; rfl)
    have HZ := Lib.hid (fin.out HE.out)
    replace x1 : (c1.toNat : Int) < 48 := by omega
    go_enter Tryd.func60, Tryd.ntmps60
    go_wp2_with fail
    go_ret2
    exact ⟨by rw [HE.out, HZ.out]; rfl, Below.refl _ _⟩
  · by_cases x2 : 57 < c1.toNat
    · have HE := Lib.hid (show R = false by rw [HR.out, twoB, (isD_not c1).2 (by omega)]; rfl)
      have HZ := Lib.hid (fin.out HE.out)
      replace x1 : (48 : Int) ≤ (c1.toNat : Int) := by omega
      replace x2 : (57 : Int) < (c1.toNat : Int) := by omega
      go_enter Tryd.func60, Tryd.ntmps60
      go_wp2_with fail
      go_ret2
      exact ⟨by rw [HE.out, HZ.out]; rfl, Below.refl _ _⟩
    · replace x1 : (48 : Int) ≤ (c1.toNat : Int) := by omega
      replace x2 : (c1.toNat : Int) ≤ 57 := by omega
      by_cases x3 : c2.toNat < 48
      · have HE := Lib.hid (show R = false by rw [HR.out, twoB, (isD_not c2).2 (by omega)]; simp)
        have HZ := Lib.hid (fin.out HE.out)
        replace x3 : (c2.toNat : Int) < 48 := by omega
        go_enter Tryd.func60, Tryd.ntmps60
        go_wp2_with fail
        go_ret2
        exact ⟨by rw [HE.out, HZ.out]; rfl, Below.refl _ _⟩
      · replace x3 : (48 : Int) ≤ (c2.toNat : Int) := by omega
        by_cases x4 : 57 < c2.toNat
        · have HE := Lib.hid (show R = false by rw [HR.out, twoB, (isD_not c2).2 (by omega)]; simp)
          have HZ := Lib.hid (fin.out HE.out)
          replace x4 : (57 : Int) < (c2.toNat : Int) := by omega
          go_enter Tryd.func60, Tryd.ntmps60
          go_wp2_with fail
          go_ret2
          exact ⟨by rw [HE.out, HZ.out]; rfl, Below.refl _ _⟩
        · replace x4 : (c2.toNat : Int) ≤ 57 := by omega
          have HE := Lib.hid (show R = true by rw [HR.out, twoB, (isD_iff c1).2 (by omega), (isD_iff c2).2 (by omega)]; rfl)
          obtain ⟨x, hx⟩ : ∃ x, x = dg c1 := ⟨_, rfl⟩
          obtain ⟨y, hy⟩ : ∃ y, y = dg c2 := ⟨_, rfl⟩
          have HZ := Lib.hid (show V = 10 * (x : Int) + (y : Int) by rw [HV.out, twoV, ← HR.out, HE.out, if_pos rfl, two2, ← hx, ← hy]; omega)
          have bx : x ≤ 9 := by rw [hx]; unfold dg; omega
          have byy : y ≤ 9 := by rw [hy]; unfold dg; omega
          have q1 : IntKind.u8.wrap ((c1.toNat : Int) - 48) = (x : Int) := by rw [IntKind.wrap_u8, hx]; unfold dg; omega
          have q2 : IntKind.u8.wrap ((c2.toNat : Int) - 48) = (y : Int) := by rw [IntKind.wrap_u8, hy]; unfold dg; omega
          have q3 : IntKind.i64.wrap (x : Int) = (x : Int) := by rw [IntKind.wrap_i64]; omega
          have q4 : IntKind.i64.wrap (y : Int) = (y : Int) := by rw [IntKind.wrap_i64]; omega
          have q5 : IntKind.i64.wrap (10 * (x : Int)) = 10 * (x : Int) := by rw [IntKind.wrap_i64]; omega
          have q6 : IntKind.i64.wrap (10 * (x : Int) + (y : Int)) = 10 * (x : Int) + (y : Int) := by rw [IntKind.wrap_i64]; omega
          have q7 : IntKind.i64.wrap ((n : Int) + 1) = (n : Int) + 1 := by rw [IntKind.wrap_i64]; omega
          have q8 : ((n : Int) + 1).toNat = n + 1 := by omega
          have q9 : (0 : Int) ≤ (n : Int) + 1 := by omega
          have q10 : (n : Int) + 1 < (len : Int) := by omega
          have q11 : (n : Int) < (len : Int) := by omega
          clear hx hy
          go_enter Tryd.func60, Tryd.ntmps60
          go_wp2_with fail
          go_quiet (fail)
          go_wp2_with fail
          go_ret2
          exact ⟨by rw [HE.out, HZ.out]; rfl, below_drewN (Below.refl _ _) _⟩

set_option maxHeartbeats 1600000 in
theorem refDays_any (y m : Int) (w : World) (h0 : 0 ≤ y) (h1 : 1 ≤ m) (h2 : m ≤ 12) : Calls Tryd.prog 62 #[.int .i64 y, .int .i64 m] w fun e w' => e = .returned (.int .i64 (dim y m)) ∧ Below w.heap.size w w' := by
  obtain ⟨R, hR⟩ : ∃ R, R = dim y m := ⟨_, rfl⟩
  rw [← hR]
  have HR := Lib.hid hR
  clear hR
  have hcase : m = 1 ∨ m = 2 ∨ m = 3 ∨ m = 4 ∨ m = 5 ∨ m = 6 ∨ m = 7 ∨ m = 8 ∨ m = 9 ∨ m = 10 ∨ m = 11 ∨ m = 12 := by omega
  have hB : ∀ o, Below w.heap.size w (w.alloc o) := fun o => (Below.refl _ _).alloc (Nat.le_refl _) o
  rcases hcase with rfl | rfl | rfl | rfl | rfl | rfl | rfl | rfl | rfl | rfl | rfl | rfl
  · have HE := Lib.hid (show R = 31 by rw [HR.out]; rfl)
    go_enter Tryd.func62, Tryd.ntmps62
    go_wp2_with fail
    go_ret
    exact ⟨by rw [HE.out]; rfl, hB _⟩
  · by_cases h400 : y % 400 = 0
    · have h4 : y % 4 = 0 := by omega
      have HE := Lib.hid (show R = 29 by rw [HR.out]; simp [dim, lp, lpB, h4, h400])
      have q400 : (y % 400 == 0) = true := by simpa using h400
      clear h400 h4
      go_enter Tryd.func62, Tryd.ntmps62
      go_wp2_with fail
      go_ret
      exact ⟨by rw [HE.out]; rfl, hB _⟩
    · by_cases h4 : y % 4 = 0
      · by_cases h100 : y % 100 = 0
        · have HE := Lib.hid (show R = 28 by rw [HR.out]; simp [dim, lp, lpB, h4, h100, h400])
          have q400 : (y % 400 == 0) = false := by simpa using h400
          have q4 : (y % 4 == 0) = true := by simpa using h4
          have q100 : (y % 100 != 0) = false := by simpa using h100
          clear h400 h4 h100
          go_enter Tryd.func62, Tryd.ntmps62
          go_wp2_with fail
          go_ret
          exact ⟨by rw [HE.out]; rfl, hB _⟩
        · have HE := Lib.hid (show R = 29 by rw [HR.out]; simp [dim, lp, lpB, h4, h100])
          have q400 : (y % 400 == 0) = false := by simpa using h400
          have q4 : (y % 4 == 0) = true := by simpa using h4
          have q100 : (y % 100 != 0) = true := by simpa using h100
          clear h400 h4 h100
          go_enter Tryd.func62, Tryd.ntmps62
          go_wp2_with fail
          go_ret
          exact ⟨by rw [HE.out]; rfl, hB _⟩
      · have HE := Lib.hid (show R = 28 by rw [HR.out]; simp [dim, lp, lpB, h4])
        have q400 : (y % 400 == 0) = false := by simpa using h400
        have q4 : (y % 4 == 0) = false := by simpa using h4
        clear h400 h4
        go_enter Tryd.func62, Tryd.ntmps62
        go_wp2_with fail
        go_ret
        exact ⟨by rw [HE.out]; rfl, hB _⟩
  · have HE := Lib.hid (show R = 31 by rw [HR.out]; rfl)
    go_enter Tryd.func62, Tryd.ntmps62
    go_wp2_with fail
    go_ret
    exact ⟨by rw [HE.out]; rfl, hB _⟩
  · have HE := Lib.hid (show R = 30 by rw [HR.out]; rfl)
    go_enter Tryd.func62, Tryd.ntmps62
    go_wp2_with fail
    go_ret
    exact ⟨by rw [HE.out]; rfl, hB _⟩
  · have HE := Lib.hid (show R = 31 by rw [HR.out]; rfl)
    go_enter Tryd.func62, Tryd.ntmps62
    go_wp2_with fail
    go_ret
    exact ⟨by rw [HE.out]; rfl, hB _⟩
  · have HE := Lib.hid (show R = 30 by rw [HR.out]; rfl)
    go_enter Tryd.func62, Tryd.ntmps62
    go_wp2_with fail
    go_ret
    exact ⟨by rw [HE.out]; rfl, hB _⟩
  · have HE := Lib.hid (show R = 31 by rw [HR.out]; rfl)
    go_enter Tryd.func62, Tryd.ntmps62
    go_wp2_with fail
    go_ret
    exact ⟨by rw [HE.out]; rfl, hB _⟩
  · have HE := Lib.hid (show R = 31 by rw [HR.out]; rfl)
    go_enter Tryd.func62, Tryd.ntmps62
    go_wp2_with fail
    go_ret
    exact ⟨by rw [HE.out]; rfl, hB _⟩
  · have HE := Lib.hid (show R = 30 by rw [HR.out]; rfl)
    go_enter Tryd.func62, Tryd.ntmps62
    go_wp2_with fail
    go_ret
    exact ⟨by rw [HE.out]; rfl, hB _⟩
  · have HE := Lib.hid (show R = 31 by rw [HR.out]; rfl)
    go_enter Tryd.func62, Tryd.ntmps62
    go_wp2_with fail
    go_ret
    exact ⟨by rw [HE.out]; rfl, hB _⟩
  · have HE := Lib.hid (show R = 30 by rw [HR.out]; rfl)
    go_enter Tryd.func62, Tryd.ntmps62
    go_wp2_with fail
    go_ret
    exact ⟨by rw [HE.out]; rfl, hB _⟩
  · have HE := Lib.hid (show R = 31 by rw [HR.out]; rfl)
    go_enter Tryd.func62, Tryd.ntmps62
    go_wp2_with fail
    go_ret
    exact ⟨by rw [HE.out]; rfl, hB _⟩

set_option maxHeartbeats 1600000 in
theorem refahead_any (y : Int) (w : World) (h0 : 0 ≤ y) (h1 : y ≤ 100000) : Calls Tryd.prog 63 #[.int .i64 y] w fun e w' => e = .returned (.int .i64 (dby y)) ∧ Below w.heap.size w w' := by
  obtain ⟨q, hq⟩ : ∃ q, q = y / 400 := ⟨_, rfl⟩
  obtain ⟨s, hsE⟩ : ∃ s, s = y - y % 400 := ⟨_, rfl⟩
  have b1 : 0 ≤ q := by omega
  have b2 : q ≤ 250 := by omega
  have b3 : 0 ≤ s := by omega
  have b4 : s ≤ y := by omega
  have HQ := Lib.hid (show dby s = q * 146097 by rw [show s = 400 * q by omega, dby_four]; omega)
  have q1 := hq.symm
  have q2 := hsE.symm
  clear hq hsE
  go_enter Tryd.func63, Tryd.ntmps63
  go_wp2_with fail
  go_loopw [3, 4] (fun n k wr => ∃ j : Int, s ≤ j ∧ j ≤ y ∧ k = .int .i64 j ∧ n = .int .i64 (dby j) ∧ Below w.heap.size w wr) (fun _ k _ => (y - intOf k).toNat)
  case atStart => exact ⟨s, by omega, b4, rfl, by rw [HQ.out], Below.refl _ _⟩
  case round =>
    obtain ⟨j, hj1, hj2, rfl, rfl, hW⟩ := hrel
    clear q1 q2
    have HD := Lib.hid (dby_succ j)
    have bd : 0 ≤ dby j ∧ dby j ≤ 40000000 := by unfold dby; omega
    obtain ⟨N, hN⟩ : ∃ N, N = dby j := ⟨_, rfl⟩
    rw [← hN]
    rw [← hN] at bd HD
    have HN := Lib.hid hN
    clear hN
    by_cases hlt : j < y
    · have hd : dim j 2 = 28 + lp j := by simp [dim]
      have lb := lp_01 j
      go_wp2_with fail
      refine (refDays_any _ _ _ (by omega) (by omega) (by omega)).mono ?_
      rintro e w1 ⟨rfl, hb1⟩
      rw [hd]
      clear hd
      obtain ⟨P, hP⟩ : ∃ P, P = lp j := ⟨_, rfl⟩
      rw [← hP]
      rw [← hP] at lb HD
      clear hP
      have hW1 := hW.trans (hb1.mono hW.size)
      go_wp2_with fail
      go_roundw
      case rel => exact ⟨j + 1, by omega, by omega, by go_num, by rw [HD.out]; go_num, hW1⟩
      case measure => simp [intOf]; omega
    · obtain rfl : j = y := by omega
      go_wp2_with fail
      go_ret
      exact ⟨by rw [← HN.out]; rfl, hW⟩
end Go.Proofs.YtigopfeamjhdpaaDoor
namespace Go.Proofs.YtigopfeamjhdpaaDoor
open Go.RowKit

theorem clockOk_len (l : List UInt8) (h : l.length ≠ 8) : clockOk l = false := by
  unfold clockOk
  split
  · simp at h
  · rfl
theorem dateOk_len (l : List UInt8) (h : l.length ≠ 19) : dateOk l = false := by
  unfold dateOk
  split
  · rename_i t
    rw [clockOk_len t (by intro ht; apply h; simp [ht])]
    simp
  · rfl
theorem twoV_le (a b : UInt8) : 0 ≤ twoV a b ∧ twoV a b ≤ 99 := by
  unfold twoV
  cases h : twoB a b with
  | false => simp
  | true =>
    rw [if_pos rfl]
    have h1 : isD_XDateMath a = true ∧ isD_XDateMath b = true := by simpa [twoB] using h
    have := two2_lt a b h1.1 h1.2
    omega
theorem twoV_true (a b : UInt8) (h : twoB a b = true) : twoV a b = (two2 a b : Nat) := by unfold twoV; rw [if_pos h]

set_option maxHeartbeats 4000000 in
theorem refClock_any (a : Option Addr) (len cap : Nat) (l : List UInt8) (w : World) (hs : Sl w a len cap l) (hl : l.length ≤ 9223372036854775807) :
    Calls Tryd.prog 61 #[.slice a len cap] w fun e w' => e = .returned (.tuple #[.int .i64 (clockV l), .bool (clockOk l)]) ∧ Below w.heap.size w w' := by
  obtain ⟨R, hR⟩ : ∃ R, R = clockOk l := ⟨_, rfl⟩
  obtain ⟨V, hV⟩ : ∃ V, V = clockV l := ⟨_, rfl⟩
  rw [← hR, ← hV]
  have HR := Lib.hid hR
  have HV := Lib.hid hV
  have fin : Hid (R = false → V = 0) := Lib.hid (by intro h; rw [hV, clockV, ← hR, h]; rfl)
  clear hR hV
  by_cases hlen : len = 8
  · subst hlen
    have hll : l.length = 8 := hs.1.symm
    obtain ⟨b, o, rfl, hcc, _⟩ := hs.some (by omega)
    have hcap : 8 ≤ cap := hs.2.1
    match l, hll with
    | [c1, c2, p, c3, c4, q, c5, c6], _ =>
    have kp := hcc 2 (by omega)
    have kq := hcc 5 (by omega)
    simp only [List.getD_cons_succ, List.getD_cons_zero] at kp kq
    have HS := Lib.hid hs
    have bp := p.toNat_lt
    have bq := q.toNat_lt
    clear hcc hs hl
    by_cases hp : p.toNat = 58
    · have hp' : p = 58 := UInt8.toNat_inj.1 (by simpa using hp)
      subst hp'
      by_cases hq : q.toNat = 58
      · have hq' : q = 58 := UInt8.toNat_inj.1 (by simpa using hq)
        subst hq'
        clear hp hq bp bq
        have HK := Lib.hid (show R = (twoB c1 c2 && twoB c3 c4 && twoB c5 c6 && decide (two2 c1 c2 ≤ 23 ∧ two2 c3 c4 ≤ 59 ∧ two2 c5 c6 ≤ 59)) by rw [HR.out]; simp [clockOk, twoB, Bool.and_assoc])
        have HN := Lib.hid (show R = true → V = 3600 * (two2 c1 c2 : Nat) + 60 * (two2 c3 c4 : Nat) + (two2 c5 c6 : Nat) by intro h; rw [HV.out, clockV, ← HR.out, h, if_pos rfl]; rfl)
        clear HR HV
        have v1 := twoV_le c1 c2
        have v2 := twoV_le c3 c4
        have v3 := twoV_le c5 c6
        have t1 := Lib.hid (twoV_true c1 c2)
        have t2 := Lib.hid (twoV_true c3 c4)
        have t3 := Lib.hid (twoV_true c5 c6)
        obtain ⟨B1, hB1⟩ : ∃ x, x = twoB c1 c2 := ⟨_, rfl⟩
        obtain ⟨B2, hB2⟩ : ∃ x, x = twoB c3 c4 := ⟨_, rfl⟩
        obtain ⟨B3, hB3⟩ : ∃ x, x = twoB c5 c6 := ⟨_, rfl⟩
        obtain ⟨H, hH⟩ : ∃ x, x = twoV c1 c2 := ⟨_, rfl⟩
        obtain ⟨M, hM⟩ : ∃ x, x = twoV c3 c4 := ⟨_, rfl⟩
        obtain ⟨S, hS⟩ : ∃ x, x = twoV c5 c6 := ⟨_, rfl⟩
        rw [← hH] at v1 t1
        rw [← hM] at v2 t2
        rw [← hS] at v3 t3
        rw [← hB1] at t1 HK
        rw [← hB2] at t2 HK
        rw [← hB3] at t3 HK
        have W1 := Lib.hid (And.intro hB1 hH)
        have W2 := Lib.hid (And.intro hB2 hM)
        have W3 := Lib.hid (And.intro hB3 hS)
        clear hB1 hB2 hB3 hH hM hS
        go_enter Tryd.func61, Tryd.ntmps61
        go_wp2_with fail
        refine (two_any _ _ _ _ _ c1 c2 _ HS.out (by omega) (by omega) (by omega) rfl rfl).mono ?_
        rintro e w1 ⟨rfl, hb1⟩
        rw [← W1.out.1, ← W1.out.2]
        go_wp2_with fail
        refine (two_any _ _ _ _ _ c3 c4 _ (HS.out.after hb1) (by omega) (by omega) (by omega) rfl rfl).mono ?_
        rintro e w2 ⟨rfl, hb2⟩
        rw [← W2.out.1, ← W2.out.2]
        have hW2 := hb1.trans (hb2.mono hb1.size)
        go_wp2_with fail
        refine (two_any _ _ _ _ _ c5 c6 _ (HS.out.after hW2) (by omega) (by omega) (by omega) rfl rfl).mono ?_
        rintro e w3 ⟨rfl, hb3⟩
        rw [← W3.out.1, ← W3.out.2]
        have hW3 := hW2.trans (hb3.mono hW2.size)
        clear W1 W2 W3
        cases e1 : B1 with
        | false =>
          have HE := Lib.hid (show R = false by rw [HK.out, e1]; simp)
          have HZ := Lib.hid (fin.out HE.out)
          go_wp2_with fail
          go_ret2
          exact ⟨by rw [HE.out, HZ.out]; rfl, hW3⟩
        | true =>
          cases e2 : B2 with
          | false =>
            have HE := Lib.hid (show R = false by rw [HK.out, e2]; simp)
            have HZ := Lib.hid (fin.out HE.out)
            go_wp2_with fail
            go_ret2
            exact ⟨by rw [HE.out, HZ.out]; rfl, hW3⟩
          | true =>
            cases e3 : B3 with
            | false =>
              have HE := Lib.hid (show R = false by rw [HK.out, e3]; simp)
              have HZ := Lib.hid (fin.out HE.out)
              go_wp2_with fail
              go_ret2
              exact ⟨by rw [HE.out, HZ.out]; rfl, hW3⟩
            | true =>
              have T1 := Lib.hid (t1.out e1)
              have T2 := Lib.hid (t2.out e2)
              have T3 := Lib.hid (t3.out e3)
              replace HK := Lib.hid (show R = decide (H ≤ 23 ∧ M ≤ 59 ∧ S ≤ 59) by
                have hiff : (two2 c1 c2 ≤ 23 ∧ two2 c3 c4 ≤ 59 ∧ two2 c5 c6 ≤ 59) ↔ (H ≤ 23 ∧ M ≤ 59 ∧ S ≤ 59) := by rw [T1.out, T2.out, T3.out]; omega
                rw [HK.out, e1, e2, e3]
                simp [hiff])
              clear t1 t2 t3
              by_cases x1 : H ≤ 23
              ·
                by_cases x2 : M ≤ 59
                ·
                  by_cases x3 : S ≤ 59
                  ·
                    have HE := Lib.hid (show R = true by rw [HK.out]; simp [x1, x2, x3])
                    have HZ := Lib.hid (show V = 3600 * H + 60 * M + S by rw [HN.out HE.out, ← T1.out, ← T2.out, ← T3.out])
                    go_wp2_with fail
                    go_ret2
                    exact ⟨by rw [HE.out, HZ.out]; rfl, hW3⟩
                  ·
                    have HE := Lib.hid (show R = false by rw [HK.out]; simp [x3])
                    have HZ := Lib.hid (fin.out HE.out)
                    replace x3 : (59 : Int) < S := by omega
                    go_wp2_with fail
                    go_ret2
                    exact ⟨by rw [HE.out, HZ.out]; rfl, hW3⟩
                ·
                  have HE := Lib.hid (show R = false by rw [HK.out]; simp [x2])
                  have HZ := Lib.hid (fin.out HE.out)
                  replace x2 : (59 : Int) < M := by omega
                  go_wp2_with fail
                  go_ret2
                  exact ⟨by rw [HE.out, HZ.out]; rfl, hW3⟩
              ·
                have HE := Lib.hid (show R = false by rw [HK.out]; simp [x1])
                have HZ := Lib.hid (fin.out HE.out)
                replace x1 : (23 : Int) < H := by omega
                go_wp2_with fail
                go_ret2
                exact ⟨by rw [HE.out, HZ.out]; rfl, hW3⟩
      ·
        have HE := Lib.hid (show R = false by
          have hqf : (q == 58) = false := by simpa [← UInt8.toNat_inj] using hq
          rw [HR.out]; simp [clockOk, hqf])
        have HZ := Lib.hid (fin.out HE.out)
        have qq : ((q.toNat : Int) != 58) = true := by rw [bne_iff_ne]; omega
        go_enter Tryd.func61, Tryd.ntmps61
        go_wp2_with fail
        go_ret2
        exact ⟨by rw [HE.out, HZ.out]; rfl, Below.refl _ _⟩
    ·
      have HE := Lib.hid (show R = false by
        have hpf : (p == 58) = false := by simpa [← UInt8.toNat_inj] using hp
        rw [HR.out]; simp [clockOk, hpf])
      have HZ := Lib.hid (fin.out HE.out)
      have qq : ((p.toNat : Int) != 58) = true := by rw [bne_iff_ne]; omega
      go_enter Tryd.func61, Tryd.ntmps61
      go_wp2_with fail
      go_ret2
      exact ⟨by rw [HE.out, HZ.out]; rfl, Below.refl _ _⟩
  ·
    have HE := Lib.hid (show R = false by
      rw [HR.out]; exact clockOk_len l (by rw [← hs.1]; exact hlen))
    have HZ := Lib.hid (fin.out HE.out)
    have qq : ((len : Int) != 8) = true := by rw [bne_iff_ne]; omega
    go_enter Tryd.func61, Tryd.ntmps61
    go_wp2_with fail
    go_ret2
    exact ⟨by rw [HE.out, HZ.out]; rfl, Below.refl _ _⟩
end Go.Proofs.YtigopfeamjhdpaaDoor
namespace Go.Proofs.YtigopfeamjhdpaaDoor
open Go.RowKit

theorem list19 (l : List UInt8) (h : l.length = 19) : ∃ y1 y2 y3 y4 p m1 m2 q d1 d2 r t, l = y1 :: y2 :: y3 :: y4 :: p :: m1 :: m2 :: q :: d1 :: d2 :: r :: t ∧ t.length = 8 := by
  match l, h with
  | y1 :: y2 :: y3 :: y4 :: p :: m1 :: m2 :: q :: d1 :: d2 :: r :: t, h => exact ⟨y1, y2, y3, y4, p, m1, m2, q, d1, d2, r, t, rfl, by simpa using h⟩
theorem clockV_bd (t : List UInt8) : 0 ≤ clockV t ∧ clockV t ≤ 1000000 := by
  unfold clockV
  cases hc : clockOk t with
  | false => simp
  | true =>
    obtain ⟨c1, c2, c3, c4, c5, c6, rfl, _, _, _, _, _, _⟩ := fits_clock t (clockOk_fits t hc)
    simp [clockOk] at hc
    simp [clockN]; omega

set_option maxHeartbeats 8000000 in
theorem refGet_any (a : Option Addr) (len cap : Nat) (l : List UInt8) (w : World) (hs : Sl w a len cap l) (hl : l.length ≤ 9223372036854775807) :
    Calls Tryd.prog 39 #[.slice a len cap] w fun e w' => e = .returned (.tuple #[.int .i64 (dateV l), .bool (dateOk l)]) ∧ Below w.heap.size w w' := by
  obtain ⟨R, hR⟩ : ∃ R, R = dateOk l := ⟨_, rfl⟩
  obtain ⟨V, hV⟩ : ∃ V, V = dateV l := ⟨_, rfl⟩
  rw [← hR, ← hV]
  have HR := Lib.hid hR
  have HV := Lib.hid hV
  have fin : Hid (R = false → V = 0) := Lib.hid (by intro h; rw [hV, dateV, ← hR, h]; rfl)
  clear hR hV
  by_cases hlen : len = 19
  · subst hlen
    obtain ⟨b, o, rfl, hcc, _⟩ := hs.some (by omega)
    have hcap : 19 ≤ cap := hs.2.1
    obtain ⟨y1, y2, y3, y4, p, m1, m2, q, d1, d2, r, t, rfl, htl⟩ := list19 l hs.1.symm
    have kp := hcc 4 (by omega)
    have kq := hcc 7 (by omega)
    have kr := hcc 10 (by omega)
    simp only [List.getD_cons_succ, List.getD_cons_zero] at kp kq kr
    have HS := Lib.hid hs
    have HT := Lib.hid htl
    have bp := p.toNat_lt
    have bq := q.toNat_lt
    have br := r.toNat_lt
    clear hcc hs hl htl
    by_cases hp : p.toNat = 45
    ·
      have hp' : p = 45 := UInt8.toNat_inj.1 (by simpa using hp)
      subst hp'
      clear hp bp
      by_cases hq : q.toNat = 45
      ·
        have hq' : q = 45 := UInt8.toNat_inj.1 (by simpa using hq)
        subst hq'
        clear hq bq
        by_cases hr : r.toNat = 95
        ·
          have hr' : r = 95 := UInt8.toNat_inj.1 (by simpa using hr)
          subst hr'
          clear hr br
          have HK := Lib.hid (show R = (twoB y1 y2 && twoB y3 y4 && twoB m1 m2 && twoB d1 d2 && clockOk t && decide (1 ≤ two2 m1 m2 ∧ two2 m1 m2 ≤ 12 ∧ 1 ≤ two2 d1 d2 ∧ (two2 d1 d2 : Int) ≤ dim (100 * two2 y1 y2 + two2 y3 y4 : Nat) (two2 m1 m2 : Nat))) by rw [HR.out]; simp [dateOk, twoB, Bool.and_assoc])
          have HN := Lib.hid (show R = true → V = (dby (100 * two2 y1 y2 + two2 y3 y4 : Nat) + ((two2 d1 d2 : Nat) - 1 : Int) + cum (100 * two2 y1 y2 + two2 y3 y4 : Nat) (two2 m1 m2)) * 86400 + clockV t by
            intro h
            have hc : clockOk t = true := by have := HK.out; rw [h] at this; revert this; cases clockOk t <;> simp
            rw [HV.out, dateV, ← HR.out, h, if_pos rfl, dateN, clockV, hc, if_pos rfl])
          clear HR HV
          have v0 := twoV_le y1 y2
          have t0 := Lib.hid (twoV_true y1 y2)
          obtain ⟨B1, hB0⟩ : ∃ x, x = twoB y1 y2 := ⟨_, rfl⟩
          obtain ⟨C, hX0⟩ : ∃ x, x = twoV y1 y2 := ⟨_, rfl⟩
          rw [← hX0] at v0 t0
          rw [← hB0] at t0 HK
          have W0 := Lib.hid (And.intro hB0 hX0)
          clear hB0 hX0
          have v1 := twoV_le y3 y4
          have t1 := Lib.hid (twoV_true y3 y4)
          obtain ⟨B2, hB1⟩ : ∃ x, x = twoB y3 y4 := ⟨_, rfl⟩
          obtain ⟨E, hX1⟩ : ∃ x, x = twoV y3 y4 := ⟨_, rfl⟩
          rw [← hX1] at v1 t1
          rw [← hB1] at t1 HK
          have W1 := Lib.hid (And.intro hB1 hX1)
          clear hB1 hX1
          have v2 := twoV_le m1 m2
          have t2 := Lib.hid (twoV_true m1 m2)
          obtain ⟨B3, hB2⟩ : ∃ x, x = twoB m1 m2 := ⟨_, rfl⟩
          obtain ⟨M, hX2⟩ : ∃ x, x = twoV m1 m2 := ⟨_, rfl⟩
          rw [← hX2] at v2 t2
          rw [← hB2] at t2 HK
          have W2 := Lib.hid (And.intro hB2 hX2)
          clear hB2 hX2
          have v3 := twoV_le d1 d2
          have t3 := Lib.hid (twoV_true d1 d2)
          obtain ⟨B4, hB3⟩ : ∃ x, x = twoB d1 d2 := ⟨_, rfl⟩
          obtain ⟨D, hX3⟩ : ∃ x, x = twoV d1 d2 := ⟨_, rfl⟩
          rw [← hX3] at v3 t3
          rw [← hB3] at t3 HK
          have W3 := Lib.hid (And.intro hB3 hX3)
          clear hB3 hX3
          have bcv := clockV_bd t
          obtain ⟨CO, hCO⟩ : ∃ x, x = clockOk t := ⟨_, rfl⟩
          obtain ⟨CV, hCV⟩ : ∃ x, x = clockV t := ⟨_, rfl⟩
          rw [← hCO] at HK
          rw [← hCV] at HN bcv
          obtain ⟨bcv1, bcv2⟩ := bcv
          have WC := Lib.hid (And.intro hCO hCV)
          clear hCO hCV
          go_enter Tryd.func39, Tryd.ntmps39
          go_wp2_with fail
          refine (two_any _ _ _ _ _ y1 y2 _ HS.out (by omega) (by omega) (by omega) rfl rfl).mono ?_
          rintro e w1 ⟨rfl, hb1⟩
          rw [← W0.out.1, ← W0.out.2]
          have hW1 := hb1
          go_wp2_with fail
          refine (two_any _ _ _ _ _ y3 y4 _ (HS.out.after hW1) (by omega) (by omega) (by omega) rfl rfl).mono ?_
          rintro e w2 ⟨rfl, hb2⟩
          rw [← W1.out.1, ← W1.out.2]
          have hW2 := hW1.trans (hb2.mono hW1.size)
          go_wp2_with fail
          refine (two_any _ _ _ _ _ m1 m2 _ (HS.out.after hW2) (by omega) (by omega) (by omega) rfl rfl).mono ?_
          rintro e w3 ⟨rfl, hb3⟩
          rw [← W2.out.1, ← W2.out.2]
          have hW3 := hW2.trans (hb3.mono hW2.size)
          go_wp2_with fail
          refine (two_any _ _ _ _ _ d1 d2 _ (HS.out.after hW3) (by omega) (by omega) (by omega) rfl rfl).mono ?_
          rintro e w4 ⟨rfl, hb4⟩
          rw [← W3.out.1, ← W3.out.2]
          have hW4 := hW3.trans (hb4.mono hW3.size)
          go_wp2_with fail
          have tt := (HS.out.after hW4).sub 11 19 (by omega) (by omega)
          simp only [List.drop_succ_cons, List.drop_zero] at tt
          rw [List.take_of_length_le (by rw [HT.out]; omega)] at tt
          refine (refClock_any _ _ _ t _ tt (by rw [HT.out]; omega)).mono ?_
          rintro e w5 ⟨rfl, hb5⟩
          rw [← WC.out.1, ← WC.out.2]
          have hW := hW4.trans (hb5.mono hW4.size)
          clear W0 W1 W2 W3 WC tt kp kq kr
          cases eB1 : B1 with
          | false =>
            have HE := Lib.hid (show R = false by rw [HK.out, eB1]; simp)
            have HZ := Lib.hid (fin.out HE.out)
            go_wp2_with fail
            go_ret2
            exact ⟨by rw [HE.out, HZ.out]; rfl, hW⟩
          | true =>
            cases eB2 : B2 with
            | false =>
              have HE := Lib.hid (show R = false by rw [HK.out, eB2]; simp)
              have HZ := Lib.hid (fin.out HE.out)
              go_wp2_with fail
              go_ret2
              exact ⟨by rw [HE.out, HZ.out]; rfl, hW⟩
            | true =>
              cases eB3 : B3 with
              | false =>
                have HE := Lib.hid (show R = false by rw [HK.out, eB3]; simp)
                have HZ := Lib.hid (fin.out HE.out)
                go_wp2_with fail
                go_ret2
                exact ⟨by rw [HE.out, HZ.out]; rfl, hW⟩
              | true =>
                cases eB4 : B4 with
                | false =>
                  have HE := Lib.hid (show R = false by rw [HK.out, eB4]; simp)
                  have HZ := Lib.hid (fin.out HE.out)
                  go_wp2_with fail
                  go_ret2
                  exact ⟨by rw [HE.out, HZ.out]; rfl, hW⟩
                | true =>
                  cases eCO : CO with
                  | false =>
                    have HE := Lib.hid (show R = false by rw [HK.out, eCO]; simp)
                    have HZ := Lib.hid (fin.out HE.out)
                    go_wp2_with fail
                    go_ret2
                    exact ⟨by rw [HE.out, HZ.out]; rfl, hW⟩
                  | true =>
                    have T1 := Lib.hid (t0.out eB1)
                    have T2 := Lib.hid (t1.out eB2)
                    have T3 := Lib.hid (t2.out eB3)
                    have T4 := Lib.hid (t3.out eB4)
                    obtain ⟨Y, hY⟩ : ∃ Y, Y = 100 * two2 y1 y2 + two2 y3 y4 := ⟨_, rfl⟩
                    have bY : (Y : Int) = 100 * C + E := by have := T1.out; have := T2.out; omega
                    obtain ⟨Mn, hMn⟩ : ∃ Mn, Mn = two2 m1 m2 := ⟨_, rfl⟩
                    have bM : (Mn : Int) = M := by have := T3.out; omega
                    obtain ⟨Dn, hDn⟩ : ∃ Dn, Dn = two2 d1 d2 := ⟨_, rfl⟩
                    have bD : (Dn : Int) = D := by have := T4.out; omega
                    replace HK := Lib.hid (show R = decide (1 ≤ M ∧ M ≤ 12 ∧ 1 ≤ D ∧ D ≤ dim (Y : Nat) (Mn : Nat)) by
                      have hiff : (1 ≤ Mn ∧ Mn ≤ 12 ∧ 1 ≤ Dn ∧ (Dn : Int) ≤ dim (Y : Nat) (Mn : Nat)) ↔ (1 ≤ M ∧ M ≤ 12 ∧ 1 ≤ D ∧ D ≤ dim (Y : Nat) (Mn : Nat)) := by rw [← bD]; omega
                      rw [HK.out, eB1, eB2, eB3, eB4, eCO, ← hY, ← hMn, ← hDn]
                      simp [hiff])
                    replace HN := Lib.hid (show R = true → V = (dby (Y : Nat) + (D - 1) + cum (Y : Nat) Mn) * 86400 + CV by
                      intro h; rw [HN.out h, ← hY, ← hMn, ← bD, hDn])
                    have BY := Lib.hid bY
                    have BM := Lib.hid bM
                    have by9 : 0 ≤ 100 * C + E ∧ 100 * C + E ≤ 9999 := by omega
                    clear t0 t1 t2 t3 T1 T2 T3 T4 hY hMn hDn bY bM bD
                    by_cases x1 : 1 ≤ M
                    ·
                      by_cases x2 : M ≤ 12
                      ·
                        by_cases x3 : 1 ≤ D
                        ·
                          have bd := dim_bd (Y : Nat) (Mn : Nat)
                          obtain ⟨L, hL⟩ : ∃ L, L = dim (Y : Nat) (Mn : Nat) := ⟨_, rfl⟩
                          rw [← hL] at bd HK
                          have HLL := Lib.hid hL
                          clear hL
                          by_cases x4 : D ≤ L
                          ·
                            have HE := Lib.hid (show R = true by rw [HK.out]; simp [x1, x2, x3, x4])
                            have HZ := Lib.hid (HN.out HE.out)
                            go_wp2_with fail
                            rw [← BY.out, ← BM.out]
                            refine (refDays_any _ _ _ (by omega) (by have := BM.out; omega) (by have := BM.out; omega)).mono ?_
                            rintro e w6 ⟨rfl, hb6⟩
                            rw [← HLL.out]
                            have hWd := hW.trans (hb6.mono hW.size)
                            go_wp2_with fail
                            refine (refahead_any _ _ (by omega) (by have := BY.out; omega)).mono ?_
                            rintro e w7 ⟨rfl, hb7⟩
                            have hWA := hWd.trans (hb7.mono hWd.size)
                            have by1 := dby_bd (Y : Nat) (by omega) (by have := BY.out; omega)
                            obtain ⟨A0, hA0⟩ : ∃ A0, A0 = dby (Y : Nat) := ⟨_, rfl⟩
                            rw [← hA0]
                            rw [← hA0] at by1
                            have HA0 := Lib.hid hA0.symm
                            clear hA0
                            have bMM : (Mn : Int) ≤ 12 := by have := BM.out; omega
                            have bMM1 : (1 : Int) ≤ (Mn : Int) := by have := BM.out; omega
                            go_wp2_with fail
                            go_loopw [15, 16] (fun s k wr => ∃ j : Nat, 1 ≤ j ∧ j ≤ Mn ∧ k = .int .i64 j ∧ s = .int .i64 (A0 + D - 1 + cum (Y : Nat) j) ∧ Below w.heap.size w wr) (fun _ k _ => Mn - (intOf k).toNat)
                            case atStart => exact ⟨1, by omega, by omega, rfl, by simp [cum], hWA⟩
                            case round =>
                              obtain ⟨j, hj1, hj2, rfl, rfl, hWr⟩ := hrel
                              have cb := cum_bd (Y : Nat) j
                              have cs := Lib.hid (cum_succ (Y : Nat) j hj1)
                              obtain ⟨Q, hQ⟩ : ∃ Q, Q = cum (Y : Nat) j := ⟨_, rfl⟩
                              rw [← hQ]
                              rw [← hQ] at cb cs
                              have HQ := Lib.hid hQ
                              clear hQ
                              by_cases hlt : j < Mn
                              · have db := dim_bd (Y : Nat) (j : Nat)
                                go_wp2_with fail
                                refine (refDays_any _ _ _ (by omega) (by omega) (by omega)).mono ?_
                                rintro e w9 ⟨rfl, hb9⟩
                                obtain ⟨P, hP⟩ : ∃ P, P = dim (Y : Nat) (j : Nat) := ⟨_, rfl⟩
                                rw [← hP]
                                rw [← hP] at db cs
                                clear hP
                                have hW9 := hWr.trans (hb9.mono hWr.size)
                                go_wp2_with fail
                                go_roundw
                                case rel => exact ⟨j + 1, by omega, by omega, by go_num, by rw [cs.out]; go_num, hW9⟩
                                case measure => simp [intOf]; omega
                              · obtain rfl : j = Mn := by omega
                                have HZ2 := Lib.hid (show V = (A0 + D - 1 + Q) * 86400 + CV by rw [HZ.out, HA0.out, HQ.out, show A0 + (D - 1) = A0 + D - 1 by omega])
                                go_wp2_with fail
                                go_ret2
                                exact ⟨by rw [HE.out, HZ2.out]; rfl, hWr⟩
                          ·
                            have HE := Lib.hid (show R = false by rw [HK.out]; simp [x4])
                            have HZ := Lib.hid (fin.out HE.out)
                            replace x4 : L < D := by omega
                            go_wp2_with fail
                            rw [← BY.out, ← BM.out]
                            refine (refDays_any _ _ _ (by omega) (by have := BM.out; omega) (by have := BM.out; omega)).mono ?_
                            rintro e w6 ⟨rfl, hb6⟩
                            rw [← HLL.out]
                            have hWd := hW.trans (hb6.mono hW.size)
                            go_wp2_with fail
                            go_ret2
                            exact ⟨by rw [HE.out, HZ.out]; rfl, hWd⟩
                        ·
                          have HE := Lib.hid (show R = false by rw [HK.out]; simp [x3])
                          have HZ := Lib.hid (fin.out HE.out)
                          replace x3 : D < 1 := by omega
                          go_wp2_with fail
                          go_ret2
                          exact ⟨by rw [HE.out, HZ.out]; rfl, hW⟩
                      ·
                        have HE := Lib.hid (show R = false by rw [HK.out]; simp [x2])
                        have HZ := Lib.hid (fin.out HE.out)
                        replace x2 : 12 < M := by omega
                        go_wp2_with fail
                        go_ret2
                        exact ⟨by rw [HE.out, HZ.out]; rfl, hW⟩
                    ·
                      have HE := Lib.hid (show R = false by rw [HK.out]; simp [x1])
                      have HZ := Lib.hid (fin.out HE.out)
                      replace x1 : M < 1 := by omega
                      go_wp2_with fail
                      go_ret2
                      exact ⟨by rw [HE.out, HZ.out]; rfl, hW⟩
        ·
          have hxf : (r == 95) = false := by simpa [← UInt8.toNat_inj] using hr
          have HE := Lib.hid (show R = false by rw [HR.out]; simp [dateOk, hxf])
          have HZ := Lib.hid (fin.out HE.out)
          have qq : ((r.toNat : Int) != 95) = true := by rw [bne_iff_ne]; omega
          go_enter Tryd.func39, Tryd.ntmps39
          go_wp2_with fail
          go_ret2
          exact ⟨by rw [HE.out, HZ.out]; rfl, Below.refl _ _⟩
      ·
        have hxf : (q == 45) = false := by simpa [← UInt8.toNat_inj] using hq
        have HE := Lib.hid (show R = false by rw [HR.out]; simp [dateOk, hxf])
        have HZ := Lib.hid (fin.out HE.out)
        have qq : ((q.toNat : Int) != 45) = true := by rw [bne_iff_ne]; omega
        go_enter Tryd.func39, Tryd.ntmps39
        go_wp2_with fail
        go_ret2
        exact ⟨by rw [HE.out, HZ.out]; rfl, Below.refl _ _⟩
    ·
      have hxf : (p == 45) = false := by simpa [← UInt8.toNat_inj] using hp
      have HE := Lib.hid (show R = false by rw [HR.out]; simp [dateOk, hxf])
      have HZ := Lib.hid (fin.out HE.out)
      have qq : ((p.toNat : Int) != 45) = true := by rw [bne_iff_ne]; omega
      go_enter Tryd.func39, Tryd.ntmps39
      go_wp2_with fail
      go_ret2
      exact ⟨by rw [HE.out, HZ.out]; rfl, Below.refl _ _⟩
  · have HE := Lib.hid (show R = false by rw [HR.out]; exact dateOk_len l (by rw [← hs.1]; exact hlen))
    have HZ := Lib.hid (fin.out HE.out)
    have qq : ((len : Int) != 19) = true := by rw [bne_iff_ne]; omega
    go_enter Tryd.func39, Tryd.ntmps39
    go_wp2_with fail
    go_ret2
    exact ⟨by rw [HE.out, HZ.out]; rfl, Below.refl _ _⟩
end Go.Proofs.YtigopfeamjhdpaaDoor
namespace Go.Proofs.YtigopfeamjhdpaaDoor

theorem digC_isD (n s : Nat) : isD_XDateMath (digC n s) = true := by
  rw [isD_iff]; unfold digC; simp; omega
theorem dg_digC (n s : Nat) : dg (digC n s) = n / 10 ^ s % 10 := by
  unfold dg digC; simp; omega
theorem digC_of (c : UInt8) (h : isD_XDateMath c = true) (n s : Nat) (hn : n / 10 ^ s % 10 = dg c) : digC n s = c := by
  have := (isD_iff c).1 h
  apply UInt8.toNat_inj.1
  unfold digC; rw [hn]; unfold dg; simp; omega
theorem fmtD_eq (y m d r : Nat) : fmtD y m d r = [digC y 3, digC y 2, digC y 1, digC y 0, 45, digC m 1, digC m 0, 45, digC d 1, digC d 0, 95, digC (r / 3600) 1, digC (r / 3600) 0, 58, digC (r / 60 % 60) 1, digC (r / 60 % 60) 0, 58, digC (r % 60) 1, digC (r % 60) 0] := rfl

/-- the fields of a date -/
def Fld (l : List UInt8) (y m d r : Nat) : Prop :=
  l = fmtD y m d r ∧ y ≤ 9999 ∧ 1 ≤ m ∧ m ≤ 12 ∧ 1 ≤ d ∧ (d : Int) ≤ dim y m ∧ r < 86400

theorem two2_dig2 (n : Nat) (h : n ≤ 99) : two2 (digC n 1) (digC n 0) = n := by unfold two2; rw [dg_digC, dg_digC]; simp; omega
theorem clock_fmt (r : Nat) (h : r < 86400) : clockOk [digC (r / 3600) 1, digC (r / 3600) 0, 58, digC (r / 60 % 60) 1, digC (r / 60 % 60) 0, 58, digC (r % 60) 1, digC (r % 60) 0] = true ∧
    clockN [digC (r / 3600) 1, digC (r / 3600) 0, 58, digC (r / 60 % 60) 1, digC (r / 60 % 60) 0, 58, digC (r % 60) 1, digC (r % 60) 0] = r := by
  have h1 := two2_dig2 (r / 3600) (by omega)
  have h2 := two2_dig2 (r / 60 % 60) (by omega)
  have h3 := two2_dig2 (r % 60) (by omega)
  constructor
  · simp only [clockOk, digC_isD, h1, h2, h3]; simp; omega
  · simp only [clockN, h1, h2, h3]; omega
theorem date_fmt (y m d r : Nat) (h : Fld (fmtD y m d r) y m d r) : dateOk (fmtD y m d r) = true ∧ dateN (fmtD y m d r) = (dby y + ((d : Int) - 1) + cum y m) * 86400 + r := by
  obtain ⟨_, hy, hm1, hm2, hd1, hd2, hr⟩ := h
  have dd := dim_bd y m
  obtain ⟨c1, c2⟩ := clock_fmt r hr
  have e1 : 100 * two2 (digC y 3) (digC y 2) + two2 (digC y 1) (digC y 0) = y := by
    unfold two2; simp only [dg_digC]; simp; omega
  have e2 := two2_dig2 m (by omega)
  have e3 := two2_dig2 d (by omega)
  rw [fmtD_eq]
  constructor
  · simp only [dateOk, digC_isD, e1, e2, e3, c1]; simp; omega
  · simp only [dateN, e1, e2, e3, c2]
theorem clock_of (t : List UInt8) (h : clockOk t = true) : ∃ r, r < 86400 ∧ t = [digC (r / 3600) 1, digC (r / 3600) 0, 58, digC (r / 60 % 60) 1, digC (r / 60 % 60) 0, 58, digC (r % 60) 1, digC (r % 60) 0] ∧ clockN t = r := by
  obtain ⟨a, b, c, d, e, f, rfl, i1, i2, i3, i4, i5, i6⟩ := fits_clock t (clockOk_fits t h)
  simp [clockOk] at h
  have d1 := (isD_iff a).1 i1
  have d2 := (isD_iff b).1 i2
  have d3 := (isD_iff c).1 i3
  have d4 := (isD_iff d).1 i4
  have d5 := (isD_iff e).1 i5
  have d6 := (isD_iff f).1 i6
  refine ⟨3600 * two2 a b + 60 * two2 c d + two2 e f, by omega, ?_, by simp [clockN]⟩
  have w1 : (3600 * two2 a b + 60 * two2 c d + two2 e f) / 3600 = two2 a b := by omega
  have w2 : (3600 * two2 a b + 60 * two2 c d + two2 e f) / 60 % 60 = two2 c d := by omega
  have w3 : (3600 * two2 a b + 60 * two2 c d + two2 e f) % 60 = two2 e f := by omega
  rw [w1, w2, w3]
  rw [digC_of a i1 _ _ (by unfold two2 dg; simp; omega), digC_of b i2 _ _ (by unfold two2 dg; simp; omega), digC_of c i3 _ _ (by unfold two2 dg; simp; omega), digC_of d i4 _ _ (by unfold two2 dg; simp; omega), digC_of e i5 _ _ (by unfold two2 dg; simp; omega), digC_of f i6 _ _ (by unfold two2 dg; simp; omega)]
theorem date_of (l : List UInt8) (h : dateOk l = true) : ∃ y m d r, Fld l y m d r ∧ dateV l = (dby (y : Nat) + ((d : Nat) - 1 : Int) + cum (y : Nat) m) * 86400 + (r : Nat) := by
  have hf : fitsL l dateF = true := by
    cases hf : fitsL l dateF with
    | true => rfl
    | false => rw [fits_date_not l hf] at h; cases h
  obtain ⟨y1, y2, y3, y4, m1, m2, d1, d2, t, rfl, i1, i2, i3, i4, i5, i6, i7, i8, _⟩ := fits_date l hf
  have hv : dateV (y1 :: y2 :: y3 :: y4 :: 45 :: m1 :: m2 :: 45 :: d1 :: d2 :: 95 :: t) = dateN (y1 :: y2 :: y3 :: y4 :: 45 :: m1 :: m2 :: 45 :: d1 :: d2 :: 95 :: t) := by unfold dateV; rw [if_pos h]
  simp [dateOk, i1, i2, i3, i4, i5, i6, i7, i8] at h
  obtain ⟨hc, h1, h2, h3, h4⟩ := h
  obtain ⟨r, hr, ht, hn⟩ := clock_of t hc
  have k1 := (isD_iff y1).1 i1
  have k2 := (isD_iff y2).1 i2
  have k3 := (isD_iff y3).1 i3
  have k4 := (isD_iff y4).1 i4
  have k5 := (isD_iff m1).1 i5
  have k6 := (isD_iff m2).1 i6
  have k7 := (isD_iff d1).1 i7
  have k8 := (isD_iff d2).1 i8
  refine ⟨100 * two2 y1 y2 + two2 y3 y4, two2 m1 m2, two2 d1 d2, r, ⟨?_, by unfold two2 dg; omega, h1, h2, h3, by simpa using h4, hr⟩, ?_⟩
  · rw [fmtD_eq, ht]
    rw [digC_of y1 i1 (100 * two2 y1 y2 + two2 y3 y4) 3 (by unfold two2 dg; simp; omega),
      digC_of y2 i2 (100 * two2 y1 y2 + two2 y3 y4) 2 (by unfold two2 dg; simp; omega),
      digC_of y3 i3 (100 * two2 y1 y2 + two2 y3 y4) 1 (by unfold two2 dg; simp; omega),
      digC_of y4 i4 (100 * two2 y1 y2 + two2 y3 y4) 0 (by unfold two2 dg; simp; omega),
      digC_of m1 i5 (two2 m1 m2) 1 (by unfold two2 dg; simp; omega),
      digC_of m2 i6 (two2 m1 m2) 0 (by unfold two2 dg; simp; omega),
      digC_of d1 i7 (two2 d1 d2) 1 (by unfold two2 dg; simp; omega),
      digC_of d2 i8 (two2 d1 d2) 0 (by unfold two2 dg; simp; omega)]
  · rw [hv]; simp only [dateN, hn]
def numD (y m d r : Nat) : Int := (dby y + ((d : Int) - 1) + cum y m) * 86400 + r
theorem cum_le (y : Int) (m : Nat) (h : m ≤ 13) : cum y m + (if m = 13 then 0 else dim y m) ≤ 365 + lp y ∨ m = 0 := by
  have c := cum_13 y
  rcases Nat.eq_zero_or_pos m with h0 | h0
  · exact .inr h0
  · left
    have key : ∀ k, k + m = 13 → cum y m + (if m = 13 then 0 else dim y m) ≤ cum y 13 := by
      intro k
      induction k generalizing m with
      | zero => intro hk; obtain rfl : m = 13 := by omega
                simp
      | succ k ih =>
        intro hk
        have hs := cum_succ y m h0
        rw [if_neg (by omega), ← hs]
        have := ih (m + 1) (by omega) (by omega) (by omega)
        have hd := dim_bd y (m + 1 : Nat)
        split at this <;> omega
    have := key (13 - m) (by omega)
    omega
theorem numD_year (y m d r y' m' d' r' : Nat) (hm2 : m ≤ 12) (hm : 1 ≤ m) (hd2 : (d : Int) ≤ dim y m) (hr : r < 86400) (hd' : 1 ≤ d') (h : y < y') : numD y m d r < numD y' m' d' r' := by
  have h1 := cum_le y m (by omega)
  rw [if_neg (by omega)] at h1
  have h2 := dby_succ y
  have h3 := dby_mono (y + 1) y' (by omega)
  have h4 := (cum_bd y' m').1
  unfold numD; omega
theorem cum_mono (y : Int) (m m' : Nat) (hm : 1 ≤ m) (h : m < m') : cum y m + dim y m ≤ cum y m' := by
  induction m' with
  | zero => omega
  | succ k ih =>
    rcases Nat.lt_or_ge m k with hk | hk
    · have := ih hk
      have hs := cum_succ y k (by omega)
      have hd := dim_bd y k
      omega
    · obtain rfl : m = k := by omega
      rw [cum_succ y m hm]; omega
theorem numD_month (y m d r m' d' r' : Nat) (hm : 1 ≤ m) (hd2 : (d : Int) ≤ dim y m) (hr : r < 86400) (hd' : 1 ≤ d') (h : m < m') : numD y m d r < numD y m' d' r' := by
  have h1 := cum_mono y m m' hm h
  unfold numD; omega
theorem numD_day (y m d r d' r' : Nat) (hr : r < 86400) (h : d < d') : numD y m d r < numD y m d' r' := by
  unfold numD; omega
theorem numD_inj (l l' : List UInt8) (y m d r y' m' d' r' : Nat) (h : Fld l y m d r) (h' : Fld l' y' m' d' r') (e : numD y m d r = numD y' m' d' r') : y = y' ∧ m = m' ∧ d = d' ∧ r = r' := by
  obtain ⟨_, a1, a2, a3, a4, a5, a6⟩ := h
  obtain ⟨_, b1, b2, b3, b4, b5, b6⟩ := h'
  rcases Nat.lt_trichotomy y y' with hy | rfl | hy
  · have := numD_year y m d r y' m' d' r' a3 a2 a5 a6 b4 hy; omega
  · rcases Nat.lt_trichotomy m m' with hm | rfl | hm
    · have := numD_month y m d r m' d' r' a2 a5 a6 b4 hm; omega
    · rcases Nat.lt_trichotomy d d' with hd | rfl | hd
      · have := numD_day y m d r d' r' a6 hd; omega
      · exact ⟨rfl, rfl, rfl, by unfold numD at e; omega⟩
      · have := numD_day y m d' r' d r b6 hd; omega
    · have := numD_month y m' d' r' m d r b2 b5 b6 a4 hm; omega
  · have := numD_year y' m' d' r' y m d r b3 b2 b5 b6 a4 hy; omega

theorem digC_nat (n s : Nat) : (digC n s).toNat = 48 + n / 10 ^ s % 10 := by unfold digC; simp; omega
theorem digC_lt (n s n' s' : Nat) : (decide (digC n s < digC n' s')) = decide (n / 10 ^ s % 10 < n' / 10 ^ s' % 10) := by
  rw [Bool.eq_iff_iff]; simp only [decide_eq_true_eq, UInt8.lt_iff_toNat_lt, digC_nat]; omega
theorem digC_beq (n s n' s' : Nat) : (digC n s == digC n' s') = decide (n / 10 ^ s % 10 = n' / 10 ^ s' % 10) := by
  rw [Bool.eq_iff_iff]; simp only [beq_iff_eq, decide_eq_true_eq, ← UInt8.toNat_inj, digC_nat]; omega
theorem less_two (n n' : Nat) (s s' : List UInt8) (h : n ≤ 99) (h' : n' ≤ 99) : Op.bytesLess (digC n 1 :: digC n 0 :: s) (digC n' 1 :: digC n' 0 :: s') = (decide (n < n') || (decide (n = n') && Op.bytesLess s s')) := by
  simp only [Op.bytesLess, digC_lt, digC_beq]
  cases Op.bytesLess s s' <;> (rw [Bool.eq_iff_iff]; simp; omega)
theorem less_four (n n' : Nat) (s s' : List UInt8) (h : n ≤ 9999) (h' : n' ≤ 9999) : Op.bytesLess (digC n 3 :: digC n 2 :: digC n 1 :: digC n 0 :: s) (digC n' 3 :: digC n' 2 :: digC n' 1 :: digC n' 0 :: s') = (decide (n < n') || (decide (n = n') && Op.bytesLess s s')) := by
  simp only [Op.bytesLess, digC_lt, digC_beq]
  obtain ⟨a, ha⟩ : ∃ a, a = n / 10 ^ 3 % 10 := ⟨_, rfl⟩
  obtain ⟨b, hb⟩ : ∃ a, a = n / 10 ^ 2 % 10 := ⟨_, rfl⟩
  obtain ⟨c, hc⟩ : ∃ a, a = n / 10 ^ 1 % 10 := ⟨_, rfl⟩
  obtain ⟨d, hd⟩ : ∃ a, a = n / 10 ^ 0 % 10 := ⟨_, rfl⟩
  obtain ⟨a', ha'⟩ : ∃ a, a = n' / 10 ^ 3 % 10 := ⟨_, rfl⟩
  obtain ⟨b', hb'⟩ : ∃ a, a = n' / 10 ^ 2 % 10 := ⟨_, rfl⟩
  obtain ⟨c', hc'⟩ : ∃ a, a = n' / 10 ^ 1 % 10 := ⟨_, rfl⟩
  obtain ⟨d', hd'⟩ : ∃ a, a = n' / 10 ^ 0 % 10 := ⟨_, rfl⟩
  rw [← ha, ← hb, ← hc, ← hd, ← ha', ← hb', ← hc', ← hd']
  have e : n = 1000 * a + 100 * b + 10 * c + d := by simp at ha hb hc hd; omega
  have e' : n' = 1000 * a' + 100 * b' + 10 * c' + d' := by simp at ha' hb' hc' hd'; omega
  have l1 : a ≤ 9 ∧ b ≤ 9 ∧ c ≤ 9 ∧ d ≤ 9 := by omega
  have l2 : a' ≤ 9 ∧ b' ≤ 9 ∧ c' ≤ 9 ∧ d' ≤ 9 := by omega
  clear ha hb hc hd ha' hb' hc' hd' h h'
  subst e e'
  cases Op.bytesLess s s' <;> (rw [Bool.eq_iff_iff]; simp; omega)
theorem less_same (c : UInt8) (s s' : List UInt8) : Op.bytesLess (c :: s) (c :: s') = Op.bytesLess s s' := by simp [Op.bytesLess]
theorem less_fmt (l l' : List UInt8) (y m d r y' m' d' r' : Nat) (h : Fld l y m d r) (h' : Fld l' y' m' d' r') : Op.bytesLess l l' = decide (numD y m d r < numD y' m' d' r') := by
  have HH := h
  have HH' := h'
  obtain ⟨rfl, a1, a2, a3, a4, a5, a6⟩ := h
  obtain ⟨rfl, b1, b2, b3, b4, b5, b6⟩ := h'
  have da := dim_bd y m
  have db := dim_bd y' m'
  rw [fmtD_eq, fmtD_eq, less_four _ _ _ _ a1 b1, less_same, less_two _ _ _ _ (by omega) (by omega), less_same, less_two _ _ _ _ (by omega) (by omega), less_same,
    less_two _ _ _ _ (by omega) (by omega), less_same, less_two _ _ _ _ (by omega) (by omega), less_same, less_two _ _ _ _ (by omega) (by omega)]
  have hnil : Op.bytesLess [] [] = false := rfl
  rw [hnil]
  have ht : (decide (r / 3600 < r' / 3600) || (decide (r / 3600 = r' / 3600) && (decide (r / 60 % 60 < r' / 60 % 60) || (decide (r / 60 % 60 = r' / 60 % 60) && (decide (r % 60 < r' % 60) || (decide (r % 60 = r' % 60) && false)))))) = decide (r < r') := by
    rw [Bool.eq_iff_iff]; simp; omega
  rw [ht]
  rw [Bool.eq_iff_iff]
  simp only [Bool.or_eq_true, Bool.and_eq_true, decide_eq_true_eq]
  rcases Nat.lt_trichotomy y y' with hy | rfl | hy
  · have := numD_year y m d r y' m' d' r' a3 a2 a5 a6 b4 hy
    simp [this, hy]
  · rcases Nat.lt_trichotomy m m' with hm | rfl | hm
    · have := numD_month y m d r m' d' r' a2 a5 a6 b4 hm
      simp [this, hm]
    · rcases Nat.lt_trichotomy d d' with hd | rfl | hd
      · have := numD_day y m d r d' r' a6 hd
        simp [this, hd]
      · have : numD y m d r < numD y m d r' ↔ r < r' := by unfold numD; omega
        simp [this]
      · have := numD_day y m d' r' d r b6 hd
        have h2 : ¬ numD y m d r < numD y m d' r' := by omega
        simp [h2]; omega
    · have := numD_month y m' d' r' m d r b2 b5 b6 a4 hm
      have h2 : ¬ numD y m d r < numD y m' d' r' := by omega
      simp [h2]; omega
  · have := numD_year y' m' d' r' y m d r b3 b2 b5 b6 a4 hy
    have h2 : ¬ numD y m d r < numD y' m' d' r' := by omega
    simp [h2]; omega
theorem drop_fmt (y m d r : Nat) : (fmtD y m d r).drop 11 = [digC (r / 3600) 1, digC (r / 3600) 0, 58, digC (r / 60 % 60) 1, digC (r / 60 % 60) 0, 58, digC (r % 60) 1, digC (r % 60) 0] := rfl
end Go.Proofs.YtigopfeamjhdpaaDoor
namespace Go.Proofs.YtigopfeamjhdpaaDoor
open Go.RowKit
set_option linter.unusedSimpArgs false
set_option linter.unusedVariables false

/-- one value, three values in a row -/
def oneK (u : SV) : Nat → SV := fun _ => u
def threeK (u v z : SV) : Nat → SV
  | 0 => u
  | 1 => v
  | _ => z

/-- a value through blocks that are ok -/
def ValI (ok : Nat → Prop) (s : Sx) (w : World) (e : Ending) (w' : World) : Prop := ∃ v, e = .returned v.val ∧ RdI ok w' v s ∧ Below w.heap.size w w'
theorem rd_atomI_XCr1 {ok : Nat → Prop} {w : World} {a : Option Addr} {n c : Nat} {l : List UInt8} (h : Sl w a n c l) (hi : InB ok a n) : RdI ok w ⟨false, false, none, 0, 0, a, n, c, none, 0, 0⟩ (.mk false false [] l []) :=
  .mk _ [] l [] (fun _ => SV.nil) (Sl.nil w) (.inl rfl) h hi ⟨Nat.le_refl _, Nat.zero_le _, fun _ => rfl, .inl rfl⟩ (.inl rfl) rfl (fun i hi => by cases hi)
theorem OwnB_parts_XCr1 {w : World} {B : Nat} {v : Value} {l : List UInt8} (h : OwnB w B v l) : ∃ a n c, v = .slice a n c ∧ Sl w a n c l ∧ InB (fun k => B ≤ k) a n := by
  obtain ⟨a, c, rfl, hs⟩ := h.sl
  refine ⟨a, _, c, rfl, hs, ?_⟩
  cases a with
  | none => exact .inr fun b o s e => by cases e
  | some ad =>
    refine .inr fun b o s e => ?_
    cases e
    rcases h.2 with ⟨h1, _⟩ | ⟨g, o', cap, h1, h2, _⟩
    · cases h1
    · cases h1
      exact h2

set_option maxHeartbeats 2000000 in
set_option maxRecDepth 100000 in
theorem atomI_any (ok : Nat → Prop) (s : ByteArray) (hs : s.size ≤ 140737488355328) (w : World) (hok : ∀ b, w.heap.size ≤ b → ok b) : Calls Tryd.prog 20 #[.string s] w (ValI ok (.mk false false [] s.data.toList []) w) := by
  have hb0 : Below w.heap.size w (w.alloc (.cells SV.nil.cells 27)) := (Below.refl _ _).alloc (Nat.le_refl _) _
  have X0 := Box.new w 27 SV.nil.cells
  go_enter Tryd.func20, Tryd.ntmps20
  go_upto_region 1 with fail
  change Code.wp _ _ _ _ (w.alloc (.cells SV.nil.cells 27))
  generalize w.alloc (.cells SV.nil.cells 27) = v0 at *
  obtain ⟨v, v1, hr, ho, hb1⟩ := conv_own v0 s hs
  obtain ⟨a, c, rfl, hsl⟩ := ho.sl
  have hown : ∀ b o s, a = some ⟨b, o, s⟩ → v0.heap.size ≤ b := fun b o s e => by subst e; exact (ho.own b rfl).1
  have X1 := Lib.hid (X0.after hb1)
  have HS := Lib.hid hsl
  have hB1 := hb0.trans (hb1.mono hb0.size)
  have hz := X0.lt
  have hsz := hb0.size
  obtain ⟨n, hn⟩ : ∃ n, n = s.data.toList.length := ⟨_, rfl⟩
  rw [← hn] at hr HS
  have HOW := Lib.hid hown
  clear X0 ho hsl hb1 hb0 hn hown
  go_wp2_with (refine wpList_store_box (cells := (SV.mk false false none 0 0 a n c none 0 0).cells) rfl 27 _ _ rfl X1.out (by rfl) (by rfl) rfl (by kernel_rfl) (SV.one _) ?_; intro v2 X2 st2)
  have hB2 := st2.below w.heap.size w (Nat.le_refl _) hB1
  have hsl2 := HS.out.keep (w' := v2) (.inr fun b o s e => st2.other b (by have := HOW.out b o s e; omega))
  exact bodyPost_ret (v := (SV.mk false false none 0 0 a n c none 0 0).val) (box_result rfl _ _ (by rfl) X2 Tryd.underlying27 rfl (by kernel_rfl)) rfl ⟨_, rfl, rd_atomI_XCr1 hsl2 (.inr fun b o s e => hok b (by have := HOW.out b o s e; have := hsz; omega)), hB2⟩

set_option maxHeartbeats 2000000 in
set_option maxRecDepth 100000 in
theorem listI_any (ok : Nat → Prop) (a : Option Addr) (n c : Nat) (K : Nat → SV) (ks : List Sx) (w : World) (hr : RowAt w a n c K) (hn : n ≤ 1000) (hnk : n = ks.length) (hk : ∀ i (hi : i < ks.length), RdI ok w (K i) ks[i]) (hok : ∀ b, w.heap.size ≤ b → ok b) : Calls Tryd.prog 22 #[.slice a n c] w (ValI ok (.mk true false [] [] ks) w) := by
  have hb0 : Below w.heap.size w (w.alloc (.cells SV.nil.cells 27)) := (Below.refl _ _).alloc (Nat.le_refl _) _
  have X0 := Box.new w 27 SV.nil.cells
  have HR := Lib.hid hr
  have HK := Lib.hid hk
  have HN := Lib.hid hnk
  clear hr hk hnk
  go_enter Tryd.func22, Tryd.ntmps22
  go_upto_region 1 with fail
  change Code.wp _ _ _ _ (w.alloc (.cells SV.nil.cells 27))
  generalize w.alloc (.cells SV.nil.cells 27) = v0 at *
  go_wp2_with fail
  refine (cloneK_any a n c K v0 (HR.out.after hb0) hn).mono ?_
  rintro e v1 ⟨a', c', rfl, hrow, hin, hb1⟩
  have X1 := Lib.hid (X0.after hb1)
  have HS := Lib.hid hrow
  have HI := Lib.hid hin
  have hB1 := hb0.trans (hb1.mono hb0.size)
  have hz := X0.lt
  have hsz := hb0.size
  clear X0 hrow hin hb1 hb0
  go_wp2_with (refine wpList_store_box (cells := (SV.mk true false none 0 0 none 0 0 a' n c').cells) rfl 27 _ _ rfl X1.out (by rfl) (by rfl) rfl (by kernel_rfl) (SV.one _) ?_; intro v2 X2 st2)
  have hB2 := st2.below w.heap.size w (Nat.le_refl _) hB1
  have hrow2 := HS.out.keep (w' := v2) (HI.out.imp id fun h b o s e => st2.other b (by have := h b o s e; omega))
  exact bodyPost_ret (v := (SV.mk true false none 0 0 none 0 0 a' n c').val) (box_result rfl _ _ (by rfl) X2 Tryd.underlying27 rfl (by kernel_rfl)) rfl ⟨_, rfl, rd_list hrow2 (HI.out.imp id fun h b o s e => hok b (by have := h b o s e; have := hsz; omega)) HN.out (fun i hi => (HK.out i hi).after hB2), hB2⟩

theorem row_one (w : World) (u : SV) (T : TypeId) : RowAt (w.alloc (.cells #[.bool u.l, .bool u.h, .slice u.a1 u.n1 u.c1, .slice u.a2 u.n2 u.c2, .slice u.a3 u.n3 u.c3] T)) (some ⟨w.heap.size, 0, none⟩) 1 1 (oneK u) := by
  refine ⟨Nat.le_refl _, by unfold maxLen; omega, (fun h => by cases h), .inr ⟨_, 0, rfl, fun i hi j x hx => ?_⟩⟩
  have hb := Box.new w T #[.bool u.l, .bool u.h, .slice u.a1 u.n1 u.c1, .slice u.a2 u.n2 u.c2, .slice u.a3 u.n3 u.c3]
  rw [Nat.zero_add]
  have hj : j < 5 := by
    have := (Array.getElem?_eq_some_iff.1 hx).1
    rwa [SV.cells_size] at this
  refine hb.cell (i * 5 + j) ?_
  match i, hi, j, hj with
  | 0, _, 0, _ => exact hx
  | 0, _, 1, _ => exact hx
  | 0, _, 2, _ => exact hx
  | 0, _, 3, _ => exact hx
  | 0, _, 4, _ => exact hx
theorem row_three (w : World) (u v z : SV) (T : TypeId) : RowAt (w.alloc (.cells #[.bool u.l, .bool u.h, .slice u.a1 u.n1 u.c1, .slice u.a2 u.n2 u.c2, .slice u.a3 u.n3 u.c3, .bool v.l, .bool v.h, .slice v.a1 v.n1 v.c1, .slice v.a2 v.n2 v.c2, .slice v.a3 v.n3 v.c3, .bool z.l, .bool z.h, .slice z.a1 z.n1 z.c1, .slice z.a2 z.n2 z.c2, .slice z.a3 z.n3 z.c3] T)) (some ⟨w.heap.size, 0, none⟩) 3 3 (threeK u v z) := by
  refine ⟨Nat.le_refl _, by unfold maxLen; omega, (fun h => by cases h), .inr ⟨_, 0, rfl, fun i hi j x hx => ?_⟩⟩
  have hb := Box.new w T #[.bool u.l, .bool u.h, .slice u.a1 u.n1 u.c1, .slice u.a2 u.n2 u.c2, .slice u.a3 u.n3 u.c3, .bool v.l, .bool v.h, .slice v.a1 v.n1 v.c1, .slice v.a2 v.n2 v.c2, .slice v.a3 v.n3 v.c3, .bool z.l, .bool z.h, .slice z.a1 z.n1 z.c1, .slice z.a2 z.n2 z.c2, .slice z.a3 z.n3 z.c3]
  rw [Nat.zero_add]
  have hj : j < 5 := by
    have := (Array.getElem?_eq_some_iff.1 hx).1
    rwa [SV.cells_size] at this
  refine hb.cell (i * 5 + j) ?_
  match i, hi, j, hj with
  | 0, _, 0, _ => exact hx
  | 0, _, 1, _ => exact hx
  | 0, _, 2, _ => exact hx
  | 0, _, 3, _ => exact hx
  | 0, _, 4, _ => exact hx
  | 1, _, 0, _ => exact hx
  | 1, _, 1, _ => exact hx
  | 1, _, 2, _ => exact hx
  | 1, _, 3, _ => exact hx
  | 1, _, 4, _ => exact hx
  | 2, _, 0, _ => exact hx
  | 2, _, 1, _ => exact hx
  | 2, _, 2, _ => exact hx
  | 2, _, 3, _ => exact hx
  | 2, _, 4, _ => exact hx

/-- may a principal be? its tree -/
def keyMay (s : Bool) (n : Nat) : Bool := if s then n == 64 else n == 32
def keyS (s : Bool) (l : List UInt8) : Sx :=
  if s then .mk true false [] [] [(.mk false false [] [104, 97, 115, 104] []), (.mk false false [] [115, 104, 97, 53, 49, 50] []), .mk false false [] l []] else .mk true false [] [] [(.mk false false [] [112, 117, 98, 108, 105, 99, 45, 107, 101, 121] []), .mk true false [] [] [(.mk false false [] [101, 100, 50, 53, 53, 49, 57] []), .mk false false [] l []]]
def KeyP (s : Bool) (l : List UInt8) (w : World) (e : Ending) (w' : World) : Prop :=
  (keyMay s l.length = true ∧ ∃ v : SV, e = .returned (.tuple #[.agg #[.bool v.l, .bool v.h, .slice v.a1 v.n1 v.c1, .slice v.a2 v.n2 v.c2, .slice v.a3 v.n3 v.c3], .int .i64 0]) ∧ RdI (fun b => w.heap.size ≤ b) w' v (keyS s l) ∧ Below w.heap.size w w') ∨
  (keyMay s l.length = false ∧ e = .returned (.tuple #[.agg #[.bool false, .bool false, .slice none 0 0, .slice none 0 0, .slice none 0 0], .int .i64 7]) ∧ Below w.heap.size w w')

end Go.Proofs.YtigopfeamjhdpaaDoor
namespace Go.Proofs.YtigopfeamjhdpaaDoor
open Go.RowKit
set_option linter.unusedSimpArgs false
set_option linter.unusedVariables false

/-- may an end be? -/
def sideB (p : Bool) (n : Int) : Bool := if p then decide (0 ≤ n ∧ n < 315569520000) else decide (n = 0)
def winMay (p : Bool) (f : Int) (q : Bool) (t : Int) : Bool := sideB p f && sideB q t

set_option maxHeartbeats 4000000 in
set_option maxRecDepth 100000 in
theorem side_any (p : Bool) (n : Int) (w : World) : Calls Tryd.prog 23 #[.bool p, .int .i64 n] w fun e w' => e = .returned (.bool (sideB p n)) ∧ Below w.heap.size w w' := by
  by_cases hv : 0 ≤ n ∧ n < 315569520000
  · have hv2 := hv
    cases p with
    | true =>
      have hr : sideB true n = true := by unfold sideB; simp only [if_true]; exact decide_eq_true hv
      rw [hr]
      clear hr
      go_enter Tryd.func23, Tryd.ntmps23
      go_wp2_with fail
      refine (Put_yes n w hv.1 hv.2).mono ?_
      rintro e w1 ⟨y, m, d, r, rfl, h1, h2, h3, h4, h5, h6, h7, hb⟩
      generalize (⟨(fmtD y m d r).toArray⟩ : ByteArray) = txt
      clear h1 h2 h3 h4 h5 h6 h7
      go_wp2_with fail
      go_ret
      exact ⟨rfl, hb⟩
    | false =>
      by_cases hz : n = 0
      · subst hz
        have hr : sideB false 0 = true := rfl
        rw [hr]
        clear hr
        go_enter Tryd.func23, Tryd.ntmps23
        go_wp2_with fail
        refine (Put_yes 0 w (by omega) (by omega)).mono ?_
        rintro e w1 ⟨y, m, d, r, rfl, h1, h2, h3, h4, h5, h6, h7, hb⟩
        generalize (⟨(fmtD y m d r).toArray⟩ : ByteArray) = txt
        clear h1 h2 h3 h4 h5 h6 h7
        go_wp2_with fail
        go_ret
        exact ⟨rfl, hb⟩
      · have hr : sideB false n = false := by unfold sideB; simp [hz]
        have hq : (n == 0) = false := by simp [hz]
        rw [hr]
        clear hr
        go_enter Tryd.func23, Tryd.ntmps23
        go_wp2_with fail
        refine (Put_yes n w hv.1 hv.2).mono ?_
        rintro e w1 ⟨y, m, d, r, rfl, h1, h2, h3, h4, h5, h6, h7, hb⟩
        generalize (⟨(fmtD y m d r).toArray⟩ : ByteArray) = txt
        clear h1 h2 h3 h4 h5 h6 h7
        clear hv hz
        go_wp2_with fail
        go_ret
        exact ⟨rfl, hb⟩
  · skip
    cases p with
    | true =>
      have hr : sideB true n = false := by unfold sideB; simp only [if_true]; exact decide_eq_false hv
      rw [hr]
      clear hr
      go_enter Tryd.func23, Tryd.ntmps23
      go_wp2_with fail
      refine (Put_no n w (by omega)).mono ?_
      rintro e w1 ⟨rfl, rfl⟩

      go_wp2_with fail
      go_ret
      exact ⟨rfl, Below.refl _ _⟩
    | false =>
      by_cases hz : n = 0
      · omega
      · have hr : sideB false n = false := by unfold sideB; simp [hz]
        have hq : (n == 0) = false := by simp [hz]
        rw [hr]
        clear hr
        go_enter Tryd.func23, Tryd.ntmps23
        go_wp2_with fail
        refine (Put_no n w (by omega)).mono ?_
        rintro e w1 ⟨rfl, rfl⟩

        clear hv hz
        go_wp2_with fail
        go_ret
        exact ⟨rfl, Below.refl _ _⟩

set_option maxHeartbeats 4000000 in
set_option maxRecDepth 100000 in
theorem winMay_any (p : Bool) (f : Int) (q : Bool) (t : Int) (w : World) : Calls Tryd.prog 9 #[.agg #[.bool p, .int .i64 f, .bool q, .int .i64 t]] w fun e w' => e = .returned (.bool (winMay p f q t)) ∧ Below w.heap.size w w' := by
  have B0 : Below w.heap.size w (w.alloc (.cells #[.bool p, .int .i64 f, .bool q, .int .i64 t] 23)) := (Below.refl _ _).alloc (Nat.le_refl _) _
  have X0 := Box.new w 23 #[.bool p, .int .i64 f, .bool q, .int .i64 t]
  have C1 := Lib.hid (fun w' => side_any p f w')
  have C2 := Lib.hid (fun w' => side_any q t w')
  unfold winMay
  obtain ⟨r1, h1⟩ : ∃ r, r = sideB p f := ⟨_, rfl⟩
  obtain ⟨r2, h2⟩ : ∃ r, r = sideB q t := ⟨_, rfl⟩
  rw [← h1] at C1 ⊢
  rw [← h2] at C2 ⊢
  clear h1 h2
  go_enter Tryd.func9, Tryd.ntmps9
  go_upto_region 1 with fail
  change Code.wp _ _ _ _ (w.alloc (.cells #[.bool p, .int .i64 f, .bool q, .int .i64 t] 23))
  generalize w.alloc (.cells #[.bool p, .int .i64 f, .bool q, .int .i64 t] 23) = v0 at *
  have x0 := X0.cell 0 rfl
  have x1 := X0.cell 1 rfl
  have HX := Lib.hid X0
  clear X0
  go_wp2_with fail
  refine (C1.out v0).mono ?_
  rintro e w1 ⟨rfl, hb1⟩
  have B1 := B0.trans (hb1.mono B0.size)
  have x2 := (HX.out.after hb1).cell 2 rfl
  have x3 := (HX.out.after hb1).cell 3 rfl
  clear B0 hb1 HX x0 x1
  cases r1 with
  | false =>
    go_wp2_with fail
    go_ret
    exact ⟨rfl, B1⟩
  | true =>
    go_wp2_with fail
    refine (C2.out w1).mono ?_
    rintro e w2 ⟨rfl, hb2⟩
    have B2 := B1.trans (hb2.mono B1.size)
    clear B1 hb2 C1 C2 x2 x3
    go_wp2_with fail
    go_ret
    exact ⟨rfl, B2⟩

end Go.Proofs.YtigopfeamjhdpaaDoor
namespace Go.Proofs.YtigopfeamjhdpaaDoor
open Go.RowKit Go.ChangeShapes Go.WideShapes Go.ChangeAt
set_option linter.unusedSimpArgs false
set_option linter.unusedVariables false

/-- a slice's three parts -/
structure S3 where
  a : Option Addr
  n : Nat
  c : Nat
instance : Inhabited S3 := ⟨⟨none, 0, 0⟩⟩
def S3.val (x : S3) : Value := .slice x.a x.n x.c
/-- a row of slices of bytes reads as the lists -/
def RowS (w : World) (a : Option Addr) (n c : Nat) (Z : Nat → S3) (ls : List (List UInt8)) : Prop :=
  n ≤ c ∧ c ≤ maxLen ∧ (a = none → c = 0) ∧ n = ls.length ∧ (n = 0 ∨ ∃ b o, a = some ⟨b, o, none⟩ ∧ ∀ i, i < n → w.cell? ⟨b, o + i, none⟩ = some (Z i).val) ∧ ∀ i (h : i < ls.length), Sl w (Z i).a (Z i).n (Z i).c ls[i]
theorem RowS.lt {w : World} {a : Option Addr} {n c : Nat} {Z : Nat → S3} {ls : List (List UInt8)} (h : RowS w a n c Z ls) : n = 0 ∨ ∀ b o s, a = some ⟨b, o, s⟩ → b < w.heap.size := by
  by_cases h0 : n = 0
  · exact .inl h0
  · rcases h.2.2.2.2.1 with h4 | ⟨b, o, rfl, h4⟩
    · exact absurd h4 h0
    · refine .inr fun b' o' s e => ?_
      cases e
      exact cell_lt (h4 0 (by omega))
theorem RowS.after {w w' : World} {a : Option Addr} {n c : Nat} {Z : Nat → S3} {ls : List (List UInt8)} (h : RowS w a n c Z ls) (hb : Below w.heap.size w w') : RowS w' a n c Z ls := by
  have hlt := h.lt
  obtain ⟨h1, h2, h3, h4, h5, h6⟩ := h
  refine ⟨h1, h2, h3, h4, ?_, fun i hi => (h6 i hi).after hb⟩
  rcases h5 with h5 | ⟨b, o, rfl, h5⟩
  · exact .inl h5
  · rcases hlt with h0 | h0
    · exact .inl h0
    · exact .inr ⟨b, o, rfl, fun i hi => (World.cell?_of_block (a := ⟨b, o + i, none⟩) (hb.block b (h0 b o none rfl))).trans (h5 i hi)⟩

section
variable {H : Type} {enc : TypeId × Value → H} {W : World} {held : Bool}

end
end Go.Proofs.YtigopfeamjhdpaaDoor
namespace Go.Proofs.YtigopfeamjhdpaaDoor
open Go.RowKit
set_option linter.unusedSimpArgs false
set_option linter.unusedVariables false

/-- a value and what is told beside it -/
def PutQ (s : Sx) (x : Value) (w : World) (e : Ending) (w' : World) : Prop :=
  ∃ v : SV, e = .returned (.tuple #[.agg #[.bool v.l, .bool v.h, .slice v.a1 v.n1 v.c1, .slice v.a2 v.n2 v.c2, .slice v.a3 v.n3 v.c3], x]) ∧ RdI (fun b => w.heap.size ≤ b) w' v s ∧ Below w.heap.size w w'

set_option maxHeartbeats 4000000 in
set_option maxRecDepth 100000 in
theorem winPut0_any (w : World) : Calls Tryd.prog 7 #[.agg #[.bool false, .int .i64 0, .bool false, .int .i64 0]] w (PutQ (.mk true false [] [] [(.mk false false [] [118, 97, 108, 105, 100] [])]) (.int .i64 0) w) := by
  have B0 : Below w.heap.size w ((w.alloc (.cells #[.bool false, .int .i64 0, .bool false, .int .i64 0] 23)).alloc (.cells #[.bool false, .bool false, .slice none 0 0, .slice none 0 0, .slice none 0 0] 27)) := ((Below.refl _ _).alloc (Nat.le_refl _) _).alloc (by simp) _
  have K0 : Box ((w.alloc (.cells #[.bool false, .int .i64 0, .bool false, .int .i64 0] 23)).alloc (.cells #[.bool false, .bool false, .slice none 0 0, .slice none 0 0, .slice none 0 0] 27)) w.heap.size 23 #[.bool false, .int .i64 0, .bool false, .int .i64 0] := (Box.new _ _ _).alloc _
  have X0 : Box ((w.alloc (.cells #[.bool false, .int .i64 0, .bool false, .int .i64 0] 23)).alloc (.cells #[.bool false, .bool false, .slice none 0 0, .slice none 0 0, .slice none 0 0] 27)) (w.heap.size + 1) 27 #[.bool false, .bool false, .slice none 0 0, .slice none 0 0, .slice none 0 0] := by
    have := Box.new (w.alloc (.cells #[.bool false, .int .i64 0, .bool false, .int .i64 0] 23)) 27 #[.bool false, .bool false, .slice none 0 0, .slice none 0 0, .slice none 0 0]
    simpa using this
  have CM := Lib.hid (fun w' => winMay_any false 0 false 0 w')
  rw [show winMay false 0 false 0 = true from rfl] at CM
  go_enter Tryd.func7, Tryd.ntmps7
  go_upto_region 1 with fail
  change Code.wp _ _ _ _ ((w.alloc (.cells #[.bool false, .int .i64 0, .bool false, .int .i64 0] 23)).alloc (.cells #[.bool false, .bool false, .slice none 0 0, .slice none 0 0, .slice none 0 0] 27))
  replace K0 := Lib.hid K0
  replace X0 := Lib.hid X0
  generalize ((w.alloc (.cells #[.bool false, .int .i64 0, .bool false, .int .i64 0] 23)).alloc (.cells #[.bool false, .bool false, .slice none 0 0, .slice none 0 0, .slice none 0 0] 27)) = u0 at *
  go_wp2_with (refine wpList_load_box rfl 23 _ rfl K0.out (by rfl) Tryd.underlying23 rfl (by kernel_rfl) ?_)
  refine (CM.out _).mono ?_
  rintro e w1 ⟨rfl, hb1⟩
  have B1 := B0.trans (hb1.mono B0.size)
  have K1 := Lib.hid (K0.out.after hb1)
  have X1 := Lib.hid (X0.out.after hb1)
  clear K0 X0 hb1 B0 CM
  go_wp2_with fail
  refine (atomI_any (fun b => w.heap.size ≤ b ∧ b ≠ w.heap.size + 1) ⟨#[118, 97, 108, 105, 100]⟩ (by decide) w1 (fun b hb => by have := X1.out.lt; omega)).mono ?_
  rintro e w2 ⟨⟨vl, vh, a1, n1, c1, a2, n2, c2, a3, n3, c3⟩, rfl, r2, hb2⟩
  unfold SV.val
  have B2 := B1.trans (hb2.mono B1.size)
  have X2 := Lib.hid (X1.out.after hb2)
  have R2 := Lib.hid r2
  have a2' : Below w2.heap.size w2 (w2.alloc (.cells #[.bool vl, .bool vh, .slice a1 n1 c1, .slice a2 n2 c2, .slice a3 n3 c3] 27)) := (Below.refl _ _).alloc (Nat.le_refl _) _
  have row2 := Lib.hid (row_one w2 ⟨vl, vh, a1, n1, c1, a2, n2, c2, a3, n3, c3⟩ 27)
  have B3 := B2.trans (a2'.mono B2.size)
  have X3 := Lib.hid (X2.out.after a2')
  have R3 := Lib.hid (R2.out.after a2')
  have K3 := Lib.hid ((K1.out.after hb2).after a2')
  clear K1 X1 X2 R2 r2 hb2 a2' B1 B2
  go_upto_region 4 with fail
  generalize w2.alloc (.cells #[.bool vl, .bool vh, .slice a1 n1 c1, .slice a2 n2 c2, .slice a3 n3 c3] 27) = w3 at *
  have k0 := K3.out.cell 0 rfl
  have k2 := K3.out.cell 2 rfl
  clear K3
  go_wp2_with fail
  refine (listI_any (fun b => w.heap.size ≤ b ∧ b ≠ w.heap.size + 1) _ 1 1 _ [(.mk false false [] [118, 97, 108, 105, 100] [])] w3 row2.out (by omega) rfl (fun i hi => match i, hi with | 0, _ => R3.out) (fun b hb => by have := X3.out.lt; omega)).mono ?_
  rintro e w4 ⟨⟨ul, uh, b1, m1, d1, b2, m2, d2, b3, m3, d3⟩, rfl, r4, hb4⟩
  unfold SV.val
  have B4 := B3.trans (hb4.mono B3.size)
  have X4 := Lib.hid (X3.out.after hb4)
  have R4 := Lib.hid r4
  clear k0 k2 row2 R3 X3 B3 hb4 r4
  go_wp2_with (refine wpList_store_box (cells := #[.bool ul, .bool uh, .slice b1 m1 d1, .slice b2 m2 d2, .slice b3 m3 d3]) rfl 27 _ _ rfl X4.out (by rfl) (by rfl) rfl (by kernel_rfl) (by simp [Value.oneCell']) ?_; intro u9 X9 st9)
  have B9 := st9.below w.heap.size w (by omega) B4
  have R9 := (R4.out.keep (w' := u9) (fun b hb => st9.other b hb.2)).mono (ok' := fun b => w.heap.size ≤ b) (fun _ h => h.1)
  exact bodyPost_ret (v := .tuple #[.agg #[.bool ul, .bool uh, .slice b1 m1 d1, .slice b2 m2 d2, .slice b3 m3 d3], .int .i64 0]) (box_result2 (p := 2) (q := 3) rfl _ _ (by rfl) X9 Tryd.underlying27 rfl (by kernel_rfl)) rfl ⟨⟨ul, uh, b1, m1, d1, b2, m2, d2, b3, m3, d3⟩, rfl, R9, B9⟩

end Go.Proofs.YtigopfeamjhdpaaDoor
namespace Go.Proofs.YtigopfeamjhdpaaDoor
open Go.RowKit
set_option linter.unusedSimpArgs false
set_option linter.unusedVariables false

theorem Box.mid {w : World} {g : Nat} {T : TypeId} {cells : Array Value} (h : Box w g T cells) (o : Nat) (cs : List Value) (hh : ∀ j v, cs[j]? = some v → cells[o + j]? = some v) : w.rangeAt g o cs := fun j v hv => h.cell (o + j) (hh j v hv)
theorem mid2 {cells : Array Value} {o : Nat} {x y : Value} (h0 : cells[o]? = some x) (h1 : cells[o + 1]? = some y) : ∀ j v, [x, y][j]? = some v → cells[o + j]? = some v := by
  intro j v hv
  match j, hv with
  | 0, hv => cases hv; exact h0
  | 1, hv => cases hv; exact h1
theorem mid4 {cells : Array Value} {o : Nat} {x y z u : Value} (h0 : cells[o]? = some x) (h1 : cells[o + 1]? = some y) (h2 : cells[o + 2]? = some z) (h3 : cells[o + 3]? = some u) : ∀ j v, [x, y, z, u][j]? = some v → cells[o + j]? = some v := by
  intro j v hv
  match j, hv with
  | 0, hv => cases hv; exact h0
  | 1, hv => cases hv; exact h1
  | 2, hv => cases hv; exact h2
  | 3, hv => cases hv; exact h3
section
variable {P : Program} {md : Region.Mode} {ops : Array Oper} {Q : Exit → Act → World → Prop} {S : World → Prop}
/-- two that may come up, neither writes -/
theorem wpW_two (i j : Nat) {ws : List Nat} {oi oj : Oper} {tl tl' : List Oper} {fuel : Nat} {listed : Array Bool} {a : Act} {w : World} (hi : ops.toList.drop i = oi :: tl) (hj : ops.toList.drop j = oj :: tl') (hr : Region.ready md ops listed = [i, j])
    (hw : ws.contains i = false) (hw' : ws.contains j = false) (hgd : Region.wanted oi (yielded ops a.tmps) = true) (hgd' : Region.wanted oj (yielded ops a.tmps) = true)
    (h : ∀ w1, Below w.heap.size w w1 → S w1 → oi.wp P a w1 (fun a' w' => S w' ∧ wpW P md ops Q S ws fuel (listed.setIfInBounds i true) a' w') Q)
    (h' : ∀ w1, Below w.heap.size w w1 → S w1 → oj.wp P a w1 (fun a' w' => S w' ∧ wpW P md ops Q S ws fuel (listed.setIfInBounds j true) a' w') Q) : wpW P md ops Q S ws (fuel + 1) listed a w :=
  fun w1 b1 s1 => ⟨fun h0 => (by rw [hr] at h0; cases h0), fun k hk => by
    rw [hr] at hk
    rcases List.mem_cons.1 hk with rfl | hk
    · exact wpOp_step (op_of_drop hi) (fun K' hK => by
        rw [if_pos hgd]
        refine Oper.wp_mono (fun a' w' h' => hK a' w' ?_) (h w1 b1 s1)
        rw [if_neg (by rw [hw]; simp)]
        exact h')
    · obtain rfl : k = j := by simpa using hk
      exact wpOp_step (op_of_drop hj) (fun K' hK => by
        rw [if_pos hgd']
        refine Oper.wp_mono (fun a' w' h' => hK a' w' ?_) (h' w1 b1 s1)
        rw [if_neg (by rw [hw']; simp)]
        exact h')⟩
end
/-- the tree of a list without sums and window -/
def crl0S (l : List UInt8) : Sx := .mk true false [] [] [(.mk false false [] [99, 114, 108] []), .mk true false [] [] [(.mk false false [] [105, 115, 115, 117, 101, 114] []), keyS false l], .mk true false [] [] [(.mk false false [] [99, 97, 110, 99, 101, 108, 101, 100] [])]]
theorem crl0_may : (crl0S (List.replicate 32 0)).may = true := by
  have hf : (crl0S (List.replicate 32 0)).form.length ≤ 4096 := by
    unfold crl0S keyS
    have n1 := numL_len 10 (by omega)
    have n2 := numL_len 32 (by omega)
    simp [form_def, Sx.formL, textL, numL_small]
    generalize (numL 10).length = x1 at *
    generalize (numL 32).length = x2 at *
    omega
  have h1 : (crl0S (List.replicate 32 0)).clean = true := by decide
  have h2 : (crl0S (List.replicate 32 0)).nodes ≤ 512 := by decide
  have h3 : (crl0S (List.replicate 32 0)).deep ≤ 16 := by decide
  unfold Sx.may
  rw [h1, decide_eq_true hf, decide_eq_true h2, decide_eq_true h3]
  rfl
theorem crl0_wide : (crl0S (List.replicate 32 0)).wide 0 = false := by decide

end Go.Proofs.YtigopfeamjhdpaaDoor

/- Dates: what the small functions compute. date.put, date.Put: what they compute. -/
import Derived.Test.YticjhogofoffmaaDoorCrG4
import Derived.Deep.QuietTactic
import Derived.BigQuiet
import Derived.WalkLawsBesides
import Derived.WalkSmall
namespace Go.Proofs.YticjhogofoffmaaDoor
open Go.RowKit

theorem Sl_some_XDate1 {w : World} {a : Option Addr} {len cap : Nat} {l : List UInt8} (h : Sl w a len cap l) (hl : 0 < len) : ∃ b o, a = Option.some ⟨b, o, none⟩ ∧ (∀ i, i < len → w.cell? ⟨b, o + i, none⟩ = Option.some (.int .u8 ((l.getD i 0).toNat : Int))) ∧ b < w.heap.size := by
  have hlt := h.lt
  rcases h.2.2.2.2 with h4 | ⟨b, o, rfl, h4⟩
  · omega
  · exact ⟨b, o, rfl, h4, hlt b o (by omega) rfl⟩
theorem Sl.len_le {w : World} {a : Option Addr} {len cap : Nat} {l : List UInt8} (h : Sl w a len cap l) : l.length ≤ 9223372036854775807 := by
  have h1 := h.1
  have h2 := h.2.1
  have h3 := h.2.2.1
  unfold maxLen at h3
  omega
theorem Sl.sub {w : World} {b o len cap : Nat} {l : List UInt8} (h : Sl w (Option.some ⟨b, o, none⟩) len cap l) (i j : Nat) (hij : i ≤ j) (hj : j ≤ len) :
    Sl w (Option.some ⟨b, o + i, none⟩) (j - i) (cap - i) ((l.drop i).take (j - i)) := by
  obtain ⟨h1, h2, h3, h5, h4⟩ := h
  refine ⟨by simp; omega, by omega, by omega, (fun h => by cases h), ?_⟩
  by_cases h0 : j - i = 0
  · exact .inl h0
  · right
    rcases h4 with h4 | ⟨b', o', e, h4⟩
    · omega
    · obtain ⟨rfl, rfl⟩ : b = b' ∧ o = o' := by simpa using e
      refine ⟨b, o + i, rfl, fun k hk => ?_⟩
      rw [Nat.add_assoc, h4 (i + k) (by omega)]
      simp [List.getD_eq_getElem?_getD, hk]

set_option maxHeartbeats 1000000 in
theorem digits_any (a : Option Addr) (len cap : Nat) (l : List UInt8) (w : World) (hs : Sl w a len cap l) (hd : ∀ c ∈ l, isD_XDateMath c = true) (hl : l.length ≤ 4) :
    Calls Tryd.prog 59 #[.slice a len cap] w fun e w' => e = .returned (.int .i64 (digN l : Nat)) ∧ w' = w := by
  have HS := Lib.hid hs
  have HD := Lib.hid hd
  have HL := Lib.hid hs.1
  have hl' : len ≤ 4 := by have := hs.1; omega
  clear hs hd
  go_enter Tryd.func59, Tryd.ntmps59
  go_wp2_with fail
  go_loop [3, 8] (fun n i => ∃ k x : Nat, k ≤ len ∧ i = .int .i64 k ∧ n = .int .i64 x ∧ x < 10 ^ k ∧ Hid (x = digN (l.take k))) (fun _ i => len - (intOf i).toNat)
  case atStart => exact ⟨0, 0, Nat.zero_le _, rfl, rfl, by simp, Lib.hid rfl⟩
  case round =>
    obtain ⟨k, x, hk, rfl, rfl, hx, HX⟩ := hrel
    by_cases hlt : k < len
    · obtain ⟨b, o, rfl, hcc, _⟩ := HS.out.some (by omega)
      have c0 := hcc k hlt
      obtain ⟨c, hcE⟩ : ∃ c, c = l.getD k 0 := ⟨_, rfl⟩
      rw [← hcE] at c0
      have hkl : k < l.length := by have := HL.out; omega
      have hdc := (isD_iff c).1 (HD.out c (by rw [hcE]; simp [List.getD_eq_getElem?_getD, hkl]))
      obtain ⟨d1, d2⟩ := hdc
      have hxb : x < 10000 := Nat.lt_of_lt_of_le hx (Nat.pow_le_pow_right (n := 10) (by omega) (show k ≤ 4 by omega))
      have HT := Lib.hid (show digN (l.take (k + 1)) = 10 * x + (c.toNat - 48) by
        rw [List.take_succ_eq_append_getElem hkl, digN_snoc, HX.out, hcE]; simp [List.getD_eq_getElem?_getD, hkl, dg])
      have hp : 10 ^ (k + 1) = 10 * 10 ^ k := by rw [Nat.pow_succ]; omega
      have HP := Lib.hid hp
      clear hcc hcE hp
      go_wp2_with fail
      go_round
      case rel => exact ⟨k + 1, 10 * x + (c.toNat - 48), by omega, by go_num, by go_num, by rw [HP.out]; omega, Lib.hid HT.out.symm⟩
      case measure => simp [intOf]; omega
    · obtain rfl : k = len := by omega
      have HE := Lib.hid (show digN l = x by rw [HX.out, List.take_of_length_le (by have := HL.out; omega)])
      go_wp2_with fail
      go_ret
      exact ⟨by rw [HE.out]; rfl, rfl⟩

set_option maxHeartbeats 1000000 in
theorem fits_any (a : Option Addr) (len cap : Nat) (l : List UInt8) (form : ByteArray) (w : World) (hs : Sl w a len cap l) (hf : ∀ k (h : k < form.size), (form[k]'h).toNat < 128) (hf2 : form.size ≤ 100) (hl : l.length ≤ 9223372036854775807) :
    Calls Tryd.prog 57 #[.slice a len cap, .string form] w fun e w' => e = .returned (.bool (fitsL l form.data.toList)) ∧ Below w.heap.size w w' := by
  have HS := Lib.hid hs
  have HL := Lib.hid hs.1
  have hl' : len ≤ 9223372036854775807 := by have := hs.1; omega
  obtain ⟨R, hR⟩ : ∃ R, R = fitsL l form.data.toList := ⟨_, rfl⟩
  rw [← hR]
  have HR := Lib.hid hR
  have HF := Lib.hid hf
  clear hs hR hf
  by_cases hne : len = form.size
  · subst hne
    have hb : ((form.size : Int) != (form.size : Int)) = false := by simp
    go_enter Tryd.func57, Tryd.ntmps57
    go_wp2_with fail
    go_loopw [5, 6] (fun _ _ wr => ∃ k : Nat, k ≤ form.size ∧ w.iter form k = wr ∧ Hid (R = fitsL (l.drop k) (form.data.toList.drop k))) (fun _ _ wr => form.size - wr.iterPos w.heap.size)
    case atStart => exact ⟨0, Nat.zero_le _, rfl, Lib.hid (by rw [HR.out]; rfl)⟩
    case round =>
      obtain ⟨k, hk, rfl, HX⟩ := hrel
      have hW : Below w.heap.size w (w.iter form k) := (Below.refl _ _).alloc (Nat.le_refl _) _
      have hW1 : Below w.heap.size w (w.iter form (k + 1)) := (Below.refl _ _).alloc (Nat.le_refl _) _
      have hpos : ∀ j, (w.iter form j).iterPos w.heap.size = j := fun j => iterPos_of (World.iter_heap w form j)
      by_cases hlt : k < form.size
      · have hnx := fun ty => run_next_ascii (P := Tryd.prog) w form k ty hlt (HF.out k hlt)
        obtain ⟨f, hfE⟩ : ∃ f, f = form[k]'hlt := ⟨_, rfl⟩
        rw [← hfE] at hnx
        have hfb := f.toNat_lt
        obtain ⟨b, o, rfl, hcc, hbw⟩ := HS.out.some (by omega)
        obtain ⟨c, hcE⟩ : ∃ c, c = l.getD k 0 := ⟨_, rfl⟩
        have c0 : (w.iter form k).cell? ⟨b, o + k, none⟩ = some (.int .u8 (c.toNat : Int)) := by rw [hW.cell hbw, hcE]; exact hcc k hlt
        have c1 : (w.iter form (k + 1)).cell? ⟨b, o + k, none⟩ = some (.int .u8 (c.toNat : Int)) := by rw [hW1.cell hbw, hcE]; exact hcc k hlt
        have hcb := c.toNat_lt
        have HD := Lib.hid (show R = (fitsC c f && fitsL (l.drop (k + 1)) (form.data.toList.drop (k + 1))) by
          rw [HX.out, fitsL_drop l form.data.toList k (by have := HL.out; omega) (by simpa using hlt), hcE, hfE]
          congr 2
          simp [List.getD_eq_getElem?_getD, hlt]; rfl)
        clear hcc hcE hfE HX c0
        by_cases h48 : f.toNat = 48
        · have hf48 : f = 48 := UInt8.toNat_inj.1 (by simpa using h48)
          subst hf48
          by_cases h1 : c.toNat < 48
          · have HE := Lib.hid (show R = false by rw [HD.out]; simp [fitsC, isD_XDateMath]; intros; omega)
            replace h1 : (c.toNat : Int) < 48 := by omega
            go_wp2_with fail
            go_ret
            exact ⟨by rw [HE.out]; rfl, (Below.refl _ _).alloc (Nat.le_refl _) _⟩
          · by_cases h2 : 57 < c.toNat
            · have HE := Lib.hid (show R = false by rw [HD.out]; simp [fitsC, isD_XDateMath]; intros; omega)
              replace h1 : (48 : Int) ≤ (c.toNat : Int) := by omega
              replace h2 : (57 : Int) < (c.toNat : Int) := by omega
              go_wp2_with fail
              go_ret
              exact ⟨by rw [HE.out]; rfl, (Below.refl _ _).alloc (Nat.le_refl _) _⟩
            · have HE := Lib.hid (show R = fitsL (l.drop (k + 1)) (form.data.toList.drop (k + 1)) by rw [HD.out]; simp [fitsC, isD_XDateMath, show 48 ≤ c.toNat by omega, show c.toNat ≤ 57 by omega])
              replace h1 : (48 : Int) ≤ (c.toNat : Int) := by omega
              replace h2 : (c.toNat : Int) ≤ 57 := by omega
              go_wp2_with fail
              go_roundw
              case rel => exact ⟨k + 1, by omega, rfl, HE⟩
              case measure => rw [hpos, hpos]; omega
        · have q1 : ((f.toNat : Int) == 48) = false := by rw [beq_eq_false_iff_ne]; omega
          have q2 : ((f.toNat : Int) != 48) = true := by rw [bne_iff_ne]; omega
          have hfne : f ≠ 48 := by intro h; apply h48; rw [h]; rfl
          by_cases h1 : c.toNat = f.toNat
          · have HE := Lib.hid (show R = fitsL (l.drop (k + 1)) (form.data.toList.drop (k + 1)) by rw [HD.out]; simp [fitsC, hfne, UInt8.toNat_inj.1 h1])
            have q3 : ((c.toNat : Int) != (f.toNat : Int)) = false := by rw [bne_eq_false_iff_eq]; omega
            clear h1
            go_wp2_with fail
            go_roundw
            case rel => exact ⟨k + 1, by omega, rfl, HE⟩
            case measure => rw [hpos, hpos]; omega
          · have HE := Lib.hid (show R = false by rw [HD.out]; simp [fitsC, hfne]; intro h; exact absurd (congrArg UInt8.toNat h) h1)
            have q3 : ((c.toNat : Int) != (f.toNat : Int)) = true := by rw [bne_iff_ne]; omega
            go_wp2_with fail
            go_ret
            exact ⟨by rw [HE.out]; rfl, (Below.refl _ _).alloc (Nat.le_refl _) _⟩
      · obtain rfl : k = form.size := by omega
        have HE := Lib.hid (show R = true by rw [HX.out, List.drop_of_length_le (by rw [← HL.out]; exact Nat.le_refl _), List.drop_of_length_le (by simp)]; rfl)
        have hnx := fun ty => run_next_end (P := Tryd.prog) w form form.size ty hlt
        clear HX
        go_wp2_with fail
        go_ret
        exact ⟨by rw [HE.out]; rfl, (Below.refl _ _).alloc (Nat.le_refl _) _⟩
  · have HE := Lib.hid (show R = false by rw [HR.out]; exact fitsL_len _ _ (by have := HL.out; simp; omega))
    have hb : ((len : Int) != (form.size : Int)) = true := by rw [bne_iff_ne]; omega
    go_enter Tryd.func57, Tryd.ntmps57
    go_wp2_with fail
    go_ret
    exact ⟨by rw [HE.out]; rfl, Below.refl _ _⟩

set_option maxHeartbeats 1000000 in
theorem long_any (y : Int) (w : World) (h0 : 0 ≤ y) : Calls Tryd.prog 67 #[.int .i64 y] w fun e w' => e = .returned (.bool (lpB y)) ∧ w' = w := by
  obtain ⟨R, hR⟩ : ∃ R, R = lpB y := ⟨_, rfl⟩
  rw [← hR]
  have HR := Lib.hid hR
  clear hR
  by_cases h4 : y % 4 = 0
  · have q4 : (y % 4 == 0) = true := by simpa using h4
    by_cases h100 : y % 100 = 0
    · have q100 : (y % 100 != 0) = false := by simpa using h100
      by_cases h400 : y % 400 = 0
      · have HE := Lib.hid (show R = true by rw [HR.out, lpB]; simp [h4, h400])
        have q400 : (y % 400 == 0) = true := by simpa using h400
        clear h4 h100 h400
        go_enter Tryd.func67, Tryd.ntmps67
        go_wp2_with fail
        go_ret
        exact ⟨by rw [HE.out]; rfl, rfl⟩
      · have HE := Lib.hid (show R = false by rw [HR.out, lpB]; simp [h100, h400])
        have q400 : (y % 400 == 0) = false := by simpa using h400
        clear h4 h100 h400
        go_enter Tryd.func67, Tryd.ntmps67
        go_wp2_with fail
        go_ret
        exact ⟨by rw [HE.out]; rfl, rfl⟩
    · have HE := Lib.hid (show R = true by rw [HR.out, lpB]; simp [h4, h100])
      have q100 : (y % 100 != 0) = true := by simpa using h100
      clear h4 h100
      go_enter Tryd.func67, Tryd.ntmps67
      go_wp2_with fail
      go_ret
      exact ⟨by rw [HE.out]; rfl, rfl⟩
  · have HE := Lib.hid (show R = false by rw [HR.out, lpB]; simp [h4])
    have q4 : (y % 4 == 0) = false := by simpa using h4
    clear h4
    go_enter Tryd.func67, Tryd.ntmps67
    go_wp2_with fail
    go_ret
    exact ⟨by rw [HE.out]; rfl, rfl⟩

set_option maxHeartbeats 1000000 in
theorem days_any (y m : Int) (w : World) (h0 : 0 ≤ y) : Calls Tryd.prog 60 #[.int .i64 y, .int .i64 m] w fun e w' => e = .returned (.int .i64 (dim y m)) ∧ w' = w := by
  obtain ⟨R, hR⟩ : ∃ R, R = dim y m := ⟨_, rfl⟩
  rw [← hR]
  have HR := Lib.hid hR
  clear hR
  have hcase : m = 2 ∨ (m = 4 ∨ m = 6 ∨ m = 9 ∨ m = 11) ∨ (m ≠ 2 ∧ m ≠ 4 ∧ m ≠ 6 ∧ m ≠ 9 ∧ m ≠ 11) := by omega
  rcases hcase with rfl | hm | ⟨m2, m4, m6, m9, m11⟩
  · cases hl : lpB y with
    | true =>
      have HE := Lib.hid (show R = 29 by rw [HR.out]; simp [dim, lp, hl])
      go_enter Tryd.func60, Tryd.ntmps60
      go_wp2_with fail
      refine (long_any y _ h0).mono ?_
      rintro e w1 ⟨rfl, rfl⟩
      go_wp2_with fail
      go_ret
      exact ⟨by rw [HE.out]; rfl, rfl⟩
    | false =>
      have HE := Lib.hid (show R = 28 by rw [HR.out]; simp [dim, lp, hl])
      go_enter Tryd.func60, Tryd.ntmps60
      go_wp2_with fail
      refine (long_any y _ h0).mono ?_
      rintro e w1 ⟨rfl, rfl⟩
      go_wp2_with fail
      go_ret
      exact ⟨by rw [HE.out]; rfl, rfl⟩
  · rcases hm with rfl | rfl | rfl | rfl
    · have HE := Lib.hid (show R = 30 by rw [HR.out]; rfl)
      go_enter Tryd.func60, Tryd.ntmps60
      go_wp2_with fail
      go_ret
      exact ⟨by rw [HE.out]; rfl, rfl⟩
    · have HE := Lib.hid (show R = 30 by rw [HR.out]; rfl)
      go_enter Tryd.func60, Tryd.ntmps60
      go_wp2_with fail
      go_ret
      exact ⟨by rw [HE.out]; rfl, rfl⟩
    · have HE := Lib.hid (show R = 30 by rw [HR.out]; rfl)
      go_enter Tryd.func60, Tryd.ntmps60
      go_wp2_with fail
      go_ret
      exact ⟨by rw [HE.out]; rfl, rfl⟩
    · have HE := Lib.hid (show R = 30 by rw [HR.out]; rfl)
      go_enter Tryd.func60, Tryd.ntmps60
      go_wp2_with fail
      go_ret
      exact ⟨by rw [HE.out]; rfl, rfl⟩
  · have HE := Lib.hid (show R = 31 by rw [HR.out]; simp [dim, m2, m4, m6, m9, m11])
    have q2 : (m == 2) = false := by simpa using m2
    have q4 : (m == 4) = false := by simpa using m4
    have q6 : (m == 6) = false := by simpa using m6
    have q9 : (m == 9) = false := by simpa using m9
    have q11 : (m == 11) = false := by simpa using m11
    clear m2 m4 m6 m9 m11
    go_enter Tryd.func60, Tryd.ntmps60
    go_wp2_with fail
    go_ret
    exact ⟨by rw [HE.out]; rfl, rfl⟩

set_option maxHeartbeats 1000000 in
theorem ahead_any (y : Int) (w : World) (h0 : 0 ≤ y) (h1 : y ≤ 100000) : Calls Tryd.prog 61 #[.int .i64 y] w fun e w' => e = .returned (.int .i64 (dby y)) ∧ w' = w := by
  obtain ⟨R, hR⟩ : ∃ R, R = dby y := ⟨_, rfl⟩
  rw [← hR]
  have HR := Lib.hid hR
  clear hR
  by_cases hp : 0 < y
  · have HE := Lib.hid (show R = y * 365 + ((y - 1) / 4 - (y - 1) / 100 + (y - 1) / 400 + 1) by rw [HR.out, dby_pos])
    go_enter Tryd.func61, Tryd.ntmps61
    go_wp2_with fail
    go_ret
    exact ⟨by rw [HE.out]; rfl, rfl⟩
  · obtain rfl : y = 0 := by omega
    have HE := Lib.hid (show R = 0 by rw [HR.out, dby_zero])
    go_enter Tryd.func61, Tryd.ntmps61
    go_wp2_with fail
    go_ret
    exact ⟨by rw [HE.out]; rfl, rfl⟩
end Go.Proofs.YticjhogofoffmaaDoor
namespace Go.Proofs.YticjhogofoffmaaDoor
open Go.RowKit

def digC (n s : Nat) : UInt8 := UInt8.ofNat (48 + n / 10 ^ s % 10)
def decTo (n w k : Nat) : List UInt8 := (List.range k).map fun i => digC n (w - 1 - i)
theorem decTo_succ (n w k : Nat) : decTo n w (k + 1) = decTo n w k ++ [digC n (w - 1 - k)] := by simp [decTo, List.range_succ]
theorem decTo_len (n w k : Nat) : (decTo n w k).length = k := by simp [decTo]
theorem strCells_eq (s : ByteArray) : Lib.strCells s = Lib.byteCells s.data.toList := by simp [Lib.strCells, Lib.byteCells]

set_option maxHeartbeats 2000000 in
theorem put_any (B b : Nat) (d : List UInt8) (n w : Nat) (sign : ByteArray) (wd : World) (hB : Lib.IsBuilder 98 5 B b (Lib.byteCells d) wd) (hBw : B ≤ wd.heap.size) (hw : w ≤ 4) (hn : n ≤ 1000000) (hd : d.length ≤ 1000) (hs : sign.size ≤ 10) :
    Calls Tryd.prog 70 #[.pointer (some ⟨b, 0, none⟩), .int .i64 n, .int .i64 w, .string sign] wd fun e w' => e = .returned (.tuple #[]) ∧ Lib.IsBuilder 98 5 B b (Lib.byteCells (d ++ decTo n w w ++ sign.data.toList)) w' ∧ Below B wd w' := by
  go_enter Tryd.func70, Tryd.ntmps70
  go_wp2_with fail
  go_loopw [8] (fun s wr => ∃ k : Nat, k ≤ w ∧ s = .int .i64 ((w : Int) - 1 - (k : Int)) ∧ Lib.IsBuilder 98 5 B b (Lib.byteCells (d ++ decTo n w k)) wr ∧ Below B wd wr) (fun s _ => (intOf s + 1).toNat)
  case atStart => exact ⟨0, Nat.zero_le _, by go_num, by simpa [decTo] using hB, Below.refl _ _⟩
  case round =>
    obtain ⟨wa, rfl⟩ : ∃ wa : World, wa = wr := ⟨_, rfl⟩
    obtain ⟨k, hk, rfl, hB1, hW⟩ := hrel
    by_cases hlt : k < w
    · obtain ⟨s, hsE⟩ : ∃ s, s = w - 1 - k := ⟨_, rfl⟩
      have es : (w : Int) - 1 - (k : Int) = (s : Int) := by omega
      have hs3 : s ≤ 3 := by omega
      have HS := Lib.hid hsE
      rw [es]
      clear hsE
      go_wp2_with fail
      go_loopw [9, 18] (fun x c wq => ∃ j y : Nat, j ≤ s ∧ c = .int .i64 j ∧ x = .int .i64 y ∧ y ≤ 1000000 ∧ Hid (y = n / 10 ^ j) ∧ wa = wq) (fun _ c _ => s - (intOf c).toNat)
      case atStart => exact ⟨0, n, Nat.zero_le _, rfl, rfl, hn, Lib.hid (by simp), rfl⟩
      case round =>
        obtain ⟨j, y, hj, rfl, rfl, hy, HY, rfl⟩ := hrel
        by_cases hjs : j < s
        · go_wp2_with fail
          go_roundw
          case rel => exact ⟨j + 1, y / 10, by omega, by go_num, by go_num, by omega, Lib.hid (by rw [HY.out, Nat.pow_succ, Nat.div_div_eq_div_mul]), trivial⟩
          case measure => simp [intOf]; omega
        · obtain rfl : j = s := by omega
          obtain ⟨z, hz⟩ : ∃ z, z = y % 10 := ⟨_, rfl⟩
          have hz9 : z ≤ 9 := by omega
          have e1 : (y : Int) % 10 = (z : Int) := by omega
          have HD := Lib.hid (show digC n j = UInt8.ofNat (48 + z) by rw [digC, hz, HY.out])
          have HC := Lib.hid (show Lib.byteCells (d ++ decTo n w k) ++ [.int .u8 (48 + (z : Int))] = Lib.byteCells (d ++ decTo n w (k + 1)) by
            rw [decTo_succ, ← HS.out, HD.out, ← List.append_assoc]
            simp [Lib.byteCells]; omega)
          clear hz
          go_wp2_with fail
          refine (bldByte _ _ _ _ _ hB1 (by simp [Lib.byteCells, decTo_len]; omega) (Nat.le_trans hBw hW.size)).mono ?_
          rintro e w2 ⟨rfl, hB2, hb2⟩
          rw [HC.out] at hB2
          go_wp2_with fail
          go_roundw
          case rel => exact ⟨k + 1, by omega, by have := HS.out; congr 1; omega, hB2, hW.trans hb2⟩
          case measure => simp [intOf]
    · obtain rfl : k = w := by omega
      have es : (k : Int) - 1 - (k : Int) = -1 := by omega
      rw [es]
      go_wp2_with fail
      refine (bldString _ _ _ _ _ hB1 (by simp [Lib.byteCells, decTo_len]; omega) (Nat.le_trans hBw hW.size)).mono ?_
      rintro e w2 ⟨rfl, hB2, hb2⟩
      rw [strCells_eq, byteCells_append] at hB2
      go_wp2_with fail
      go_end0
      exact ⟨rfl, by simpa using hB2, hW.trans hb2⟩

/-- A date's text. -/
def fmtD (y m d r : Nat) : List UInt8 := decTo y 4 4 ++ [45] ++ decTo m 2 2 ++ [45] ++ decTo d 2 2 ++ [95] ++ decTo (r / 3600) 2 2 ++ [58] ++ decTo (r / 60 % 60) 2 2 ++ [58] ++ decTo (r % 60) 2 2
/-- What Put hands back. -/
def PutPost (n : Int) (B : Nat) (w : World) (e : Ending) (w' : World) : Prop :=
  ∃ y m d r : Nat, e = .returned (.tuple #[.string ⟨(fmtD y m d r).toArray⟩, .bool true]) ∧ y ≤ 9999 ∧ 1 ≤ m ∧ m ≤ 12 ∧ 1 ≤ d ∧ (d : Int) ≤ dim y m ∧ r < 86400 ∧
    n = (dby y + ((d : Int) - 1) + cum y m) * 86400 + r ∧ Below B w w'

theorem dby_366 (x : Int) (h : 0 ≤ x) : dby (x / 366) ≤ x := by unfold dby; omega
theorem dby_step (a : Int) : dby a + 365 ≤ dby (a + 1) := by have := dby_succ a; have := lp_01 a; omega
theorem dby_mono (a b : Int) (h : a ≤ b) : dby a ≤ dby b := by unfold dby; omega

set_option maxHeartbeats 1000000 in
theorem Put_no (n : Int) (w : World) (h : n < 0 ∨ 315569520000 ≤ n) :
    Calls Tryd.prog 65 #[.int .i64 n] w fun e w' => e = .returned (.tuple #[.string ⟨#[]⟩, .bool false]) ∧ w' = w := by
  rcases h with h | h
  · go_enter Tryd.func65, Tryd.ntmps65
    go_wp2_with fail
    go_ret2
    exact ⟨rfl, rfl⟩
  · have h0 : 0 ≤ n := by omega
    have hm := Lib.hid dby_max
    go_enter Tryd.func65, Tryd.ntmps65
    go_wp2_with fail
    refine (ahead_any _ _ (by omega) (by omega)).mono ?_
    rintro e w1 ⟨rfl, rfl⟩
    rw [hm.out]
    go_wp2_with fail
    go_ret2
    exact ⟨rfl, rfl⟩

set_option maxHeartbeats 4000000 in
theorem Put_yes (n : Int) (w : World) (h0 : 0 ≤ n) (h1 : n < 315569520000) :
    Calls Tryd.prog 65 #[.int .i64 n] w (PutPost n w.heap.size w) := by
  have hm := Lib.hid dby_max
  obtain ⟨L, hL⟩ : ∃ L, L = n / 86400 := ⟨_, rfl⟩
  obtain ⟨r, hr⟩ : ∃ r : Nat, r = (n % 86400).toNat := ⟨_, rfl⟩
  have er : n % 86400 = (r : Int) := by omega
  have br : r < 86400 := by omega
  have bL0 : 0 ≤ L := by omega
  have bL1 : L < 3652425 := by omega
  have HN := Lib.hid (show n = L * 86400 + r by omega)
  have eL := hL.symm
  clear hL hr
  have g0 := dby_366 L bL0
  go_enter Tryd.func65, Tryd.ntmps65
  go_wp2_with fail
  refine (ahead_any _ _ (by omega) (by omega)).mono ?_
  rintro e w1 ⟨rfl, rfl⟩
  rw [hm.out]
  go_wp2_with fail
  rw [eL, er]
  clear eL er
  go_loop [6] (fun t => ∃ y : Nat, y ≤ 9999 ∧ dby y ≤ L ∧ t = .int .i64 y) (fun t => (9999 - intOf t).toNat)
  case atStart => exact ⟨(L / 366).toNat, by omega, by rw [show (((L / 366).toNat : Nat) : Int) = L / 366 by omega]; exact g0, by rw [show (((L / 366).toNat : Nat) : Int) = L / 366 by omega]⟩
  case round =>
    obtain ⟨y, hy1, hy2, rfl⟩ := hrel
    clear g0
    have hy3 : dby ((y : Int) + 1) ≤ L → y + 1 ≤ 9999 := by
      intro hh
      rcases Nat.lt_or_ge y 9999 with h | h
      · omega
      · obtain rfl : y = 9999 := by omega
        have : dby (((9999 : Nat) : Int) + 1) = 3652425 := by decide
        omega
    have HY3 := Lib.hid hy3
    have HS := Lib.hid (dby_succ (y : Int))
    clear hy3
    by_cases hlt : dby ((y : Int) + 1) ≤ L
    · have hy9 := HY3.out hlt
      go_wp2_with fail
      refine (ahead_any _ _ (by omega) (by omega)).mono ?_
      rintro e w1 ⟨rfl, rfl⟩
      go_wp2_with fail
      go_round
      case rel => exact ⟨y + 1, by omega, by rw [Int.natCast_add]; exact hlt, by go_num⟩
      case measure => simp [intOf]; omega
    · have hgt : L < dby ((y : Int) + 1) := by omega
      have hb := dby_bd (y : Int) (by omega) (by omega)
      have hlp := lp_01 (y : Int)
      clear hlt
      go_wp2_with fail
      refine (ahead_any _ _ (by omega) (by omega)).mono ?_
      rintro e w1 ⟨rfl, rfl⟩
      go_wp2_with fail
      refine (ahead_any _ _ (by omega) (by omega)).mono ?_
      rintro e w1 ⟨rfl, rfl⟩
      obtain ⟨A0, hA0⟩ : ∃ A0, A0 = dby (y : Int) := ⟨_, rfl⟩
      rw [HS.out] at hgt
      rw [← hA0] at hgt hb hy2 ⊢
      have HA0 := Lib.hid hA0
      clear hA0
      go_wp2_with fail
      go_loop [4, 7] (fun t k => ∃ m : Nat, 1 ≤ m ∧ m ≤ 12 ∧ k = .int .i64 m ∧ 0 ≤ L - A0 - cum y m ∧ t = .int .i64 (L - A0 - cum y m)) (fun _ k => (12 - intOf k).toNat)
      case atStart => exact ⟨1, by omega, by omega, rfl, by simp [cum]; omega, by simp [cum]⟩
      case round =>
        obtain ⟨m, hm1, hm2, rfl, hr0, rfl⟩ := hrel
        have cb := cum_bd (y : Int) m
        have db := dim_bd (y : Int) (m : Int)
        have cs := Lib.hid (cum_succ (y : Int) m hm1)
        have c13 := Lib.hid (cum_13 (y : Int))
        obtain ⟨Q, hQ⟩ : ∃ Q, Q = cum (y : Int) m := ⟨_, rfl⟩
        obtain ⟨P, hP⟩ : ∃ P, P = dim (y : Int) (m : Int) := ⟨_, rfl⟩
        rw [← hQ] at cb cs hr0 ⊢
        rw [← hP] at db cs
        have HQ := Lib.hid hQ
        have HP := Lib.hid hP
        clear hQ hP
        by_cases hge : P ≤ L - A0 - Q
        · have hm3 : m + 1 ≤ 12 := by
            rcases Nat.lt_or_ge m 12 with h | h
            · omega
            · obtain rfl : m = 12 := by omega
              have h1 := cs.out
              have h2 := c13.out
              simp only [Nat.reduceAdd] at h1
              omega
          go_wp2_with fail
          refine (days_any _ _ _ (by omega)).mono ?_
          rintro e w1 ⟨rfl, rfl⟩
          rw [← HP.out]
          go_wp2_with fail
          refine (days_any _ _ _ (by omega)).mono ?_
          rintro e w1 ⟨rfl, rfl⟩
          rw [← HP.out]
          go_wp2_with fail
          go_round
          case rel => exact ⟨m + 1, by omega, by omega, by go_num, by rw [cs.out]; omega, by rw [cs.out]; go_num⟩
          case measure => simp [intOf]; omega
        · have hlt : L - A0 - Q < P := by omega
          clear hge
          obtain ⟨d, hd⟩ : ∃ d : Nat, d = (L - A0 - Q + 1).toNat := ⟨_, rfl⟩
          have ed : L - A0 - Q + 1 = (d : Int) := by omega
          have HF := Lib.hid (show n = (dby y + ((d : Int) - 1) + cum y m) * 86400 + r ∧ 1 ≤ d ∧ (d : Int) ≤ dim y m by
            rw [← HA0.out, ← HQ.out, ← HP.out, HN.out]; omega)
          have bd31 : d ≤ 31 := by omega
          clear hd
          obtain ⟨r1, hr1⟩ : ∃ r1 : Nat, r1 = r / 3600 := ⟨_, rfl⟩
          obtain ⟨r2, hr2⟩ : ∃ r2 : Nat, r2 = r / 60 % 60 := ⟨_, rfl⟩
          obtain ⟨r3, hr3⟩ : ∃ r3 : Nat, r3 = r % 60 := ⟨_, rfl⟩
          have f1 : (r : Int) / 3600 = (r1 : Int) := by omega
          have f2 : (r : Int) / 60 % 60 = (r2 : Int) := by omega
          have f3 : (r : Int) % 60 = (r3 : Int) := by omega
          have bb1 : r1 ≤ 1000000 := by omega
          have bb2 : r2 ≤ 1000000 := by omega
          have bb3 : r3 ≤ 1000000 := by omega
          have HRR := Lib.hid (And.intro hr1 (And.intro hr2 hr3))
          clear hr1 hr2 hr3
          go_wp2_with fail
          refine (days_any _ _ _ (by omega)).mono ?_
          rintro e w1 ⟨rfl, rfl⟩
          rw [← HP.out]
          go_wp2_with fail
          have hB0 : Lib.IsBuilder 98 5 w1.heap.size w1.heap.size (Lib.byteCells []) (w1.alloc (.cells #[.pointer none, .slice none 0 0] 98)) := Lib.fresh_isBuilder _ _ _
          have hW0 : Below w1.heap.size w1 (w1.alloc (.cells #[.pointer none, .slice none 0 0] 98)) := (Below.refl _ _).alloc (Nat.le_refl _) _
          refine (put_any w1.heap.size w1.heap.size ([]) y 4 ⟨#[45]⟩ _ hB0 hW0.size (by omega) (by omega) (by simp) (by decide)).mono ?_
          rintro e w2 ⟨rfl, hB1, hb1⟩
          have hW1 := hW0.trans hb1
          go_wp2_with fail
          refine (put_any w1.heap.size w1.heap.size ([] ++ decTo y 4 4 ++ (⟨#[45]⟩ : ByteArray).data.toList) m 2 ⟨#[45]⟩ _ hB1 hW1.size (by omega) (by omega) (by simp [decTo_len]) (by decide)).mono ?_
          rintro e w3 ⟨rfl, hB2, hb2⟩
          have hW2 := hW1.trans hb2
          go_wp2_with fail
          refine (put_any w1.heap.size w1.heap.size ([] ++ decTo y 4 4 ++ (⟨#[45]⟩ : ByteArray).data.toList ++ decTo m 2 2 ++ (⟨#[45]⟩ : ByteArray).data.toList) d 2 ⟨#[95]⟩ _ hB2 hW2.size (by omega) (by omega) (by simp [decTo_len]) (by decide)).mono ?_
          rintro e w4 ⟨rfl, hB3, hb3⟩
          have hW3 := hW2.trans hb3
          go_wp2_with fail
          refine (put_any w1.heap.size w1.heap.size ([] ++ decTo y 4 4 ++ (⟨#[45]⟩ : ByteArray).data.toList ++ decTo m 2 2 ++ (⟨#[45]⟩ : ByteArray).data.toList ++ decTo d 2 2 ++ (⟨#[95]⟩ : ByteArray).data.toList) r1 2 ⟨#[58]⟩ _ hB3 hW3.size (by omega) (by omega) (by simp [decTo_len]) (by decide)).mono ?_
          rintro e w5 ⟨rfl, hB4, hb4⟩
          have hW4 := hW3.trans hb4
          go_wp2_with fail
          refine (put_any w1.heap.size w1.heap.size ([] ++ decTo y 4 4 ++ (⟨#[45]⟩ : ByteArray).data.toList ++ decTo m 2 2 ++ (⟨#[45]⟩ : ByteArray).data.toList ++ decTo d 2 2 ++ (⟨#[95]⟩ : ByteArray).data.toList ++ decTo r1 2 2 ++ (⟨#[58]⟩ : ByteArray).data.toList) r2 2 ⟨#[58]⟩ _ hB4 hW4.size (by omega) (by omega) (by simp [decTo_len]) (by decide)).mono ?_
          rintro e w6 ⟨rfl, hB5, hb5⟩
          have hW5 := hW4.trans hb5
          go_wp2_with fail
          refine (put_any w1.heap.size w1.heap.size ([] ++ decTo y 4 4 ++ (⟨#[45]⟩ : ByteArray).data.toList ++ decTo m 2 2 ++ (⟨#[45]⟩ : ByteArray).data.toList ++ decTo d 2 2 ++ (⟨#[95]⟩ : ByteArray).data.toList ++ decTo r1 2 2 ++ (⟨#[58]⟩ : ByteArray).data.toList ++ decTo r2 2 2 ++ (⟨#[58]⟩ : ByteArray).data.toList) r3 2 ⟨#[]⟩ _ hB5 hW5.size (by omega) (by omega) (by simp [decTo_len]) (by decide)).mono ?_
          rintro e w7 ⟨rfl, hB6, hb6⟩
          have hW6 := hW5.trans hb6
          go_wp2_with fail
          refine (bldOut _ _ _ _ hB6 hW6.size).mono ?_
          rintro e w9 ⟨rfl, hb9⟩
          have hW9 := hW6.trans hb9
          go_wp2_with fail
          go_ret2
          refine ⟨y, m, d, r, ?_, hy1, hm1, hm2, HF.out.2.1, HF.out.2.2, br, HF.out.1, hW9⟩
          obtain ⟨e1, e2, e3⟩ := HRR.out
          unfold fmtD
          rw [← e1, ← e2, ← e3]
          simp
end Go.Proofs.YticjhogofoffmaaDoor

/- Dates: what the small functions compute. -/
import Derived.Test.YtoadpeigomkgiaaDoorDateMath
import Derived.Test.YtoadpeigomkgiaaDoorSl
import Derived.Test.YtoadpeigomkgiaaDoorNumGet1
import Derived.Test.YtoadpeigomkgiaaDoorConv
import Derived.Deep.QuietTactic
import Derived.BigQuiet
import Derived.WalkLawsBesides
import Derived.WalkSmall
namespace Go.Proofs.YtoadpeigomkgiaaDoor
open Go.RowKit

theorem Sl.len_le {w : World} {a : Option Addr} {len cap : Nat} {l : List UInt8} (h : Sl w a len cap l) : l.length ≤ 9223372036854775807 := by
  have h1 := h.1
  have h2 := h.2.1
  have h3 := h.2.2.1
  unfold maxLen at h3
  omega
theorem Sl.sub {w : World} {b o len cap : Nat} {l : List UInt8} (h : Sl w (Option.some ⟨b, o, none⟩) len cap l) (i j : Nat) (hij : i ≤ j) (hj : j ≤ len) :
    Sl w (Option.some ⟨b, o + i, none⟩) (j - i) (cap - i) ((l.drop i).take (j - i)) := by
  obtain ⟨h1, h2, h3, h5, h4⟩ := h
  refine ⟨by simp; omega, by omega, by omega, (fun h => by cases h), ?_⟩
  by_cases h0 : j - i = 0
  · exact .inl h0
  · right
    rcases h4 with h4 | ⟨b', o', e, h4⟩
    · omega
    · obtain ⟨rfl, rfl⟩ : b = b' ∧ o = o' := by simpa using e
      refine ⟨b, o + i, rfl, fun k hk => ?_⟩
      rw [Nat.add_assoc, h4 (i + k) (by omega)]
      simp [List.getD_eq_getElem?_getD, hk]

set_option maxHeartbeats 1000000 in
theorem digits_anyD (a : Option Addr) (len cap : Nat) (l : List UInt8) (w : World) (hs : Sl w a len cap l) (hd : ∀ c ∈ l, isD c = true) (hl : l.length ≤ 4) :
    Calls Tryd.prog 62 #[.slice a len cap] w fun e w' => e = .returned (.int .i64 (digN l : Nat)) ∧ w' = w := by
  have HS := Lib.hid hs
  have HD := Lib.hid hd
  have HL := Lib.hid hs.1
  have hl' : len ≤ 4 := by have := hs.1; omega
  clear hs hd
  go_enter Tryd.func62, Tryd.ntmps62
  go_wp2_with fail
  go_loop [3, 8] (fun n i => ∃ k x : Nat, k ≤ len ∧ i = .int .i64 k ∧ n = .int .i64 x ∧ x < 10 ^ k ∧ Hid (x = digN (l.take k))) (fun _ i => len - (intOf i).toNat)
  case atStart => exact ⟨0, 0, Nat.zero_le _, rfl, rfl, by simp, Lib.hid rfl⟩
  case round =>
    obtain ⟨k, x, hk, rfl, rfl, hx, HX⟩ := hrel
    by_cases hlt : k < len
    · obtain ⟨b, o, rfl, hcc, _⟩ := HS.out.some (by omega)
      have c0 := hcc k hlt
      obtain ⟨c, hcE⟩ : ∃ c, c = l.getD k 0 := ⟨_, rfl⟩
      rw [← hcE] at c0
      have hkl : k < l.length := by have := HL.out; omega
      have hdc := (isD_iff c).1 (HD.out c (by rw [hcE]; simp [List.getD_eq_getElem?_getD, hkl]))
      obtain ⟨d1, d2⟩ := hdc
      have hxb : x < 10000 := Nat.lt_of_lt_of_le hx (Nat.pow_le_pow_right (n := 10) (by omega) (show k ≤ 4 by omega))
      have HT := Lib.hid (show digN (l.take (k + 1)) = 10 * x + (c.toNat - 48) by
        rw [List.take_succ_eq_append_getElem hkl, digN_snoc, HX.out, hcE]; simp [List.getD_eq_getElem?_getD, hkl, dg])
      have hp : 10 ^ (k + 1) = 10 * 10 ^ k := by rw [Nat.pow_succ]; omega
      have HP := Lib.hid hp
      clear hcc hcE hp
      go_wp2_with fail
      go_round
      case rel => exact ⟨k + 1, 10 * x + (c.toNat - 48), by omega, by go_num, by go_num, by rw [HP.out]; omega, Lib.hid HT.out.symm⟩
      case measure => simp [intOf]; omega
    · obtain rfl : k = len := by omega
      have HE := Lib.hid (show digN l = x by rw [HX.out, List.take_of_length_le (by have := HL.out; omega)])
      go_wp2_with fail
      go_ret
      exact ⟨by rw [HE.out]; rfl, rfl⟩

set_option maxHeartbeats 1000000 in
theorem fits_any (a : Option Addr) (len cap : Nat) (l : List UInt8) (form : ByteArray) (w : World) (hs : Sl w a len cap l) (hf : ∀ k (h : k < form.size), (form[k]'h).toNat < 128) (hf2 : form.size ≤ 100) (hl : l.length ≤ 9223372036854775807) :
    Calls Tryd.prog 61 #[.slice a len cap, .string form] w fun e w' => e = .returned (.bool (fitsL l form.data.toList)) ∧ Below w.heap.size w w' := by
  have HS := Lib.hid hs
  have HL := Lib.hid hs.1
  have hl' : len ≤ 9223372036854775807 := by have := hs.1; omega
  obtain ⟨R, hR⟩ : ∃ R, R = fitsL l form.data.toList := ⟨_, rfl⟩
  rw [← hR]
  have HR := Lib.hid hR
  have HF := Lib.hid hf
  clear hs hR hf
  by_cases hne : len = form.size
  · subst hne
    have hb : ((form.size : Int) != (form.size : Int)) = false := by simp
    go_enter Tryd.func61, Tryd.ntmps61
    go_wp2_with fail
    go_loopw [5, 6] (fun _ _ wr => ∃ k : Nat, k ≤ form.size ∧ w.iter form k = wr ∧ Hid (R = fitsL (l.drop k) (form.data.toList.drop k))) (fun _ _ wr => form.size - wr.iterPos w.heap.size)
    case atStart => exact ⟨0, Nat.zero_le _, rfl, Lib.hid (by rw [HR.out]; rfl)⟩
    case round =>
      obtain ⟨k, hk, rfl, HX⟩ := hrel
      have hW : Below w.heap.size w (w.iter form k) := (Below.refl _ _).alloc (Nat.le_refl _) _
      have hW1 : Below w.heap.size w (w.iter form (k + 1)) := (Below.refl _ _).alloc (Nat.le_refl _) _
      have hpos : ∀ j, (w.iter form j).iterPos w.heap.size = j := fun j => iterPos_of (World.iter_heap w form j)
      by_cases hlt : k < form.size
      · have hnx := fun ty => run_next_ascii (P := Tryd.prog) w form k ty hlt (HF.out k hlt)
        obtain ⟨f, hfE⟩ : ∃ f, f = form[k]'hlt := ⟨_, rfl⟩
        rw [← hfE] at hnx
        have hfb := f.toNat_lt
        obtain ⟨b, o, rfl, hcc, hbw⟩ := HS.out.some (by omega)
        obtain ⟨c, hcE⟩ : ∃ c, c = l.getD k 0 := ⟨_, rfl⟩
        have c0 : (w.iter form k).cell? ⟨b, o + k, none⟩ = some (.int .u8 (c.toNat : Int)) := by rw [hW.cell hbw, hcE]; exact hcc k hlt
        have c1 : (w.iter form (k + 1)).cell? ⟨b, o + k, none⟩ = some (.int .u8 (c.toNat : Int)) := by rw [hW1.cell hbw, hcE]; exact hcc k hlt
        have hcb := c.toNat_lt
        have HD := Lib.hid (show R = (fitsC c f && fitsL (l.drop (k + 1)) (form.data.toList.drop (k + 1))) by
          rw [HX.out, fitsL_drop l form.data.toList k (by have := HL.out; omega) (by simpa using hlt), hcE, hfE]
          congr 2
          simp [List.getD_eq_getElem?_getD, hlt]; rfl)
        clear hcc hcE hfE HX c0
        by_cases h48 : f.toNat = 48
        · have hf48 : f = 48 := UInt8.toNat_inj.1 (by simpa using h48)
          subst hf48
          by_cases h1 : c.toNat < 48
          · have HE := Lib.hid (show R = false by rw [HD.out]; simp [fitsC, isD]; intros; omega)
            replace h1 : (c.toNat : Int) < 48 := by omega
            go_wp2_with fail
            go_ret
            exact ⟨by rw [HE.out]; rfl, (Below.refl _ _).alloc (Nat.le_refl _) _⟩
          · by_cases h2 : 57 < c.toNat
            · have HE := Lib.hid (show R = false by rw [HD.out]; simp [fitsC, isD]; intros; omega)
              replace h1 : (48 : Int) ≤ (c.toNat : Int) := by omega
              replace h2 : (57 : Int) < (c.toNat : Int) := by omega
              go_wp2_with fail
              go_ret
              exact ⟨by rw [HE.out]; rfl, (Below.refl _ _).alloc (Nat.le_refl _) _⟩
            · have HE := Lib.hid (show R = fitsL (l.drop (k + 1)) (form.data.toList.drop (k + 1)) by rw [HD.out]; simp [fitsC, isD, show 48 ≤ c.toNat by omega, show c.toNat ≤ 57 by omega])
              replace h1 : (48 : Int) ≤ (c.toNat : Int) := by omega
              replace h2 : (c.toNat : Int) ≤ 57 := by omega
              go_wp2_with fail
              go_roundw
              case rel => exact ⟨k + 1, by omega, rfl, HE⟩
              case measure => rw [hpos, hpos]; omega
        · have q1 : ((f.toNat : Int) == 48) = false := by rw [beq_eq_false_iff_ne]; omega
          have q2 : ((f.toNat : Int) != 48) = true := by rw [bne_iff_ne]; omega
          have hfne : f ≠ 48 := by intro h; apply h48; rw [h]; rfl
          by_cases h1 : c.toNat = f.toNat
          · have HE := Lib.hid (show R = fitsL (l.drop (k + 1)) (form.data.toList.drop (k + 1)) by rw [HD.out]; simp [fitsC, hfne, UInt8.toNat_inj.1 h1])
            have q3 : ((c.toNat : Int) != (f.toNat : Int)) = false := by rw [bne_eq_false_iff_eq]; omega
            clear h1
            go_wp2_with fail
            go_roundw
            case rel => exact ⟨k + 1, by omega, rfl, HE⟩
            case measure => rw [hpos, hpos]; omega
          · have HE := Lib.hid (show R = false by rw [HD.out]; simp [fitsC, hfne]; intro h; exact absurd (congrArg UInt8.toNat h) h1)
            have q3 : ((c.toNat : Int) != (f.toNat : Int)) = true := by rw [bne_iff_ne]; omega
            go_wp2_with fail
            go_ret
            exact ⟨by rw [HE.out]; rfl, (Below.refl _ _).alloc (Nat.le_refl _) _⟩
      · obtain rfl : k = form.size := by omega
        have HE := Lib.hid (show R = true by rw [HX.out, List.drop_of_length_le (by rw [← HL.out]; exact Nat.le_refl _), List.drop_of_length_le (by simp)]; rfl)
        have hnx := fun ty => run_next_end (P := Tryd.prog) w form form.size ty hlt
        clear HX
        go_wp2_with fail
        go_ret
        exact ⟨by rw [HE.out]; rfl, (Below.refl _ _).alloc (Nat.le_refl _) _⟩
  · have HE := Lib.hid (show R = false by rw [HR.out]; exact fitsL_len _ _ (by have := HL.out; simp; omega))
    have hb : ((len : Int) != (form.size : Int)) = true := by rw [bne_iff_ne]; omega
    go_enter Tryd.func61, Tryd.ntmps61
    go_wp2_with fail
    go_ret
    exact ⟨by rw [HE.out]; rfl, Below.refl _ _⟩

set_option maxHeartbeats 1000000 in
theorem long_any (y : Int) (w : World) (h0 : 0 ≤ y) : Calls Tryd.prog 80 #[.int .i64 y] w fun e w' => e = .returned (.bool (lpB y)) ∧ w' = w := by
  obtain ⟨R, hR⟩ : ∃ R, R = lpB y := ⟨_, rfl⟩
  rw [← hR]
  have HR := Lib.hid hR
  clear hR
  by_cases h4 : y % 4 = 0
  · have q4 : (y % 4 == 0) = true := by simpa using h4
    by_cases h100 : y % 100 = 0
    · have q100 : (y % 100 != 0) = false := by simpa using h100
      by_cases h400 : y % 400 = 0
      · have HE := Lib.hid (show R = true by rw [HR.out, lpB]; simp [h4, h400])
        have q400 : (y % 400 == 0) = true := by simpa using h400
        clear h4 h100 h400
        go_enter Tryd.func80, Tryd.ntmps80
        go_wp2_with fail
        go_ret
        exact ⟨by rw [HE.out]; rfl, rfl⟩
      · have HE := Lib.hid (show R = false by rw [HR.out, lpB]; simp [h100, h400])
        have q400 : (y % 400 == 0) = false := by simpa using h400
        clear h4 h100 h400
        go_enter Tryd.func80, Tryd.ntmps80
        go_wp2_with fail
        go_ret
        exact ⟨by rw [HE.out]; rfl, rfl⟩
    · have HE := Lib.hid (show R = true by rw [HR.out, lpB]; simp [h4, h100])
      have q100 : (y % 100 != 0) = true := by simpa using h100
      clear h4 h100
      go_enter Tryd.func80, Tryd.ntmps80
      go_wp2_with fail
      go_ret
      exact ⟨by rw [HE.out]; rfl, rfl⟩
  · have HE := Lib.hid (show R = false by rw [HR.out, lpB]; simp [h4])
    have q4 : (y % 4 == 0) = false := by simpa using h4
    clear h4
    go_enter Tryd.func80, Tryd.ntmps80
    go_wp2_with fail
    go_ret
    exact ⟨by rw [HE.out]; rfl, rfl⟩

set_option maxHeartbeats 1000000 in
theorem days_any (y m : Int) (w : World) (h0 : 0 ≤ y) : Calls Tryd.prog 66 #[.int .i64 y, .int .i64 m] w fun e w' => e = .returned (.int .i64 (dim y m)) ∧ w' = w := by
  obtain ⟨R, hR⟩ : ∃ R, R = dim y m := ⟨_, rfl⟩
  rw [← hR]
  have HR := Lib.hid hR
  clear hR
  have hcase : m = 2 ∨ (m = 4 ∨ m = 6 ∨ m = 9 ∨ m = 11) ∨ (m ≠ 2 ∧ m ≠ 4 ∧ m ≠ 6 ∧ m ≠ 9 ∧ m ≠ 11) := by omega
  rcases hcase with rfl | hm | ⟨m2, m4, m6, m9, m11⟩
  · cases hl : lpB y with
    | true =>
      have HE := Lib.hid (show R = 29 by rw [HR.out]; simp [dim, lp, hl])
      go_enter Tryd.func66, Tryd.ntmps66
      go_wp2_with fail
      refine (long_any y _ h0).mono ?_
      rintro e w1 ⟨rfl, rfl⟩
      go_wp2_with fail
      go_ret
      exact ⟨by rw [HE.out]; rfl, rfl⟩
    | false =>
      have HE := Lib.hid (show R = 28 by rw [HR.out]; simp [dim, lp, hl])
      go_enter Tryd.func66, Tryd.ntmps66
      go_wp2_with fail
      refine (long_any y _ h0).mono ?_
      rintro e w1 ⟨rfl, rfl⟩
      go_wp2_with fail
      go_ret
      exact ⟨by rw [HE.out]; rfl, rfl⟩
  · rcases hm with rfl | rfl | rfl | rfl
    · have HE := Lib.hid (show R = 30 by rw [HR.out]; rfl)
      go_enter Tryd.func66, Tryd.ntmps66
      go_wp2_with fail
      go_ret
      exact ⟨by rw [HE.out]; rfl, rfl⟩
    · have HE := Lib.hid (show R = 30 by rw [HR.out]; rfl)
      go_enter Tryd.func66, Tryd.ntmps66
      go_wp2_with fail
      go_ret
      exact ⟨by rw [HE.out]; rfl, rfl⟩
    · have HE := Lib.hid (show R = 30 by rw [HR.out]; rfl)
      go_enter Tryd.func66, Tryd.ntmps66
      go_wp2_with fail
      go_ret
      exact ⟨by rw [HE.out]; rfl, rfl⟩
    · have HE := Lib.hid (show R = 30 by rw [HR.out]; rfl)
      go_enter Tryd.func66, Tryd.ntmps66
      go_wp2_with fail
      go_ret
      exact ⟨by rw [HE.out]; rfl, rfl⟩
  · have HE := Lib.hid (show R = 31 by rw [HR.out]; simp [dim, m2, m4, m6, m9, m11])
    have q2 : (m == 2) = false := by simpa using m2
    have q4 : (m == 4) = false := by simpa using m4
    have q6 : (m == 6) = false := by simpa using m6
    have q9 : (m == 9) = false := by simpa using m9
    have q11 : (m == 11) = false := by simpa using m11
    clear m2 m4 m6 m9 m11
    go_enter Tryd.func66, Tryd.ntmps66
    go_wp2_with fail
    go_ret
    exact ⟨by rw [HE.out]; rfl, rfl⟩

set_option maxHeartbeats 1000000 in
theorem ahead_any (y : Int) (w : World) (h0 : 0 ≤ y) (h1 : y ≤ 100000) : Calls Tryd.prog 67 #[.int .i64 y] w fun e w' => e = .returned (.int .i64 (dby y)) ∧ w' = w := by
  obtain ⟨R, hR⟩ : ∃ R, R = dby y := ⟨_, rfl⟩
  rw [← hR]
  have HR := Lib.hid hR
  clear hR
  by_cases hp : 0 < y
  · have HE := Lib.hid (show R = y * 365 + ((y - 1) / 4 - (y - 1) / 100 + (y - 1) / 400 + 1) by rw [HR.out, dby_pos])
    go_enter Tryd.func67, Tryd.ntmps67
    go_wp2_with fail
    go_ret
    exact ⟨by rw [HE.out]; rfl, rfl⟩
  · obtain rfl : y = 0 := by omega
    have HE := Lib.hid (show R = 0 by rw [HR.out, dby_zero])
    go_enter Tryd.func67, Tryd.ntmps67
    go_wp2_with fail
    go_ret
    exact ⟨by rw [HE.out]; rfl, rfl⟩
end Go.Proofs.YtoadpeigomkgiaaDoor

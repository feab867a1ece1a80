/- the document's Hex, Value, Unhex: what they compute. -/
import Derived.Test.YtpdkbbenoipohaaOctUnhex
import Derived.Test.YtpdkbbenoipohaaConv
import Derived.Deep.RegionLaw
namespace Go.Proofs.Ytpdkbbenoipohaa
open Go.RowKit

def isB (o : Option Nat) : Bool := o.isSome
def valOf (o : Option Nat) : Int := match o with | some v => v | none => 0
theorem hval_iv (n : Nat) : ((n < 48 ∨ (58 ≤ n ∧ n ≤ 64) ∨ (71 ≤ n ∧ n ≤ 96) ∨ 103 ≤ n) → hval n = none) ∧ (48 ≤ n ∧ n ≤ 57 → hval n = some (n - 48)) ∧ (97 ≤ n ∧ n ≤ 102 → hval n = some (n - 87)) ∧ (65 ≤ n ∧ n ≤ 70 → hval n = some (n - 55)) := by
  unfold hval
  refine ⟨fun h => ?_, fun h => ?_, fun h => ?_, fun h => ?_⟩ <;> repeat' split
  all_goals first | rfl | omega

set_option maxHeartbeats 1000000 in
theorem refValue_any (c : UInt8) (w : World) : Calls Try.prog 21 #[.int .u8 (c.toNat : Int)] w fun e w' => e = .returned (.tuple #[.int .u8 (valOf (hval c.toNat)), .bool (isB (hval c.toNat))]) ∧ w' = w := by
  obtain ⟨r, hr⟩ : ∃ r, r = hval c.toNat := ⟨_, rfl⟩
  have hb := c.toNat_lt
  have iv := hval_iv c.toNat
  rw [← hr] at iv ⊢
  have HI := Lib.hid iv
  have HR := Lib.hid hr
  clear iv hr
  have : (c.toNat : Int) < 48 ∨ ((48 : Int) ≤ c.toNat ∧ (c.toNat : Int) ≤ 57) ∨ ((58 : Int) ≤ c.toNat ∧ (c.toNat : Int) ≤ 64) ∨ ((65 : Int) ≤ c.toNat ∧ (c.toNat : Int) ≤ 70) ∨ ((71 : Int) ≤ c.toNat ∧ (c.toNat : Int) ≤ 96) ∨ ((97 : Int) ≤ c.toNat ∧ (c.toNat : Int) ≤ 102) ∨ (103 : Int) ≤ c.toNat := by omega
  rcases this with h | ⟨h, h'⟩ | ⟨h, h'⟩ | ⟨h, h'⟩ | ⟨h, h'⟩ | ⟨h, h'⟩ | h
  · obtain rfl := HI.out.1 (by omega)
    go_enter Try.func21, Try.ntmps21
    go_wp2_with fail
    go_ret2
    exact ⟨rfl, rfl⟩
  · obtain rfl := HI.out.2.1 (by omega)
    have EV := Lib.hid (show ((c.toNat - 48 : Nat) : Int) = (c.toNat : Int) - 48 by omega)
    go_enter Try.func21, Try.ntmps21
    go_wp2_with fail
    go_ret2
    refine ⟨?_, rfl⟩
    simp only [valOf, isB, Option.isSome]
    rw [EV.out]
    rfl
  · obtain rfl := HI.out.1 (by omega)
    go_enter Try.func21, Try.ntmps21
    go_wp2_with fail
    go_ret2
    exact ⟨rfl, rfl⟩
  · obtain rfl := HI.out.2.2.2 (by omega)
    have EV := Lib.hid (show ((c.toNat - 55 : Nat) : Int) = (c.toNat : Int) - 65 + 10 by omega)
    go_enter Try.func21, Try.ntmps21
    go_wp2_with fail
    go_ret2
    refine ⟨?_, rfl⟩
    simp only [valOf, isB, Option.isSome]
    rw [EV.out]
    rfl
  · obtain rfl := HI.out.1 (by omega)
    go_enter Try.func21, Try.ntmps21
    go_wp2_with fail
    go_ret2
    exact ⟨rfl, rfl⟩
  · obtain rfl := HI.out.2.2.1 (by omega)
    have EV := Lib.hid (show ((c.toNat - 87 : Nat) : Int) = (c.toNat : Int) - 97 + 10 by omega)
    go_enter Try.func21, Try.ntmps21
    go_wp2_with fail
    go_ret2
    refine ⟨?_, rfl⟩
    simp only [valOf, isB, Option.isSome]
    rw [EV.out]
    rfl
  · obtain rfl := HI.out.1 (by omega)
    go_enter Try.func21, Try.ntmps21
    go_wp2_with fail
    go_ret2
    exact ⟨rfl, rfl⟩

set_option maxHeartbeats 1000000 in
theorem refHex_any (a : Option Addr) (len cap : Nat) (l : List UInt8) (w : World) (hs : Sl w a len cap l) (hl : l.length ≤ 1000000) :
    Calls Try.prog 14 #[.slice a len cap] w fun e w' => e = .returned (.string ⟨(hexL l).toArray⟩) ∧ Below w.heap.size w w' := by
  have HN := Lib.hid hs.lt
  obtain ⟨hlen, hlc, hcm, hnil, hc⟩ := hs
  have HL := Lib.hid hlen
  have HC := Lib.hid hc
  have hl' : len ≤ 1000000 := by omega
  clear hlen hc hnil
  obtain ⟨i0, hi, hz0, hz1, hz2⟩ := info_parts bldInfo5
  have hown0 : (w.alloc (.cells #[] 5)).ownsRow w.heap.size 5 1 (.slice (some ⟨w.heap.size, 0, none⟩) 0 0) 0 (Lib.byteCells []) := World.ownsRow_lit w #[] 0 (Nat.le_refl _) (Nat.zero_le _) rfl
  have hW0 : Below w.heap.size w (w.alloc (.cells #[] 5)) := (Below.refl _ _).alloc (Nat.le_refl _) _
  go_enter Try.func14, Try.ntmps14
  go_wp2_with fail
  go_loopw [4, 9] (fun out i wr => ∃ k : Nat, k ≤ len ∧ i = .int .i64 k ∧ wr.ownsRow w.heap.size 5 1 out (2 * k) (Lib.byteCells (hexL (l.take k))) ∧ Below w.heap.size w wr) (fun _ i _ => len - (intOf i).toNat)
  case atStart => exact ⟨0, Nat.zero_le _, rfl, hown0, hW0⟩
  case round =>
    obtain ⟨k, hk, rfl, hown, hW⟩ := hrel
    clear hown0 hW0
    by_cases hlt : k < len
    · obtain ⟨b, o, rfl, hcc⟩ : ∃ b o, a = some ⟨b, o, none⟩ ∧ ∀ i, i < len → w.cell? ⟨b, o + i, none⟩ = some (.int .u8 ((l.getD i 0).toNat : Int)) := by
        rcases HC.out with hc | hc
        · omega
        · exact hc
      have hbw := HN.out b o (by omega) rfl
      obtain ⟨c, hcE⟩ : ∃ c, c = l.getD k 0 := ⟨_, rfl⟩
      have c0 : wr.cell? ⟨b, o + k, none⟩ = some (.int .u8 (c.toNat : Int)) := by rw [hW.cell hbw, hcE]; exact hcc k hlt
      have hcl := c.toNat_lt
      obtain ⟨k0, h0⟩ : ∃ k0 : Nat, k0 = c.toNat / 16 := ⟨_, rfl⟩
      obtain ⟨k1, h1⟩ : ∃ k1 : Nat, k1 = c.toNat % 16 := ⟨_, rfl⟩
      have f0 : (c.toNat : Int) / 16 = (k0 : Int) := by omega
      have f1 : (c.toNat : Int) % 16 = (k1 : Int) := by omega
      have f0' : (c.toNat : Int).tdiv 16 = (k0 : Int) := by rw [Int.tdiv_eq_ediv_of_nonneg (by omega)]; exact f0
      have f1' : (c.toNat : Int).tmod 16 = (k1 : Int) := by rw [Int.tmod_eq_emod_of_nonneg (by omega)]; exact f1
      have f2 : IntKind.u8.wrap (k0 : Int) = (k0 : Int) := by rw [IntKind.wrap_u8]; omega
      have f3 : IntKind.u8.wrap (k1 : Int) = (k1 : Int) := by rw [IntKind.wrap_u8]; omega
      have d0 : (k0 : Int) < 16 := by omega
      have d1 : (k1 : Int) < 16 := by omega
      have b0 : k0 < 16 := by omega
      have b1 : k1 < 16 := by omega
      have HE := Lib.hid (show hexL (l.take (k + 1)) = hexL (l.take k) ++ [hxd k0, hxd k1] by
        rw [take_snoc l k (by have := HL.out; omega), hexL_snoc, ← hcE, h0, h1])
      clear hcE hcc h0 h1
      go_wp2_with fail
      have e0 := hxd_eq k0 b0
      have e1 := hxd_eq k1 b1
      unfold hexB at e0 e1
      go_region_law (refine step_append_sl rfl (.tmp 12) (.tmp 27) 22 rfl w.heap.size 5 i0 Try.underlying22 hi hz0 hz1 hz2 _ (2 * k) (hexL (l.take k)) rfl (hown.alloc _) (some ⟨wr.heap.size, 0, none⟩) 2 2 [hxd k0, hxd k1] rfl (sl_two _ _ _ _ (cell_two_of wr _ _ _ rfl).1 (cell_two_of wr _ _ _ rfl).2) (by omega) (by have := hW.size; simp; omega) ?_; intro v1 w1 hown1 hg1)
      all_goals
        have hW1 := ((hW.alloc hW.size _).drew).grown hg1 (by have := hW.size; simp; omega) (fun j hj => (hown.lt j hj).1)
        rw [← HE.out] at hown1
        go_wp2_with fail
        go_roundw
        case rel => exact ⟨k + 1, by omega, by go_num, hown1, hW1⟩
        case measure => simp [intOf]; omega
    · obtain rfl : k = len := by omega
      have hall : l.take k = l := List.take_of_length_le (by have := HL.out; omega)
      rw [hall] at hown
      clear hall
      obtain ⟨a1, c1, rfl, hS⟩ := Sl.ofOwns hown
      have hcv := conv_sl hS
      go_wp2_with fail
      go_ret
      exact ⟨rfl, hW⟩

theorem refUnhex_step (s : ByteArray) (k : Nat) (hk : k + 1 < s.size) (R : Option (List UInt8)) (d : List UInt8) (h : R = (unhex (s.data.toList.drop k)).map (d ++ ·)) (x y : Nat)
    (hx : hval (s[k]'(by omega)).toNat = some x) (hy : hval (s[k + 1]'hk).toNat = some y) : R = (unhex (s.data.toList.drop (k + 2))).map ((d ++ [UInt8.ofNat (16 * x + y)]) ++ ·) := by
  rw [h, unhex_drop s k hk, hx, hy]; simp [Function.comp_def]
theorem refUnhex_fall (s : ByteArray) (k : Nat) (hk : k + 1 < s.size) (R : Option (List UInt8)) (d : List UInt8) (h : R = (unhex (s.data.toList.drop k)).map (d ++ ·))
    (hx : hval (s[k]'(by omega)).toNat = none ∨ hval (s[k + 1]'hk).toNat = none) : R = none := by
  rw [h, unhex_drop s k hk]
  rcases hx with hx | hx
  · rw [hx]; rfl
  · rw [hx]; split <;> simp_all

set_option maxHeartbeats 2000000 in
theorem refUnhex_any (s : ByteArray) (w : World) (hs : s.size ≤ 1000000000) :
    Calls Try.prog 12 #[.string s] w (Gave (unhex s.data.toList) (.bool (unhex s.data.toList).isSome) w.heap.size w) := by
  obtain ⟨R, hR⟩ : ∃ R, R = unhex s.data.toList := ⟨_, rfl⟩
  rw [← hR]
  have HR := Lib.hid hR
  clear hR
  obtain ⟨i0, hi, hz0, hz1, hz2⟩ := info_parts bldInfo5
  have hown0 : (w.alloc (.cells #[] 5)).ownsRow w.heap.size 5 1 (.slice (some ⟨w.heap.size, 0, none⟩) 0 0) 0 (Lib.byteCells []) := World.ownsRow_lit w #[] 0 (Nat.le_refl _) (Nat.zero_le _) rfl
  have hW0 : Below w.heap.size w (w.alloc (.cells #[] 5)) := (Below.refl _ _).alloc (Nat.le_refl _) _
  have hempty : ∀ (w : World), Sl (w.alloc (.cells #[] 5)) (some ⟨w.heap.size, 0, none⟩) 0 0 [] := fun w => ⟨rfl, Nat.le_refl _, Nat.zero_le _, (fun h => by cases h), .inl rfl⟩
  by_cases ho : s.size % 2 = 1
  · have hodd : R = none := by rw [HR.out]; exact unhex_odd _ (by simpa using ho)
    subst hodd
    have h1 : (1 : Int) ≤ (s.size : Int) % 2 := by omega
    have h1' : (s.size : Int) % 2 ≤ 1 := by omega
    go_enter Try.func12, Try.ntmps12
    go_wp2_with fail
    go_ret2
    exact ⟨_, 0, 0, rfl, hempty w, hW0⟩
  · have h1 : (((s.size : Int) % 2) == 1) = false := by simp; omega
    have H2 := Lib.hid (show s.size % 2 = 0 by omega)
    clear ho
    go_enter Try.func12, Try.ntmps12
    go_wp2_with fail
    clear h1
    go_loopw [4, 5] (fun out i wr => ∃ (k : Nat) (d : List UInt8), k ≤ s.size ∧ Hid (k % 2 = 0) ∧ i = .int .i64 k ∧ wr.ownsRow w.heap.size 5 1 out d.length (Lib.byteCells d) ∧ Hid (R = (unhex (s.data.toList.drop k)).map (d ++ ·)) ∧ d.length ≤ k ∧ Below w.heap.size w wr)
      (fun _ i _ => s.size - (intOf i).toNat)
    case atStart => exact ⟨0, [], Nat.zero_le _, Lib.hid rfl, rfl, hown0, Lib.hid (by rw [HR.out]; simp), Nat.le_refl _, hW0⟩
    case round =>
      obtain ⟨k, d, hk, HK, rfl, hown, HD, hdl, hW⟩ := hrel
      clear hown0 hW0
      by_cases hlt : k < s.size
      · have hk1 : k + 1 < s.size := by have := HK.out; have := H2.out; omega
        obtain ⟨c1, hc1⟩ : ∃ c1, c1 = s[k]'hlt := ⟨_, rfl⟩
        obtain ⟨c2, hc2⟩ : ∃ c2, c2 = s[k + 1]'hk1 := ⟨_, rfl⟩
        have HF := Lib.hid (refUnhex_fall s k hk1 R d HD.out)
        have HS := Lib.hid (refUnhex_step s k hk1 R d HD.out)
        rw [← hc1, ← hc2] at HF HS
        have e1 := hc1.symm
        have e2 := hc2.symm
        clear hc1 hc2
        cases h1 : hval c1.toNat with
        | none =>
          have HV := Lib.hid (HF.out (.inl h1))
          have q1 : isB (hval c1.toNat) = false := by rw [h1]; rfl
          clear h1 HF HS HD
          go_wp2_with fail
          refine (refValue_any _ _).mono ?_
          rintro e wx ⟨rfl, rfl⟩
          go_wp2_with fail
          refine (refValue_any _ _).mono ?_
          rintro e wx ⟨rfl, rfl⟩
          go_wp2_with fail
          go_ret2
          exact ⟨_, 0, 0, by rw [HV.out]; rfl, by rw [HV.out]; exact hempty _, hW.alloc hW.size _⟩
        | some x =>
          cases h2 : hval c2.toNat with
          | none =>
            have HV := Lib.hid (HF.out (.inr h2))
            have q1 : isB (hval c1.toNat) = true := by rw [h1]; rfl
            have q2 : isB (hval c2.toNat) = false := by rw [h2]; rfl
            clear h1 h2 HF HS HD
            go_wp2_with fail
            refine (refValue_any _ _).mono ?_
            rintro e wx ⟨rfl, rfl⟩
            go_wp2_with fail
            refine (refValue_any _ _).mono ?_
            rintro e wx ⟨rfl, rfl⟩
            go_wp2_with fail
            go_ret2
            exact ⟨_, 0, 0, by rw [HV.out]; rfl, by rw [HV.out]; exact hempty _, hW.alloc hW.size _⟩
          | some y =>
            have q1 : isB (hval c1.toNat) = true := by rw [h1]; rfl
            have q2 : isB (hval c2.toNat) = true := by rw [h2]; rfl
            have q1' : valOf (hval c1.toNat) = (x : Int) := by rw [h1]; rfl
            have q2' : valOf (hval c2.toNat) = (y : Int) := by rw [h2]; rfl
            have lx := hval_lt _ _ h1
            have ly := hval_lt _ _ h2
            have HV := Lib.hid (HS.out x y h1 h2)
            obtain ⟨z, hz⟩ : ∃ z : Nat, z = 16 * x + y := ⟨_, rfl⟩
            rw [← hz] at HV
            have q3 : 16 * (x : Int) + (y : Int) = (z : Int) := by omega
            have lz : z < 256 := by omega
            clear h1 h2 HF HS HD hz
            go_wp2_with fail
            refine (refValue_any _ _).mono ?_
            rintro e wx ⟨rfl, rfl⟩
            go_wp2_with fail
            refine (refValue_any _ _).mono ?_
            rintro e wx ⟨rfl, rfl⟩
            go_wp2_with (at_builtin; go_loud (refine wpList_append_sl rfl (.tmp 44) (.tmp 49) 22 rfl w.heap.size 5 i0 Try.underlying22 hi hz0 hz1 hz2 _ d.length d rfl (hown.alloc _) (some ⟨World.heap _ |>.size, 0, none⟩) 1 1 [UInt8.ofNat z] rfl (sl_cell_nat _ _ z lz (cell_new _ _ _ rfl)) (by omega) (by have := hW.size; simp; omega) ?_); intro v1 w1 hown1 hg1)
            have hW1 := (hW.alloc hW.size _).grown hg1 (by have := hW.size; simp; omega) (fun k hk => (hown.lt k hk).1)
            go_wp2_with fail
            go_roundw
            case rel => exact ⟨k + 2, d ++ [UInt8.ofNat z], by omega, Lib.hid (by have := HK.out; omega), by go_num, by simpa using hown1, HV, by simp; omega, hW1⟩
            case measure => simp [intOf]; omega
      · obtain rfl : k = s.size := by omega
        have HV := Lib.hid (show R = some d by
          have := HD.out; rw [List.drop_of_length_le (by simp)] at this; simpa [unhex] using this)
        clear HD
        go_wp2_with fail
        obtain ⟨a, c, rfl, hsl⟩ := Sl.ofOwns hown
        go_ret2
        exact ⟨a, d.length, c, by rw [HV.out]; rfl, by rw [HV.out]; exact hsl, hW⟩
end Go.Proofs.Ytpdkbbenoipohaa

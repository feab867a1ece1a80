/- octet.GetLen and the document's Len: what they compute. -/
import Derived.Test.YtcflgoddfakepaaDoorDec
import Derived.Deep.QuietTactic
import Derived.BigQuiet
import Derived.WalkLawsBesides
import Derived.WalkSmall
namespace Go.Proofs.YtcflgoddfakepaaDoor
open Go.RowKit

theorem Sl.some {w : World} {a : Option Addr} {len cap : Nat} {l : List UInt8} (h : Sl w a len cap l) (hl : 0 < len) : ∃ b o, a = Option.some ⟨b, o, none⟩ ∧ (∀ i, i < len → w.cell? ⟨b, o + i, none⟩ = Option.some (.int .u8 ((l.getD i 0).toNat : Int))) ∧ b < w.heap.size := by
  have hlt := h.lt
  rcases h.2.2.2.2 with h4 | ⟨b, o, rfl, h4⟩
  · omega
  · exact ⟨b, o, rfl, h4, hlt b o (by omega) rfl⟩

def isD (c : UInt8) : Prop := 48 ≤ c.toNat ∧ c.toNat ≤ 57
instance (c : UInt8) : Decidable (isD c) := by unfold isD; infer_instance

/-- the number that begins there, and how many digits it has; none: it is above M -/
def lenScan (M : Nat) : Nat → List UInt8 → Option (Nat × Nat)
  | n, [] => some (n, 0)
  | n, c :: t => if isD c then (if M < 10 * n + (c.toNat - 48) then none else (lenScan M (10 * n + (c.toNat - 48)) t).map fun p => (p.1, p.2 + 1)) else some (n, 0)
/-- the length at a place: the number, the place behind it, the error -/
def lenR (l : List UInt8) (at' : Int) (M : Nat) : Int × Int × Int :=
  if at' < 0 then (0, at', 1) else if (l.length : Int) ≤ at' then (0, at', 2) else
  if ¬ isD (l.getD at'.toNat 0) then (0, at', 3) else if l.getD at'.toNat 0 = 48 then (0, at' + 1, 0) else
  match lenScan M 0 (l.drop at'.toNat) with
  | none => (0, at', 4)
  | some (n, k) => (n, at' + k, 0)
theorem lenScan_step (M n : Nat) (l : List UInt8) (i : Nat) (h : i < l.length) (c : UInt8) (hc : c = l.getD i 0) :
    lenScan M n (l.drop i) = if isD c then (if M < 10 * n + (c.toNat - 48) then none else (lenScan M (10 * n + (c.toNat - 48)) (l.drop (i + 1))).map fun p => (p.1, p.2 + 1)) else some (n, 0) := by
  rw [List.drop_eq_getElem_cons h, lenScan]
  have e : l[i] = c := by rw [hc]; simp [List.getD_eq_getElem?_getD, h]
  rw [e]
theorem lenScan_end (M n : Nat) (l : List UInt8) (i : Nat) (h : l.length ≤ i) : lenScan M n (l.drop i) = some (n, 0) := by rw [List.drop_of_length_le h, lenScan]
theorem map_two (o : Option (Nat × Nat)) (k : Nat) : (o.map fun p => (p.1, p.2 + 1)).map (fun p => (p.1, p.2 + k)) = o.map fun p => (p.1, p.2 + (k + 1)) := by
  cases o <;> simp; omega
def LenP (r : Int × Int × Int) (w : World) (e : Ending) (w' : World) : Prop := e = .returned (.tuple #[.int .i64 r.1, .int .i64 r.2.1, .int .i64 r.2.2]) ∧ Below w.heap.size w w'

set_option maxHeartbeats 8000000 in
set_option maxRecDepth 100000 in
theorem getLen_any (a : Option Addr) (len cap : Nat) (l : List UInt8) (at' most : Int) (M : Nat) (w : World) (hs : Sl w a len cap l) (hn : len ≤ 1000000) (hat0 : -9223372036854775808 ≤ at') (hat : at' ≤ 9223372036854775807) (hm : max most 0 = (M : Int)) (hM : M ≤ 9223372036854775807) :
    Calls Tryd.prog 50 #[.slice a len cap, .int .i64 at', .int .i64 most] w (LenP (lenR l at' M) w) := by
  have HS := Lib.hid hs
  have HL := Lib.hid hs.1
  clear hs
  obtain ⟨R, hR⟩ : ∃ R, R = lenR l at' M := ⟨_, rfl⟩
  rw [← hR]
  have HR := Lib.hid hR
  clear hR
  by_cases h1 : at' < 0
  · have HE := Lib.hid (show R = (0, at', 1) by rw [HR.out, lenR, if_pos h1])
    go_enter Tryd.func50, Tryd.ntmps50
    go_wp2_with fail
    exact bodyPost_ret (v := .tuple #[.int .i64 0, .int .i64 at', .int .i64 1]) (by simp [results, Tryd.results50, go_sem]) rfl ⟨by rw [HE.out], Below.refl _ _⟩
  replace h1 : 0 ≤ at' := by omega
  by_cases h2 : (len : Int) ≤ at'
  · have HE := Lib.hid (show R = (0, at', 2) by rw [HR.out, lenR, if_neg (by omega), if_pos (by rw [← HL.out]; exact h2)])
    go_enter Tryd.func50, Tryd.ntmps50
    go_wp2_with fail
    exact bodyPost_ret (v := .tuple #[.int .i64 0, .int .i64 at', .int .i64 2]) (by simp [results, Tryd.results50, go_sem]) rfl ⟨by rw [HE.out], Below.refl _ _⟩
  replace h2 : at' < (len : Int) := by omega
  obtain ⟨p, rfl⟩ : ∃ p : Nat, at' = (p : Int) := ⟨at'.toNat, by omega⟩
  obtain ⟨b, o, rfl, hcc, _⟩ := HS.out.some (by omega)
  have c0 := hcc p (by omega)
  have HC := Lib.hid hcc
  obtain ⟨x, hx⟩ : ∃ x, x = l.getD p 0 := ⟨_, rfl⟩
  rw [← hx] at c0
  have HX := Lib.hid hx
  have hx255 := x.toNat_lt
  have HR2 := Lib.hid (show R = if ¬ isD x then ((0 : Int), (p : Int), (3 : Int)) else if x = 48 then ((0 : Int), (p : Int) + 1, (0 : Int)) else
      match lenScan M 0 (l.drop p) with
      | none => ((0 : Int), (p : Int), (4 : Int))
      | some (n, k) => ((n : Int), (p : Int) + k, (0 : Int)) by
    rw [HR.out, lenR, if_neg (by omega), if_neg (by rw [← HL.out]; omega), Int.toNat_natCast, ← HX.out])
  clear hcc hx
  by_cases h3 : (x.toNat : Int) < 48
  · have HE := Lib.hid (show R = (0, (p : Int), 3) by rw [HR2.out, if_pos (by unfold isD; omega)])
    go_enter Tryd.func50, Tryd.ntmps50
    go_wp2_with fail
    exact bodyPost_ret (v := .tuple #[.int .i64 0, .int .i64 (p : Int), .int .i64 3]) (by simp [results, Tryd.results50, go_sem]) rfl ⟨by rw [HE.out], Below.refl _ _⟩
  replace h3 : (48 : Int) ≤ x.toNat := by omega
  by_cases h4 : (57 : Int) < x.toNat
  · have HE := Lib.hid (show R = (0, (p : Int), 3) by rw [HR2.out, if_pos (by unfold isD; omega)])
    go_enter Tryd.func50, Tryd.ntmps50
    go_wp2_with fail
    exact bodyPost_ret (v := .tuple #[.int .i64 0, .int .i64 (p : Int), .int .i64 3]) (by simp [results, Tryd.results50, go_sem]) rfl ⟨by rw [HE.out], Below.refl _ _⟩
  replace h4 : (x.toNat : Int) ≤ 57 := by omega
  have HR3 := Lib.hid (HR2.out.trans (if_neg (by unfold isD; omega)))
  by_cases h5 : x = 48
  · have HE := Lib.hid (show R = (0, (p : Int) + 1, 0) by rw [HR3.out, if_pos h5])
    have t5 : ((x.toNat : Int) == 48) = true := by rw [h5]; rfl
    have H5 := Lib.hid h5
    clear h5
    go_enter Tryd.func50, Tryd.ntmps50
    go_wp2_with fail
    exact bodyPost_ret (v := .tuple #[.int .i64 0, .int .i64 ((p : Int) + 1), .int .i64 0]) (by simp [results, Tryd.results50, go_sem]) rfl ⟨by rw [HE.out], Below.refl _ _⟩
  have t5 : ((x.toNat : Int) == 48) = false := by
    have : x.toNat ≠ 48 := fun h => h5 (UInt8.toNat_inj.1 h)
    simp; omega
  have HR4 := Lib.hid (HR3.out.trans (if_neg h5))
  have H5 := Lib.hid h5
  clear h5
  obtain ⟨Z, hZ⟩ : ∃ Z, Z = lenScan M 0 (l.drop p) := ⟨_, rfl⟩
  rw [← hZ] at HR4
  have HZ := Lib.hid hZ
  clear hZ
  go_enter Tryd.func50, Tryd.ntmps50
  go_wp2_with fail
  clear t5 h3 h4 c0 hx255
  go_loop [9, 10] (fun n' i' => ∃ m k : Nat, p + k ≤ len ∧ m ≤ M ∧ n' = .int .i64 m ∧ i' = .int .i64 ((p : Int) + (k : Int)) ∧ Hid (Z = (lenScan M m (l.drop (p + k))).map fun q => (q.1, q.2 + k))) (fun _ i' => len - (intOf i').toNat)
  case atStart => exact ⟨0, 0, by omega, Nat.zero_le _, rfl, by go_num, Lib.hid (by rw [HZ.out]; simp)⟩
  case round =>
    obtain ⟨m, k, hk, hmM, rfl, rfl, HD⟩ := hrel
    obtain ⟨i, hi⟩ : ∃ i : Nat, i = p + k := ⟨_, rfl⟩
    have hik : (p : Int) + (k : Int) = (i : Int) := by omega
    rw [hik]
    have HI := Lib.hid hi
    have HIK := Lib.hid hik
    rw [← hi] at hk HD
    clear hik
    by_cases hlt : i < len
    · have c1 := HC.out i hlt
      obtain ⟨y, hy⟩ : ∃ y, y = l.getD i 0 := ⟨_, rfl⟩
      rw [← hy] at c1
      have HT := Lib.hid (lenScan_step M m l i (by have := HL.out; omega) y hy)
      have hy255 := y.toNat_lt
      have hiI : (i : Int) < len := by omega
      clear hy hi
      by_cases d1 : (48 : Int) ≤ y.toNat
      · by_cases d2 : (y.toNat : Int) ≤ 57
        · obtain ⟨d, hd⟩ : ∃ d : Nat, (y.toNat : Int) - 48 = (d : Int) := ⟨y.toNat - 48, by omega⟩
          have hd9 : d ≤ 9 := by omega
          have HDD := Lib.hid (show y.toNat - 48 = d by omega)
          have HT2 := Lib.hid (HT.out.trans (if_pos (show isD y by unfold isD; omega)))
          rw [HDD.out] at HT2
          by_cases hov : M < 10 * m + d
          · have HE := Lib.hid (show R = (0, (p : Int), 4) by rw [HR4.out, HD.out, HT2.out, if_pos hov]; rfl)
            have hw1 : IntKind.u8.wrap ((y.toNat : Int) - 48) = (d : Int) := by rw [IntKind.wrap_u8, hd]; omega
            by_cases hMd : (M : Int) < d
            · have q1 : ((M : Int) - d).tdiv 10 = 0 := by
                rw [show (M : Int) - d = -((d : Int) - M) by omega, Int.neg_tdiv, Int.tdiv_eq_ediv_of_nonneg (by omega)]; omega
              by_cases hm0 : (0 : Int) < m
              · go_wp2_with fail
                exact bodyPost_ret (v := .tuple #[.int .i64 0, .int .i64 p, .int .i64 4]) (by simp [results, Tryd.results50, go_sem]) rfl ⟨by rw [HE.out], Below.refl _ _⟩
              · have hm0' : (m : Int) ≤ 0 := by omega
                go_wp2_with fail
                exact bodyPost_ret (v := .tuple #[.int .i64 0, .int .i64 p, .int .i64 4]) (by simp [results, Tryd.results50, go_sem]) rfl ⟨by rw [HE.out], Below.refl _ _⟩
            · replace hMd : (d : Int) ≤ M := by omega
              have hMd0 : 0 ≤ (M : Int) - d := by omega
              have hq : ((M : Int) - d) / 10 < (m : Int) := by omega
              go_wp2_with fail
              exact bodyPost_ret (v := .tuple #[.int .i64 0, .int .i64 p, .int .i64 4]) (by simp [results, Tryd.results50, go_sem]) rfl ⟨by rw [HE.out], Below.refl _ _⟩
          · have HE := Lib.hid (show Z = (lenScan M (10 * m + d) (l.drop (p + (k + 1)))).map fun q => (q.1, q.2 + (k + 1)) by
              rw [HD.out, HT2.out, if_neg hov, map_two]; rw [show i + 1 = p + (k + 1) by have := HI.out; omega])
            have hMd : (d : Int) ≤ M := by omega
            have hMd0 : 0 ≤ (M : Int) - d := by omega
            have hq : (m : Int) ≤ ((M : Int) - d) / 10 := by omega
            have hmm : 10 * (m : Int) ≤ 9223372036854775807 := by omega
            have hmm2 : 10 * (m : Int) + d ≤ 9223372036854775807 := by omega
            go_wp2_with fail
            go_round
            case rel => exact ⟨10 * m + d, k + 1, by have := HI.out; omega, by omega, by go_num, by have := HIK.out; congr 1; omega, HE⟩
            case measure => simp [intOf]; omega
        · have d2' : (57 : Int) < y.toNat := by omega
          have HE := Lib.hid (show R = (((m : Nat) : Int), (i : Int), 0) by rw [HR4.out, HD.out, HT.out, if_neg (by unfold isD; omega)]; have := HI.out; simp; omega)
          clear d2
          go_wp2_with fail
          exact bodyPost_ret (v := .tuple #[.int .i64 m, .int .i64 i, .int .i64 0]) (by simp [results, Tryd.results50, go_sem]) rfl ⟨by rw [HE.out], Below.refl _ _⟩
      · have d1' : (y.toNat : Int) < 48 := by omega
        have HE := Lib.hid (show R = (((m : Nat) : Int), (i : Int), 0) by rw [HR4.out, HD.out, HT.out, if_neg (by unfold isD; omega)]; have := HI.out; simp; omega)
        clear d1
        go_wp2_with fail
        exact bodyPost_ret (v := .tuple #[.int .i64 m, .int .i64 i, .int .i64 0]) (by simp [results, Tryd.results50, go_sem]) rfl ⟨by rw [HE.out], Below.refl _ _⟩
    · obtain rfl : i = len := by omega
      have HE := Lib.hid (show R = (((m : Nat) : Int), (i : Int), 0) by rw [HR4.out, HD.out, lenScan_end _ _ _ _ (by have := HL.out; omega)]; have := HI.out; simp; omega)
      clear hi
      go_wp2_with fail
      exact bodyPost_ret (v := .tuple #[.int .i64 m, .int .i64 i, .int .i64 0]) (by simp [results, Tryd.results50, go_sem]) rfl ⟨by rw [HE.out], Below.refl _ _⟩

set_option maxHeartbeats 8000000 in
set_option maxRecDepth 100000 in
theorem refLen_any (a : Option Addr) (len cap : Nat) (l : List UInt8) (at' most : Int) (M : Nat) (w : World) (hs : Sl w a len cap l) (hn : len ≤ 1000000) (hat0 : -9223372036854775808 ≤ at') (hat : at' ≤ 9223372036854775807) (hm : max most 0 = (M : Int)) (hM : M ≤ 1000000000000000) :
    Calls Tryd.prog 48 #[.slice a len cap, .int .i64 at', .int .i64 most] w (LenP (lenR l at' M) w) := by
  have HS := Lib.hid hs
  have HL := Lib.hid hs.1
  clear hs
  obtain ⟨R, hR⟩ : ∃ R, R = lenR l at' M := ⟨_, rfl⟩
  rw [← hR]
  have HR := Lib.hid hR
  clear hR
  by_cases h1 : at' < 0
  · have HE := Lib.hid (show R = (0, at', 1) by rw [HR.out, lenR, if_pos h1])
    go_enter Tryd.func48, Tryd.ntmps48
    go_wp2_with fail
    exact bodyPost_ret (v := .tuple #[.int .i64 0, .int .i64 at', .int .i64 1]) (by simp [results, Tryd.results48, go_sem]) rfl ⟨by rw [HE.out], Below.refl _ _⟩
  replace h1 : 0 ≤ at' := by omega
  by_cases h2 : (len : Int) ≤ at'
  · have HE := Lib.hid (show R = (0, at', 2) by rw [HR.out, lenR, if_neg (by omega), if_pos (by rw [← HL.out]; exact h2)])
    go_enter Tryd.func48, Tryd.ntmps48
    go_wp2_with fail
    exact bodyPost_ret (v := .tuple #[.int .i64 0, .int .i64 at', .int .i64 2]) (by simp [results, Tryd.results48, go_sem]) rfl ⟨by rw [HE.out], Below.refl _ _⟩
  replace h2 : at' < (len : Int) := by omega
  obtain ⟨p, rfl⟩ : ∃ p : Nat, at' = (p : Int) := ⟨at'.toNat, by omega⟩
  obtain ⟨b, o, rfl, hcc, _⟩ := HS.out.some (by omega)
  have c0 := hcc p (by omega)
  have HC := Lib.hid hcc
  obtain ⟨x, hx⟩ : ∃ x, x = l.getD p 0 := ⟨_, rfl⟩
  rw [← hx] at c0
  have HX := Lib.hid hx
  have hx255 := x.toNat_lt
  have HR2 := Lib.hid (show R = if ¬ isD x then ((0 : Int), (p : Int), (3 : Int)) else if x = 48 then ((0 : Int), (p : Int) + 1, (0 : Int)) else
      match lenScan M 0 (l.drop p) with
      | none => ((0 : Int), (p : Int), (4 : Int))
      | some (n, k) => ((n : Int), (p : Int) + k, (0 : Int)) by
    rw [HR.out, lenR, if_neg (by omega), if_neg (by rw [← HL.out]; omega), Int.toNat_natCast, ← HX.out])
  clear hcc hx
  by_cases h3 : (x.toNat : Int) < 48
  · have HE := Lib.hid (show R = (0, (p : Int), 3) by rw [HR2.out, if_pos (by unfold isD; omega)])
    go_enter Tryd.func48, Tryd.ntmps48
    go_wp2_with fail
    exact bodyPost_ret (v := .tuple #[.int .i64 0, .int .i64 (p : Int), .int .i64 3]) (by simp [results, Tryd.results48, go_sem]) rfl ⟨by rw [HE.out], Below.refl _ _⟩
  replace h3 : (48 : Int) ≤ x.toNat := by omega
  by_cases h4 : (57 : Int) < x.toNat
  · have HE := Lib.hid (show R = (0, (p : Int), 3) by rw [HR2.out, if_pos (by unfold isD; omega)])
    go_enter Tryd.func48, Tryd.ntmps48
    go_wp2_with fail
    exact bodyPost_ret (v := .tuple #[.int .i64 0, .int .i64 (p : Int), .int .i64 3]) (by simp [results, Tryd.results48, go_sem]) rfl ⟨by rw [HE.out], Below.refl _ _⟩
  replace h4 : (x.toNat : Int) ≤ 57 := by omega
  have HR3 := Lib.hid (HR2.out.trans (if_neg (by unfold isD; omega)))
  by_cases h5 : x = 48
  · have HE := Lib.hid (show R = (0, (p : Int) + 1, 0) by rw [HR3.out, if_pos h5])
    have t5 : ((x.toNat : Int) == 48) = true := by rw [h5]; rfl
    have H5 := Lib.hid h5
    clear h5
    go_enter Tryd.func48, Tryd.ntmps48
    go_wp2_with fail
    exact bodyPost_ret (v := .tuple #[.int .i64 0, .int .i64 ((p : Int) + 1), .int .i64 0]) (by simp [results, Tryd.results48, go_sem]) rfl ⟨by rw [HE.out], Below.refl _ _⟩
  have t5 : ((x.toNat : Int) == 48) = false := by
    have : x.toNat ≠ 48 := fun h => h5 (UInt8.toNat_inj.1 h)
    simp; omega
  have HR4 := Lib.hid (HR3.out.trans (if_neg h5))
  have H5 := Lib.hid h5
  clear h5
  obtain ⟨Z, hZ⟩ : ∃ Z, Z = lenScan M 0 (l.drop p) := ⟨_, rfl⟩
  rw [← hZ] at HR4
  have HZ := Lib.hid hZ
  clear hZ
  go_enter Tryd.func48, Tryd.ntmps48
  go_wp2_with fail
  clear t5 h3 h4 c0 hx255
  go_loop [9, 10] (fun n' i' => ∃ m k : Nat, p + k ≤ len ∧ m ≤ M ∧ n' = .int .i64 m ∧ i' = .int .i64 ((p : Int) + (k : Int)) ∧ Hid (Z = (lenScan M m (l.drop (p + k))).map fun q => (q.1, q.2 + k))) (fun _ i' => len - (intOf i').toNat)
  case atStart => exact ⟨0, 0, by omega, Nat.zero_le _, rfl, by go_num, Lib.hid (by rw [HZ.out]; simp)⟩
  case round =>
    obtain ⟨m, k, hk, hmM, rfl, rfl, HD⟩ := hrel
    obtain ⟨i, hi⟩ : ∃ i : Nat, i = p + k := ⟨_, rfl⟩
    have hik : (p : Int) + (k : Int) = (i : Int) := by omega
    rw [hik]
    have HI := Lib.hid hi
    have HIK := Lib.hid hik
    rw [← hi] at hk HD
    clear hik
    by_cases hlt : i < len
    · have c1 := HC.out i hlt
      obtain ⟨y, hy⟩ : ∃ y, y = l.getD i 0 := ⟨_, rfl⟩
      rw [← hy] at c1
      have HT := Lib.hid (lenScan_step M m l i (by have := HL.out; omega) y hy)
      have hy255 := y.toNat_lt
      have hiI : (i : Int) < len := by omega
      clear hy hi
      by_cases d1 : (48 : Int) ≤ y.toNat
      · by_cases d2 : (y.toNat : Int) ≤ 57
        · obtain ⟨d, hd⟩ : ∃ d : Nat, (y.toNat : Int) - 48 = (d : Int) := ⟨y.toNat - 48, by omega⟩
          have hd9 : d ≤ 9 := by omega
          have HDD := Lib.hid (show y.toNat - 48 = d by omega)
          have HT2 := Lib.hid (HT.out.trans (if_pos (show isD y by unfold isD; omega)))
          rw [HDD.out] at HT2
          by_cases hov : M < 10 * m + d
          · have HE := Lib.hid (show R = (0, (p : Int), 4) by rw [HR4.out, HD.out, HT2.out, if_pos hov]; rfl)
            have hw1 : IntKind.u8.wrap ((y.toNat : Int) - 48) = (d : Int) := by rw [IntKind.wrap_u8, hd]; omega
            have hm9 : (m : Int) ≤ 900000000000000000 := by omega
            have hov' : (M : Int) < 10 * m + d := by omega
            go_wp2_with fail
            exact bodyPost_ret (v := .tuple #[.int .i64 0, .int .i64 p, .int .i64 4]) (by simp [results, Tryd.results48, go_sem]) rfl ⟨by rw [HE.out], Below.refl _ _⟩
          · have HE := Lib.hid (show Z = (lenScan M (10 * m + d) (l.drop (p + (k + 1)))).map fun q => (q.1, q.2 + (k + 1)) by
              rw [HD.out, HT2.out, if_neg hov, map_two]; rw [show i + 1 = p + (k + 1) by have := HI.out; omega])
            have hm9 : (m : Int) ≤ 900000000000000000 := by omega
            have hov' : 10 * (m : Int) + d ≤ M := by omega
            go_wp2_with fail
            go_round
            case rel => exact ⟨10 * m + d, k + 1, by have := HI.out; omega, by omega, by go_num, by have := HIK.out; congr 1; omega, HE⟩
            case measure => simp [intOf]; omega
        · have d2' : (57 : Int) < y.toNat := by omega
          have HE := Lib.hid (show R = (((m : Nat) : Int), (i : Int), 0) by rw [HR4.out, HD.out, HT.out, if_neg (by unfold isD; omega)]; have := HI.out; simp; omega)
          clear d2
          go_wp2_with fail
          exact bodyPost_ret (v := .tuple #[.int .i64 m, .int .i64 i, .int .i64 0]) (by simp [results, Tryd.results48, go_sem]) rfl ⟨by rw [HE.out], Below.refl _ _⟩
      · have d1' : (y.toNat : Int) < 48 := by omega
        have HE := Lib.hid (show R = (((m : Nat) : Int), (i : Int), 0) by rw [HR4.out, HD.out, HT.out, if_neg (by unfold isD; omega)]; have := HI.out; simp; omega)
        clear d1
        go_wp2_with fail
        exact bodyPost_ret (v := .tuple #[.int .i64 m, .int .i64 i, .int .i64 0]) (by simp [results, Tryd.results48, go_sem]) rfl ⟨by rw [HE.out], Below.refl _ _⟩
    · obtain rfl : i = len := by omega
      have HE := Lib.hid (show R = (((m : Nat) : Int), (i : Int), 0) by rw [HR4.out, HD.out, lenScan_end _ _ _ _ (by have := HL.out; omega)]; have := HI.out; simp; omega)
      clear hi
      go_wp2_with fail
      exact bodyPost_ret (v := .tuple #[.int .i64 m, .int .i64 i, .int .i64 0]) (by simp [results, Tryd.results48, go_sem]) rfl ⟨by rw [HE.out], Below.refl _ _⟩
end Go.Proofs.YtcflgoddfakepaaDoor

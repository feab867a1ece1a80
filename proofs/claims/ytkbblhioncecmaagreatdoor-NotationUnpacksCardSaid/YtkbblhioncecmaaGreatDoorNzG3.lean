/- octet.GetLen and the document's Len: what they compute. A length that is written is read: plain. No two trees have one form: plain. SexpOne: the walk. SexpLists: the walk. The program's Same: what it computes. An argument that is an S-expression: opened to its cells, as a tree. How a canonical form is read: plain. Lengths and bytes, read as they are written, and cut off: plain. Forms, read as they are written, cut off, and what is read: plain. The document's bytes: what it computes. The document's atom: what it computes. -/
import Derived.Test.YtkbblhioncecmaaGreatDoorNzG2
import Derived.Deep.QuietTactic
import Derived.BigQuiet
import Derived.WalkLawsBesides
import Derived.WalkSmall
import Derived.ChangeSlices
import Derived.WideShapes
import Derived.Deep.Slices
namespace Go.Proofs.YtkbblhioncecmaaGreatDoor
open Go.RowKit

theorem Sl.some {w : World} {a : Option Addr} {len cap : Nat} {l : List UInt8} (h : Sl w a len cap l) (hl : 0 < len) : ∃ b o, a = Option.some ⟨b, o, none⟩ ∧ (∀ i, i < len → w.cell? ⟨b, o + i, none⟩ = Option.some (.int .u8 ((l.getD i 0).toNat : Int))) ∧ b < w.heap.size := by
  have hlt := h.lt
  rcases h.2.2.2.2 with h4 | ⟨b, o, rfl, h4⟩
  · omega
  · exact ⟨b, o, rfl, h4, hlt b o (by omega) rfl⟩

def isD (c : UInt8) : Prop := 48 ≤ c.toNat ∧ c.toNat ≤ 57
instance (c : UInt8) : Decidable (isD c) := by unfold isD; infer_instance

/-- the number that begins there, and how many digits it has; none: it is above M -/
def lenScan (M : Nat) : Nat → List UInt8 → Option (Nat × Nat)
  | n, [] => some (n, 0)
  | n, c :: t => if isD c then (if M < 10 * n + (c.toNat - 48) then none else (lenScan M (10 * n + (c.toNat - 48)) t).map fun p => (p.1, p.2 + 1)) else some (n, 0)
/-- the length at a place: the number, the place behind it, the error -/
def lenR (l : List UInt8) (at' : Int) (M : Nat) : Int × Int × Int :=
  if at' < 0 then (0, at', 1) else if (l.length : Int) ≤ at' then (0, at', 2) else
  if ¬ isD (l.getD at'.toNat 0) then (0, at', 3) else if l.getD at'.toNat 0 = 48 then (0, at' + 1, 0) else
  match lenScan M 0 (l.drop at'.toNat) with
  | none => (0, at', 4)
  | some (n, k) => (n, at' + k, 0)
theorem lenScan_step (M n : Nat) (l : List UInt8) (i : Nat) (h : i < l.length) (c : UInt8) (hc : c = l.getD i 0) :
    lenScan M n (l.drop i) = if isD c then (if M < 10 * n + (c.toNat - 48) then none else (lenScan M (10 * n + (c.toNat - 48)) (l.drop (i + 1))).map fun p => (p.1, p.2 + 1)) else some (n, 0) := by
  rw [List.drop_eq_getElem_cons h, lenScan]
  have e : l[i] = c := by rw [hc]; simp [List.getD_eq_getElem?_getD, h]
  rw [e]
theorem lenScan_end (M n : Nat) (l : List UInt8) (i : Nat) (h : l.length ≤ i) : lenScan M n (l.drop i) = some (n, 0) := by rw [List.drop_of_length_le h, lenScan]
theorem map_two (o : Option (Nat × Nat)) (k : Nat) : (o.map fun p => (p.1, p.2 + 1)).map (fun p => (p.1, p.2 + k)) = o.map fun p => (p.1, p.2 + (k + 1)) := by
  cases o <;> simp; omega
def LenP (r : Int × Int × Int) (w : World) (e : Ending) (w' : World) : Prop := e = .returned (.tuple #[.int .i64 r.1, .int .i64 r.2.1, .int .i64 r.2.2]) ∧ Below w.heap.size w w'

set_option maxHeartbeats 8000000 in
set_option maxRecDepth 100000 in
theorem getLen_any (a : Option Addr) (len cap : Nat) (l : List UInt8) (at' most : Int) (M : Nat) (w : World) (hs : Sl w a len cap l) (hn : len ≤ 1000000) (hat0 : -9223372036854775808 ≤ at') (hat : at' ≤ 9223372036854775807) (hm : max most 0 = (M : Int)) (hM : M ≤ 9223372036854775807) :
    Calls Tryz.prog 73 #[.slice a len cap, .int .i64 at', .int .i64 most] w (LenP (lenR l at' M) w) := by
  have HS := Lib.hid hs
  have HL := Lib.hid hs.1
  clear hs
  obtain ⟨R, hR⟩ : ∃ R, R = lenR l at' M := ⟨_, rfl⟩
  rw [← hR]
  have HR := Lib.hid hR
  clear hR
  by_cases h1 : at' < 0
  · have HE := Lib.hid (show R = (0, at', 1) by rw [HR.out, lenR, if_pos h1])
    go_enter Tryz.func73, Tryz.ntmps73
    go_wp2_with fail
    exact bodyPost_ret (v := .tuple #[.int .i64 0, .int .i64 at', .int .i64 1]) (by simp [results, Tryz.results73, go_sem]) rfl ⟨by rw [HE.out], Below.refl _ _⟩
  replace h1 : 0 ≤ at' := by omega
  by_cases h2 : (len : Int) ≤ at'
  · have HE := Lib.hid (show R = (0, at', 2) by rw [HR.out, lenR, if_neg (by omega), if_pos (by rw [← HL.out]; exact h2)])
    go_enter Tryz.func73, Tryz.ntmps73
    go_wp2_with fail
    exact bodyPost_ret (v := .tuple #[.int .i64 0, .int .i64 at', .int .i64 2]) (by simp [results, Tryz.results73, go_sem]) rfl ⟨by rw [HE.out], Below.refl _ _⟩
  replace h2 : at' < (len : Int) := by omega
  obtain ⟨p, rfl⟩ : ∃ p : Nat, at' = (p : Int) := ⟨at'.toNat, by omega⟩
  obtain ⟨b, o, rfl, hcc, _⟩ := HS.out.some (by omega)
  have c0 := hcc p (by omega)
  have HC := Lib.hid hcc
  obtain ⟨x, hx⟩ : ∃ x, x = l.getD p 0 := ⟨_, rfl⟩
  rw [← hx] at c0
  have HX := Lib.hid hx
  have hx255 := x.toNat_lt
  have HR2 := Lib.hid (show R = if ¬ isD x then ((0 : Int), (p : Int), (3 : Int)) else if x = 48 then ((0 : Int), (p : Int) + 1, (0 : Int)) else
      match lenScan M 0 (l.drop p) with
      | none => ((0 : Int), (p : Int), (4 : Int))
      | some (n, k) => ((n : Int), (p : Int) + k, (0 : Int)) by
    rw [HR.out, lenR, if_neg (by omega), if_neg (by rw [← HL.out]; omega), Int.toNat_natCast, ← HX.out])
  clear hcc hx
  by_cases h3 : (x.toNat : Int) < 48
  · have HE := Lib.hid (show R = (0, (p : Int), 3) by rw [HR2.out, if_pos (by unfold isD; omega)])
    go_enter Tryz.func73, Tryz.ntmps73
    go_wp2_with fail
    exact bodyPost_ret (v := .tuple #[.int .i64 0, .int .i64 (p : Int), .int .i64 3]) (by simp [results, Tryz.results73, go_sem]) rfl ⟨by rw [HE.out], Below.refl _ _⟩
  replace h3 : (48 : Int) ≤ x.toNat := by omega
  by_cases h4 : (57 : Int) < x.toNat
  · have HE := Lib.hid (show R = (0, (p : Int), 3) by rw [HR2.out, if_pos (by unfold isD; omega)])
    go_enter Tryz.func73, Tryz.ntmps73
    go_wp2_with fail
    exact bodyPost_ret (v := .tuple #[.int .i64 0, .int .i64 (p : Int), .int .i64 3]) (by simp [results, Tryz.results73, go_sem]) rfl ⟨by rw [HE.out], Below.refl _ _⟩
  replace h4 : (x.toNat : Int) ≤ 57 := by omega
  have HR3 := Lib.hid (HR2.out.trans (if_neg (by unfold isD; omega)))
  by_cases h5 : x = 48
  · have HE := Lib.hid (show R = (0, (p : Int) + 1, 0) by rw [HR3.out, if_pos h5])
    have t5 : ((x.toNat : Int) == 48) = true := by rw [h5]; rfl
    have H5 := Lib.hid h5
    clear h5
    go_enter Tryz.func73, Tryz.ntmps73
    go_wp2_with fail
    exact bodyPost_ret (v := .tuple #[.int .i64 0, .int .i64 ((p : Int) + 1), .int .i64 0]) (by simp [results, Tryz.results73, go_sem]) rfl ⟨by rw [HE.out], Below.refl _ _⟩
  have t5 : ((x.toNat : Int) == 48) = false := by
    have : x.toNat ≠ 48 := fun h => h5 (UInt8.toNat_inj.1 h)
    simp; omega
  have HR4 := Lib.hid (HR3.out.trans (if_neg h5))
  have H5 := Lib.hid h5
  clear h5
  obtain ⟨Z, hZ⟩ : ∃ Z, Z = lenScan M 0 (l.drop p) := ⟨_, rfl⟩
  rw [← hZ] at HR4
  have HZ := Lib.hid hZ
  clear hZ
  go_enter Tryz.func73, Tryz.ntmps73
  go_wp2_with fail
  clear t5 h3 h4 c0 hx255
  go_loop [9, 10] (fun n' i' => ∃ m k : Nat, p + k ≤ len ∧ m ≤ M ∧ n' = .int .i64 m ∧ i' = .int .i64 ((p : Int) + (k : Int)) ∧ Hid (Z = (lenScan M m (l.drop (p + k))).map fun q => (q.1, q.2 + k))) (fun _ i' => len - (intOf i').toNat)
  case atStart => exact ⟨0, 0, by omega, Nat.zero_le _, rfl, by go_num, Lib.hid (by rw [HZ.out]; simp)⟩
  case round =>
    obtain ⟨m, k, hk, hmM, rfl, rfl, HD⟩ := hrel
    obtain ⟨i, hi⟩ : ∃ i : Nat, i = p + k := ⟨_, rfl⟩
    have hik : (p : Int) + (k : Int) = (i : Int) := by omega
    rw [hik]
    have HI := Lib.hid hi
    have HIK := Lib.hid hik
    rw [← hi] at hk HD
    clear hik
    by_cases hlt : i < len
    · have c1 := HC.out i hlt
      obtain ⟨y, hy⟩ : ∃ y, y = l.getD i 0 := ⟨_, rfl⟩
      rw [← hy] at c1
      have HT := Lib.hid (lenScan_step M m l i (by have := HL.out; omega) y hy)
      have hy255 := y.toNat_lt
      have hiI : (i : Int) < len := by omega
      clear hy hi
      by_cases d1 : (48 : Int) ≤ y.toNat
      · by_cases d2 : (y.toNat : Int) ≤ 57
        · obtain ⟨d, hd⟩ : ∃ d : Nat, (y.toNat : Int) - 48 = (d : Int) := ⟨y.toNat - 48, by omega⟩
          have hd9 : d ≤ 9 := by omega
          have HDD := Lib.hid (show y.toNat - 48 = d by omega)
          have HT2 := Lib.hid (HT.out.trans (if_pos (show isD y by unfold isD; omega)))
          rw [HDD.out] at HT2
          by_cases hov : M < 10 * m + d
          · have HE := Lib.hid (show R = (0, (p : Int), 4) by rw [HR4.out, HD.out, HT2.out, if_pos hov]; rfl)
            have hw1 : IntKind.u8.wrap ((y.toNat : Int) - 48) = (d : Int) := by rw [IntKind.wrap_u8, hd]; omega
            by_cases hMd : (M : Int) < d
            · have q1 : ((M : Int) - d).tdiv 10 = 0 := by
                rw [show (M : Int) - d = -((d : Int) - M) by omega, Int.neg_tdiv, Int.tdiv_eq_ediv_of_nonneg (by omega)]; omega
              by_cases hm0 : (0 : Int) < m
              · go_wp2_with fail
                exact bodyPost_ret (v := .tuple #[.int .i64 0, .int .i64 p, .int .i64 4]) (by simp [results, Tryz.results73, go_sem]) rfl ⟨by rw [HE.out], Below.refl _ _⟩
              · have hm0' : (m : Int) ≤ 0 := by omega
                go_wp2_with fail
                exact bodyPost_ret (v := .tuple #[.int .i64 0, .int .i64 p, .int .i64 4]) (by simp [results, Tryz.results73, go_sem]) rfl ⟨by rw [HE.out], Below.refl _ _⟩
            · replace hMd : (d : Int) ≤ M := by omega
              have hMd0 : 0 ≤ (M : Int) - d := by omega
              have hq : ((M : Int) - d) / 10 < (m : Int) := by omega
              go_wp2_with fail
              exact bodyPost_ret (v := .tuple #[.int .i64 0, .int .i64 p, .int .i64 4]) (by simp [results, Tryz.results73, go_sem]) rfl ⟨by rw [HE.out], Below.refl _ _⟩
          · have HE := Lib.hid (show Z = (lenScan M (10 * m + d) (l.drop (p + (k + 1)))).map fun q => (q.1, q.2 + (k + 1)) by
              rw [HD.out, HT2.out, if_neg hov, map_two]; rw [show i + 1 = p + (k + 1) by have := HI.out; omega])
            have hMd : (d : Int) ≤ M := by omega
            have hMd0 : 0 ≤ (M : Int) - d := by omega
            have hq : (m : Int) ≤ ((M : Int) - d) / 10 := by omega
            have hmm : 10 * (m : Int) ≤ 9223372036854775807 := by omega
            have hmm2 : 10 * (m : Int) + d ≤ 9223372036854775807 := by omega
            go_wp2_with fail
            go_round
            case rel => exact ⟨10 * m + d, k + 1, by have := HI.out; omega, by omega, by go_num, by have := HIK.out; congr 1; omega, HE⟩
            case measure => simp [intOf]; omega
        · have d2' : (57 : Int) < y.toNat := by omega
          have HE := Lib.hid (show R = (((m : Nat) : Int), (i : Int), 0) by rw [HR4.out, HD.out, HT.out, if_neg (by unfold isD; omega)]; have := HI.out; simp; omega)
          clear d2
          go_wp2_with fail
          exact bodyPost_ret (v := .tuple #[.int .i64 m, .int .i64 i, .int .i64 0]) (by simp [results, Tryz.results73, go_sem]) rfl ⟨by rw [HE.out], Below.refl _ _⟩
      · have d1' : (y.toNat : Int) < 48 := by omega
        have HE := Lib.hid (show R = (((m : Nat) : Int), (i : Int), 0) by rw [HR4.out, HD.out, HT.out, if_neg (by unfold isD; omega)]; have := HI.out; simp; omega)
        clear d1
        go_wp2_with fail
        exact bodyPost_ret (v := .tuple #[.int .i64 m, .int .i64 i, .int .i64 0]) (by simp [results, Tryz.results73, go_sem]) rfl ⟨by rw [HE.out], Below.refl _ _⟩
    · obtain rfl : i = len := by omega
      have HE := Lib.hid (show R = (((m : Nat) : Int), (i : Int), 0) by rw [HR4.out, HD.out, lenScan_end _ _ _ _ (by have := HL.out; omega)]; have := HI.out; simp; omega)
      clear hi
      go_wp2_with fail
      exact bodyPost_ret (v := .tuple #[.int .i64 m, .int .i64 i, .int .i64 0]) (by simp [results, Tryz.results73, go_sem]) rfl ⟨by rw [HE.out], Below.refl _ _⟩

set_option maxHeartbeats 8000000 in
set_option maxRecDepth 100000 in
theorem refLen_any (a : Option Addr) (len cap : Nat) (l : List UInt8) (at' most : Int) (M : Nat) (w : World) (hs : Sl w a len cap l) (hn : len ≤ 1000000) (hat0 : -9223372036854775808 ≤ at') (hat : at' ≤ 9223372036854775807) (hm : max most 0 = (M : Int)) (hM : M ≤ 1000000000000000) :
    Calls Tryz.prog 82 #[.slice a len cap, .int .i64 at', .int .i64 most] w (LenP (lenR l at' M) w) := by
  have HS := Lib.hid hs
  have HL := Lib.hid hs.1
  clear hs
  obtain ⟨R, hR⟩ : ∃ R, R = lenR l at' M := ⟨_, rfl⟩
  rw [← hR]
  have HR := Lib.hid hR
  clear hR
  by_cases h1 : at' < 0
  · have HE := Lib.hid (show R = (0, at', 1) by rw [HR.out, lenR, if_pos h1])
    go_enter Tryz.func82, Tryz.ntmps82
    go_wp2_with fail
    exact bodyPost_ret (v := .tuple #[.int .i64 0, .int .i64 at', .int .i64 1]) (by simp [results, Tryz.results82, go_sem]) rfl ⟨by rw [HE.out], Below.refl _ _⟩
  replace h1 : 0 ≤ at' := by omega
  by_cases h2 : (len : Int) ≤ at'
  · have HE := Lib.hid (show R = (0, at', 2) by rw [HR.out, lenR, if_neg (by omega), if_pos (by rw [← HL.out]; exact h2)])
    go_enter Tryz.func82, Tryz.ntmps82
    go_wp2_with fail
    exact bodyPost_ret (v := .tuple #[.int .i64 0, .int .i64 at', .int .i64 2]) (by simp [results, Tryz.results82, go_sem]) rfl ⟨by rw [HE.out], Below.refl _ _⟩
  replace h2 : at' < (len : Int) := by omega
  obtain ⟨p, rfl⟩ : ∃ p : Nat, at' = (p : Int) := ⟨at'.toNat, by omega⟩
  obtain ⟨b, o, rfl, hcc, _⟩ := HS.out.some (by omega)
  have c0 := hcc p (by omega)
  have HC := Lib.hid hcc
  obtain ⟨x, hx⟩ : ∃ x, x = l.getD p 0 := ⟨_, rfl⟩
  rw [← hx] at c0
  have HX := Lib.hid hx
  have hx255 := x.toNat_lt
  have HR2 := Lib.hid (show R = if ¬ isD x then ((0 : Int), (p : Int), (3 : Int)) else if x = 48 then ((0 : Int), (p : Int) + 1, (0 : Int)) else
      match lenScan M 0 (l.drop p) with
      | none => ((0 : Int), (p : Int), (4 : Int))
      | some (n, k) => ((n : Int), (p : Int) + k, (0 : Int)) by
    rw [HR.out, lenR, if_neg (by omega), if_neg (by rw [← HL.out]; omega), Int.toNat_natCast, ← HX.out])
  clear hcc hx
  by_cases h3 : (x.toNat : Int) < 48
  · have HE := Lib.hid (show R = (0, (p : Int), 3) by rw [HR2.out, if_pos (by unfold isD; omega)])
    go_enter Tryz.func82, Tryz.ntmps82
    go_wp2_with fail
    exact bodyPost_ret (v := .tuple #[.int .i64 0, .int .i64 (p : Int), .int .i64 3]) (by simp [results, Tryz.results82, go_sem]) rfl ⟨by rw [HE.out], Below.refl _ _⟩
  replace h3 : (48 : Int) ≤ x.toNat := by omega
  by_cases h4 : (57 : Int) < x.toNat
  · have HE := Lib.hid (show R = (0, (p : Int), 3) by rw [HR2.out, if_pos (by unfold isD; omega)])
    go_enter Tryz.func82, Tryz.ntmps82
    go_wp2_with fail
    exact bodyPost_ret (v := .tuple #[.int .i64 0, .int .i64 (p : Int), .int .i64 3]) (by simp [results, Tryz.results82, go_sem]) rfl ⟨by rw [HE.out], Below.refl _ _⟩
  replace h4 : (x.toNat : Int) ≤ 57 := by omega
  have HR3 := Lib.hid (HR2.out.trans (if_neg (by unfold isD; omega)))
  by_cases h5 : x = 48
  · have HE := Lib.hid (show R = (0, (p : Int) + 1, 0) by rw [HR3.out, if_pos h5])
    have t5 : ((x.toNat : Int) == 48) = true := by rw [h5]; rfl
    have H5 := Lib.hid h5
    clear h5
    go_enter Tryz.func82, Tryz.ntmps82
    go_wp2_with fail
    exact bodyPost_ret (v := .tuple #[.int .i64 0, .int .i64 ((p : Int) + 1), .int .i64 0]) (by simp [results, Tryz.results82, go_sem]) rfl ⟨by rw [HE.out], Below.refl _ _⟩
  have t5 : ((x.toNat : Int) == 48) = false := by
    have : x.toNat ≠ 48 := fun h => h5 (UInt8.toNat_inj.1 h)
    simp; omega
  have HR4 := Lib.hid (HR3.out.trans (if_neg h5))
  have H5 := Lib.hid h5
  clear h5
  obtain ⟨Z, hZ⟩ : ∃ Z, Z = lenScan M 0 (l.drop p) := ⟨_, rfl⟩
  rw [← hZ] at HR4
  have HZ := Lib.hid hZ
  clear hZ
  go_enter Tryz.func82, Tryz.ntmps82
  go_wp2_with fail
  clear t5 h3 h4 c0 hx255
  go_loop [9, 10] (fun n' i' => ∃ m k : Nat, p + k ≤ len ∧ m ≤ M ∧ n' = .int .i64 m ∧ i' = .int .i64 ((p : Int) + (k : Int)) ∧ Hid (Z = (lenScan M m (l.drop (p + k))).map fun q => (q.1, q.2 + k))) (fun _ i' => len - (intOf i').toNat)
  case atStart => exact ⟨0, 0, by omega, Nat.zero_le _, rfl, by go_num, Lib.hid (by rw [HZ.out]; simp)⟩
  case round =>
    obtain ⟨m, k, hk, hmM, rfl, rfl, HD⟩ := hrel
    obtain ⟨i, hi⟩ : ∃ i : Nat, i = p + k := ⟨_, rfl⟩
    have hik : (p : Int) + (k : Int) = (i : Int) := by omega
    rw [hik]
    have HI := Lib.hid hi
    have HIK := Lib.hid hik
    rw [← hi] at hk HD
    clear hik
    by_cases hlt : i < len
    · have c1 := HC.out i hlt
      obtain ⟨y, hy⟩ : ∃ y, y = l.getD i 0 := ⟨_, rfl⟩
      rw [← hy] at c1
      have HT := Lib.hid (lenScan_step M m l i (by have := HL.out; omega) y hy)
      have hy255 := y.toNat_lt
      have hiI : (i : Int) < len := by omega
      clear hy hi
      by_cases d1 : (48 : Int) ≤ y.toNat
      · by_cases d2 : (y.toNat : Int) ≤ 57
        · obtain ⟨d, hd⟩ : ∃ d : Nat, (y.toNat : Int) - 48 = (d : Int) := ⟨y.toNat - 48, by omega⟩
          have hd9 : d ≤ 9 := by omega
          have HDD := Lib.hid (show y.toNat - 48 = d by omega)
          have HT2 := Lib.hid (HT.out.trans (if_pos (show isD y by unfold isD; omega)))
          rw [HDD.out] at HT2
          by_cases hov : M < 10 * m + d
          · have HE := Lib.hid (show R = (0, (p : Int), 4) by rw [HR4.out, HD.out, HT2.out, if_pos hov]; rfl)
            have hw1 : IntKind.u8.wrap ((y.toNat : Int) - 48) = (d : Int) := by rw [IntKind.wrap_u8, hd]; omega
            have hm9 : (m : Int) ≤ 900000000000000000 := by omega
            have hov' : (M : Int) < 10 * m + d := by omega
            go_wp2_with fail
            exact bodyPost_ret (v := .tuple #[.int .i64 0, .int .i64 p, .int .i64 4]) (by simp [results, Tryz.results82, go_sem]) rfl ⟨by rw [HE.out], Below.refl _ _⟩
          · have HE := Lib.hid (show Z = (lenScan M (10 * m + d) (l.drop (p + (k + 1)))).map fun q => (q.1, q.2 + (k + 1)) by
              rw [HD.out, HT2.out, if_neg hov, map_two]; rw [show i + 1 = p + (k + 1) by have := HI.out; omega])
            have hm9 : (m : Int) ≤ 900000000000000000 := by omega
            have hov' : 10 * (m : Int) + d ≤ M := by omega
            go_wp2_with fail
            go_round
            case rel => exact ⟨10 * m + d, k + 1, by have := HI.out; omega, by omega, by go_num, by have := HIK.out; congr 1; omega, HE⟩
            case measure => simp [intOf]; omega
        · have d2' : (57 : Int) < y.toNat := by omega
          have HE := Lib.hid (show R = (((m : Nat) : Int), (i : Int), 0) by rw [HR4.out, HD.out, HT.out, if_neg (by unfold isD; omega)]; have := HI.out; simp; omega)
          clear d2
          go_wp2_with fail
          exact bodyPost_ret (v := .tuple #[.int .i64 m, .int .i64 i, .int .i64 0]) (by simp [results, Tryz.results82, go_sem]) rfl ⟨by rw [HE.out], Below.refl _ _⟩
      · have d1' : (y.toNat : Int) < 48 := by omega
        have HE := Lib.hid (show R = (((m : Nat) : Int), (i : Int), 0) by rw [HR4.out, HD.out, HT.out, if_neg (by unfold isD; omega)]; have := HI.out; simp; omega)
        clear d1
        go_wp2_with fail
        exact bodyPost_ret (v := .tuple #[.int .i64 m, .int .i64 i, .int .i64 0]) (by simp [results, Tryz.results82, go_sem]) rfl ⟨by rw [HE.out], Below.refl _ _⟩
    · obtain rfl : i = len := by omega
      have HE := Lib.hid (show R = (((m : Nat) : Int), (i : Int), 0) by rw [HR4.out, HD.out, lenScan_end _ _ _ _ (by have := HL.out; omega)]; have := HI.out; simp; omega)
      clear hi
      go_wp2_with fail
      exact bodyPost_ret (v := .tuple #[.int .i64 m, .int .i64 i, .int .i64 0]) (by simp [results, Tryz.results82, go_sem]) rfl ⟨by rw [HE.out], Below.refl _ _⟩
end Go.Proofs.YtkbblhioncecmaaGreatDoor
namespace Go.Proofs.YtkbblhioncecmaaGreatDoor
open Go.RowKit

def valA (a : Nat) (w : List UInt8) : Nat := w.foldl (fun a c => 10 * a + (c.toNat - 48)) a
theorem valA_nil (a : Nat) : valA a [] = a := by unfold valA; rw [List.foldl_nil]
theorem valA_cons (a : Nat) (c : UInt8) (t : List UInt8) : valA a (c :: t) = valA (10 * a + (c.toNat - 48)) t := by unfold valA; rw [List.foldl_cons]
theorem valA_snoc (w : List UInt8) (a : Nat) (c : UInt8) : valA a (w ++ [c]) = 10 * valA a w + (c.toNat - 48) := by
  unfold valA; rw [List.foldl_append, List.foldl_cons, List.foldl_nil]
theorem dec_facts : ∀ (u : Nat), (∀ c ∈ Lib.decDigits u, isD c) ∧ valA 0 (Lib.decDigits u) = u ∧ (0 < u → (Lib.decDigits u).getD 0 0 ≠ 48) ∧ 0 < (Lib.decDigits u).length := by
  intro u
  induction u using Nat.strongRecOn with
  | _ u ih =>
    rw [Lib.decDigits]
    split
    · rename_i h
      have e : (UInt8.ofNat (48 + u)).toNat = 48 + u := by simp; omega
      refine ⟨fun c hc => ?_, ?_, fun h0 => ?_, by simp⟩
      · rw [List.mem_singleton.1 hc]; unfold isD; rw [e]; omega
      · rw [valA_cons, valA_nil, e]; omega
      · show UInt8.ofNat (48 + u) ≠ 48
        intro h2
        have := congrArg UInt8.toNat h2
        rw [e] at this
        simp at this; omega
    · rename_i h
      obtain ⟨i1, i2, i3, i4⟩ := ih (u / 10) (by omega)
      have e : (UInt8.ofNat (48 + u % 10)).toNat = 48 + u % 10 := by simp; omega
      refine ⟨fun c hc => ?_, ?_, fun _ => ?_, by simp⟩
      · rcases List.mem_append.1 hc with hc | hc
        · exact i1 c hc
        · rw [List.mem_singleton.1 hc]; unfold isD; rw [e]; omega
      · rw [valA_snoc, i2, e]; omega
      · have := i3 (by omega)
        rw [List.getD_eq_getElem?_getD, List.getElem?_append_left i4, ← List.getD_eq_getElem?_getD]; exact this

end Go.Proofs.YtkbblhioncecmaaGreatDoor
namespace Go.Proofs.YtkbblhioncecmaaGreatDoor
open Go.RowKit

theorem not_isD {c : UInt8} (h : c.toNat < 48 ∨ 57 < c.toNat) : ¬ isD c := by unfold isD; omega
theorem numL_facts (n : Nat) : (∀ c ∈ numL (n : Int), isD c) ∧ valA 0 (numL (n : Int)) = n ∧ 0 < (numL (n : Int)).length := by
  have := dec_facts n
  unfold numL
  rw [Int.toNat_natCast]
  exact ⟨this.1, this.2.1, this.2.2.2⟩
theorem textL_head (l r : List UInt8) : ∃ c t, textL l ++ r = c :: t ∧ isD c := by
  obtain ⟨h1, _, h2⟩ := numL_facts l.length
  obtain ⟨c, t, e⟩ : ∃ c t, numL (l.length : Int) = c :: t := by
    cases e : numL (l.length : Int) with
    | nil => rw [e] at h2; cases h2
    | cons c t => exact ⟨c, t, rfl⟩
  refine ⟨c, t ++ 58 :: (l ++ r), ?_, h1 c (by rw [e]; exact List.mem_cons_self)⟩
  simp [textL, e]
/-- how a form begins -/
theorem form_head (s : Sx) (r : List UInt8) : ∃ c t, s.form ++ r = c :: t ∧ ((s.l = true ∧ c = 40) ∨ (s.l = false ∧ s.h = true ∧ c = 91) ∨ (s.l = false ∧ s.h = false ∧ isD c)) := by
  obtain ⟨l, h, hi, da, ks⟩ := s
  rw [form_def]
  cases l with
  | true => exact ⟨40, _, rfl, .inl ⟨rfl, rfl⟩⟩
  | false =>
    cases h with
    | true => exact ⟨91, _, rfl, .inr (.inl ⟨rfl, rfl, rfl⟩)⟩
    | false =>
      obtain ⟨c, t, e, hd⟩ := textL_head da r
      exact ⟨c, t, by simpa using e, .inr (.inr ⟨rfl, rfl, hd⟩)⟩
theorem clean_parts {l h : Bool} {hi da : List UInt8} {ks : List Sx} (hc : (Sx.mk l h hi da ks).clean = true) :
    (l = true → h = false ∧ hi = [] ∧ da = []) ∧ (l = false → ks = [] ∧ (h = false → hi = [])) ∧ ∀ k ∈ ks, k.clean = true := by
  rw [clean_def, Bool.and_eq_true] at hc
  refine ⟨fun e => ?_, fun e => ?_, fun k hk => ?_⟩
  · subst e; have := hc.1; unfold headOk at this; simpa [and_assoc] using this
  · subst e
    have := hc.1
    unfold headOk at this
    simp at this
    exact ⟨this.1, fun e => by subst e; simpa using this.2⟩
  · by_cases e : k.clean = true
    · exact e
    · have := Sx.cleanL_no hk (by simpa using e)
      rw [this] at hc
      cases hc.2
end Go.Proofs.YtkbblhioncecmaaGreatDoor
namespace Go.Proofs.YtkbblhioncecmaaGreatDoor
open Go.RowKit
set_option linter.unusedSimpArgs false
set_option linter.unusedVariables false

end Go.Proofs.YtkbblhioncecmaaGreatDoor
namespace Go.Proofs.YtkbblhioncecmaaGreatDoor
open Go.RowKit
set_option linter.unusedSimpArgs false
set_option linter.unusedVariables false

theorem wide_of (s : Sx) : ∀ m, s.clean = true → s.nodes ≤ 700 → s.form.length ≤ 5000 → s.deep + m ≤ 60 → s.wide m = false := by
  induction s using Sx.ind with
  | h l hh hi da ks ih =>
    intro m hc hn hf hd
    obtain ⟨p1, p2, p3⟩ := clean_parts hc
    have e1 : ∀ x : List UInt8, x.length ≤ (textL x).length := fun x => by simp [textL]; omega
    have hnd : ks.length ≤ Sx.nodesL ks := by
      clear ih hc hn hf hd p1 p2 p3
      induction ks with
      | nil => exact Nat.le_refl _
      | cons k r ihr => have := nodes_pos k; simp only [Sx.nodesL, List.length_cons]; omega
    simp only [Sx.nodes] at hn
    have hlen : hi.length ≤ 5000 ∧ da.length ≤ 5000 ∧ (Sx.formL ks).length ≤ 5000 := by
      rw [form_def] at hf
      have a1 := e1 hi
      have a2 := e1 da
      cases l with
      | true =>
        obtain ⟨_, rfl, rfl⟩ := p1 rfl
        simp only [if_true, List.length_cons, List.length_append, List.length_nil] at hf ⊢
        omega
      | false =>
        obtain ⟨rfl, p4⟩ := p2 rfl
        cases hh with
        | true => simp at hf; simp [Sx.formL]; omega
        | false =>
          obtain rfl := p4 rfl
          simp at hf
          simp [Sx.formL]
          omega
    have hkids : Sx.wideL ks (m + 1) = false := by
      have key : ∀ k ∈ ks, k.wide (m + 1) = false := fun k hk => by
        refine ih k hk (m + 1) (p3 k hk) ?_ ?_ ?_
        · have : k.nodes ≤ Sx.nodesL ks := by
            clear ih hc hn hf hd p1 p2 p3 hlen hnd
            induction ks with
            | nil => cases hk
            | cons a r ihr => rcases List.mem_cons.1 hk with rfl | hk
                              · simp only [Sx.nodesL]; omega
                              · have := ihr hk; simp only [Sx.nodesL]; omega
          omega
        · have := Sx.formL_mem hk; omega
        · have := Sx.deepL_mem hk
          cases l with
          | true => simp only [Sx.deep, if_true] at hd; omega
          | false => obtain ⟨rfl, _⟩ := p2 rfl; cases hk
      clear ih hc hn hf hd p1 p2 p3 hlen hnd
      induction ks with
      | nil => rfl
      | cons a r ihr => simp only [Sx.wideL, key a List.mem_cons_self, ihr (fun k hk => key k (List.mem_cons_of_mem _ hk))]; rfl
    rw [wide_def, decide_eq_false (show ¬ 60 < m by omega), decide_eq_false (show ¬ 700 < ks.length by omega), decide_eq_false (show ¬ 5000 < hi.length by omega), decide_eq_false (show ¬ 5000 < da.length by omega), hkids]
    rfl
theorem may_parts {s : Sx} (h : s.may = true) : s.clean = true ∧ s.nodes ≤ 512 ∧ s.deep ≤ 16 ∧ s.form.length ≤ 4096 := by
  simp only [Sx.may, Bool.and_eq_true, decide_eq_true_eq] at h
  exact ⟨h.1.1.1, h.1.1.2, h.1.2, h.2⟩
end Go.Proofs.YtkbblhioncecmaaGreatDoor
namespace Go.Proofs.YtkbblhioncecmaaGreatDoor
open Go.RowKit
set_option linter.unusedSimpArgs false
set_option linter.unusedVariables false

end Go.Proofs.YtkbblhioncecmaaGreatDoor
namespace Go.Proofs.YtkbblhioncecmaaGreatDoor
open Go.RowKit Go.ChangeShapes Go.WideShapes Go.ChangeAt

theorem cells_sx : Tryz.prog.cellsOf 4 = 1 ∧ Tryz.prog.cellsOf 23 = 1 ∧ Tryz.prog.cellsOf 24 = 1 ∧ Tryz.prog.cellsOf 26 = 5 ∧ Tryz.prog.cellsOf 5 = 1 := ⟨by kernel_rfl, by kernel_rfl, by kernel_rfl, by kernel_rfl, by kernel_rfl⟩

theorem bulk_nodes {H : Type} : ∀ (l : List (DataW H × List MemPlace)) (g : Nat → Sx), (∀ i (h : i < l.length), (g i).nodes ≤ Rows.uptoBulk l[i].1) → Sx.nodesL ((List.range l.length).map g) ≤ Rows.uptoBulkAll (l.map (·.1))
  | [], _, _ => by simp [Sx.nodesL]
  | x :: r, g, h => by
    rw [List.length_cons, List.range_succ_eq_map, List.map_cons, List.map_map]
    simp only [Sx.nodesL, List.map_cons, Rows.uptoBulkAll]
    have h0 := h 0 (by simp)
    have := bulk_nodes r (g ∘ Nat.succ) (fun i hi => by have := h (i + 1) (by simpa using hi); simpa using this)
    simp only [List.getElem_cons_zero] at h0
    omega

section
variable {H : Type} {enc : TypeId × Value → H} {W : World} {held : Bool}

theorem open_slU {fuel : Nat} {c : Value} {x : DataW H × List MemPlace} (h : DataW.trod enc Tryz.prog W 0 (fun _ => true) held fuel 23 [c] = some x) :
    ∃ (a : Option Addr) (n k : Nat) (l : List UInt8), c = .slice a n k ∧ Sl W a n k l := by
  rcases open_ints Tryz.underlying23 Tryz.underlying5 cells_sx.2.2.2.2 h with ⟨hcs, _⟩ | ⟨x, l, k, zs, hcs, _, hl, hm, hz, _, hcell, hwz⟩
  · simp at hcs
    exact ⟨none, 0, 0, [], hcs, Sl.nil W⟩
  · simp at hcs
    have hr : IsRow .u8 W (some x) l k zs := .inr ⟨_, rfl, hl, hm, by simpa using hz, hcell, hwz⟩
    obtain ⟨L, hL⟩ := hr.sl
    exact ⟨_, l, k, L, hcs, hL⟩

set_option maxRecDepth 100000 in
theorem open_sxf : ∀ (fuel : Nat) (cs : List Value) (x : DataW H × List MemPlace), DataW.trod enc Tryz.prog W 0 (fun _ => true) held fuel 26 cs = some x →
    ∃ (v : SV) (s : Sx), cs = v.cells.toList ∧ Rd W v s ∧ s.nodes ≤ Rows.uptoBulk x.1 := by
  intro fuel
  induction fuel using Nat.strongRecOn with
  | _ fuel ih =>
    intro cs x h
    obtain ⟨k1, k2, k3, k4, k5⟩ := cells_sx
    obtain ⟨xs, n, hf, rfl, hl, hxl, hg⟩ := DataW.trod_struct Tryz.underlying26 h
    rw [k4] at hl
    match cs, hl with
    | [c0, c1, c2, c3, c4], _ =>
      match xs, hxl with
      | [y0, y1, y2, y3, y4], _ =>
        have h0 : DataW.trod enc Tryz.prog W 0 (fun _ => true) held n 4 (([c0, c1, c2, c3, c4].drop 0).take (Tryz.prog.cellsOf 4)) = some y0 := hg 0 _ rfl
        have h1 : DataW.trod enc Tryz.prog W 0 (fun _ => true) held n 4 (([c0, c1, c2, c3, c4].drop 1).take (Tryz.prog.cellsOf 4)) = some y1 := hg 1 _ rfl
        have h2 : DataW.trod enc Tryz.prog W 0 (fun _ => true) held n 23 (([c0, c1, c2, c3, c4].drop 2).take (Tryz.prog.cellsOf 23)) = some y2 := hg 2 _ rfl
        have h3 : DataW.trod enc Tryz.prog W 0 (fun _ => true) held n 23 (([c0, c1, c2, c3, c4].drop 3).take (Tryz.prog.cellsOf 23)) = some y3 := hg 3 _ rfl
        have h4 : DataW.trod enc Tryz.prog W 0 (fun _ => true) held n 24 (([c0, c1, c2, c3, c4].drop 4).take (Tryz.prog.cellsOf 24)) = some y4 := hg 4 _ rfl
        rw [k1] at h0 h1
        rw [k2] at h2 h3
        rw [k3] at h4
        obtain ⟨bl, e0, _⟩ := DataW.trod_bool Tryz.underlying4 h0
        obtain ⟨bh, e1, _⟩ := DataW.trod_bool Tryz.underlying4 h1
        obtain ⟨a2, n2, q2, l2, rfl, s2⟩ := open_slU h2
        obtain ⟨a3, n3, q3, l3, rfl, s3⟩ := open_slU h3
        have e0' : c0 = .bool bl := by simpa using e0
        have e1' : c1 = .bool bh := by simpa using e1
        subst e0' e1'
        rcases DataW.trod_slice Tryz.underlying24 h4 with ⟨e4, rfl⟩ | ⟨a, len, cap, elems, rest, m, hm, e4, rfl, _, hlc, hcm, hel, hat, _, _⟩
        · have e4' : c4 = .slice none 0 0 := by simpa using e4
          subst e4'
          refine ⟨⟨bl, bh, a2, n2, q2, a3, n3, q3, none, 0, 0⟩, .mk bl bh l2 l3 [], rfl, .mk _ l2 l3 [] (fun _ => SV.nil) s2 (.inr fun _ _ _ _ => trivial) s3 (.inr fun _ _ _ _ => trivial) ⟨Nat.le_refl _, Nat.zero_le _, fun _ => rfl, .inl rfl⟩ (.inl rfl) rfl (fun i hi => by cases hi), ?_⟩
          simp only [Sx.nodes, Sx.nodesL, Rows.uptoBulk]
          omega
        · have e4' : c4 = .slice (some a) len cap := by simpa using e4
          subst e4'
          have key : ∀ i, i < len → ∃ p : SV × Sx, (∃ he : i < elems.length, p.2.nodes ≤ Rows.uptoBulk elems[i].1) ∧ W.cells? 0 (a.add (i * 5)) 5 = some p.1.cells.toList ∧ Rd W p.1 p.2 := fun i hi => by
            have hi' : i < elems.length := by omega
            have h5 := hat i hi
            rw [k4, List.getElem?_eq_getElem hi'] at h5
            obtain ⟨cs', hc1, hc2⟩ := Option.bind_eq_some_iff.1 h5
            obtain ⟨v, s, rfl, hrd, hnd⟩ := ih m (by omega) cs' _ hc2
            exact ⟨(v, s), ⟨hi', hnd⟩, hc1, hrd⟩
          haveI : Inhabited (SV × Sx) := ⟨(SV.nil, default)⟩
          obtain ⟨f, hf'⟩ := Go.Deep.choose_lt key
          obtain ⟨b, o, spot⟩ := a
          have hcell : ∀ i, i < len → ∀ j u, (f i).1.cells[j]? = some u → W.cell? (((⟨b, o, spot⟩ : Addr).add (i * 5)).add j) = some u := fun i hi j u hu => by
            have h6 := (hf' i hi).2.1
            unfold World.cells? at h6
            rw [if_pos (Nat.zero_le _)] at h6
            have hj : j < 5 := by have := (Array.getElem?_eq_some_iff.1 hu).1; rwa [SV.cells_size] at this
            have h7 := mapM_some_get h6 j j (by simp [hj])
            rw [h7]
            simpa using hu
          have hsp : len = 0 ∨ spot = none := by
            by_cases h0' : len = 0
            · exact .inl h0'
            · right
              have := World.cell?_spot (hcell 0 (by omega) 0 _ rfl)
              simpa [Addr.add] using this
          refine ⟨⟨bl, bh, a2, n2, q2, a3, n3, q3, some ⟨b, o, spot⟩, len, cap⟩, .mk bl bh l2 l3 ((List.range len).map fun i => (f i).2), rfl,
            .mk _ l2 l3 _ (fun i => (f i).1) s2 (.inr fun _ _ _ _ => trivial) s3 (.inr fun _ _ _ _ => trivial) ⟨hlc, hcm, (fun h => by cases h), ?_⟩ (.inr fun _ _ _ _ => trivial) (by simp) (fun i hi => ?_), ?_⟩
          · rcases hsp with h0' | rfl
            · exact .inl h0'
            · refine .inr ⟨b, o, rfl, fun i hi j u hu => ?_⟩
              have := hcell i hi j u hu
              rwa [Addr.add_mid, Addr.add_mid] at this
          · have hi' : i < len := by simpa using hi
            have := (hf' i hi').2.2
            simpa using this
          · have := bulk_nodes elems (fun i => (f i).2) (fun i hi => (hf' i (by omega)).1.2)
            rw [hel] at this
            simp only [Sx.nodes, Rows.uptoBulk, Rows.uptoBulkAll, List.map_cons, List.map_nil]
            omega

set_option maxRecDepth 100000 in
theorem open_sx {r : Reach} {b0 : Nat} {v : Value} {d : DataW H} {p : List MemPlace} (hv : Value.okWide Tryz.prog W r b0 26 v) (h : DataW.Trod enc Tryz.prog W 0 (fun _ => true) held 26 v d p) :
    ∃ (u : SV) (s : Sx), v = u.val ∧ Rd W u s ∧ s.nodes ≤ Rows.uptoBulk d := by
  obtain ⟨cs, rfl, hsz⟩ := okWide_struct Tryz.underlying26 hv
  obtain ⟨fuel, hf⟩ := h
  obtain ⟨u, s, e, hr, hn⟩ := open_sxf fuel _ _ hf
  refine ⟨u, s, ?_, hr, hn⟩
  have : cs = u.cells := by
    apply Array.ext'
    simpa [Value.cells] using e
  rw [this]
  rfl

end
end Go.Proofs.YtkbblhioncecmaaGreatDoor
namespace Go.Proofs.YtkbblhioncecmaaGreatDoor
open Go.RowKit

/-- bytes with their length, at a place: the bytes, the place behind, the error -/
def rBytes (l : List UInt8) (p : Nat) : List UInt8 × Nat × Nat :=
  let r := lenR l p 4096
  if r.2.2 = 2 then ([], l.length, 2) else if r.2.2 ≠ 0 then ([], p, r.2.2.toNat) else
  if l.length ≤ r.2.1.toNat then ([], l.length, 2) else if l.getD r.2.1.toNat 0 ≠ 58 then ([], r.2.1.toNat, 3) else
  if l.length - r.2.1.toNat - 1 < r.1.toNat then ([], l.length, 2) else ((l.drop (r.2.1.toNat + 1)).take r.1.toNat, r.2.1.toNat + 1 + r.1.toNat, 0)

/-- what was read -/
structure RV where
  v : Sx
  p : Nat
  n : Nat
  e : Nat
def RV.err (p e : Nat) : RV := ⟨Sx.nil, p, 0, e⟩

/-- an atom, at a place -/
def rAtom (l : List UInt8) (p n : Nat) : RV :=
  if l.getD p 0 = 91 then
    let h := rBytes l (p + 1)
    if h.2.2 ≠ 0 then RV.err h.2.1 h.2.2 else if l.length ≤ h.2.1 then RV.err l.length 2 else if l.getD h.2.1 0 ≠ 93 then RV.err h.2.1 3 else
    let d := rBytes l (h.2.1 + 1)
    if d.2.2 ≠ 0 then RV.err d.2.1 d.2.2 else ⟨.mk false true h.1 d.1 [], d.2.1, n, 0⟩
  else
    let d := rBytes l p
    if d.2.2 ≠ 0 then RV.err d.2.1 d.2.2 else ⟨.mk false false [] d.1 [], d.2.1, n, 0⟩

/-- may a value begin so? -/
def starts (c : UInt8) : Prop := c = 40 ∨ c = 91 ∨ isD c
instance (c : UInt8) : Decidable (starts c) := by unfold starts; infer_instance

/-- reading: of a value (none), of what is left of a list whose values so far are there (some) -/
inductive St (l : List UInt8) : Option (List Sx) → Nat → Nat → Nat → RV → Prop
  | short {p lv n : Nat} : l.length ≤ p → St l none p lv n (RV.err l.length 2)
  | bad {p lv n : Nat} : p < l.length → ¬ starts (l.getD p 0) → St l none p lv n (RV.err p 3)
  | long {p lv n : Nat} : p < l.length → starts (l.getD p 0) → (512 < n + 1 ∨ l.getD p 0 = 40 ∧ 16 < lv) → St l none p lv n (RV.err p 4)
  | atom {p lv n : Nat} : p < l.length → starts (l.getD p 0) → l.getD p 0 ≠ 40 → n + 1 ≤ 512 → St l none p lv n (rAtom l p (n + 1))
  | list {p lv n : Nat} {r : RV} : p < l.length → l.getD p 0 = 40 → n + 1 ≤ 512 → lv ≤ 16 → St l (some []) (p + 1) lv (n + 1) r → St l none p lv n r
  | close {p lv n : Nat} {acc : List Sx} : p < l.length → l.getD p 0 = 41 → St l (some acc) p lv n ⟨.mk true false [] [] acc, p + 1, n, 0⟩
  | fail {p lv n : Nat} {acc : List Sx} {r : RV} : ¬ (p < l.length ∧ l.getD p 0 = 41) → St l none p (lv + 1) n r → r.e ≠ 0 → St l (some acc) p lv n r
  | more {p lv n : Nat} {acc : List Sx} {r r' : RV} : ¬ (p < l.length ∧ l.getD p 0 = 41) → St l none p (lv + 1) n r → r.e = 0 → St l (some (acc ++ [r.v])) r.p lv r.n r' → St l (some acc) p lv n r'

theorem starts40 : starts 40 := .inl rfl
theorem St.det {l : List UInt8} {m : Option (List Sx)} {p lv n : Nat} {r r' : RV} (h : St l m p lv n r) (h' : St l m p lv n r') : r = r' := by
  induction h generalizing r' with
  | short h1 =>
    cases h' with
    | short => rfl
    | bad h2 | long h2 | atom h2 | list h2 => omega
  | bad h1 h2 =>
    cases h' with
    | short h3 => omega
    | bad => rfl
    | long _ h3 | atom _ h3 => exact absurd h3 h2
    | list _ h3 => exact absurd (h3 ▸ starts40) h2
  | long h1 h2 h3 =>
    cases h' with
    | short h4 => omega
    | bad _ h4 => exact absurd h2 h4
    | long => rfl
    | atom _ _ h4 h5 => rcases h3 with h3 | h3; · omega
                        · exact absurd h3.1 h4
    | list _ h4 h5 h6 => rcases h3 with h3 | h3; · omega
                         · omega
  | atom h1 h2 h3 h4 =>
    cases h' with
    | short h5 => omega
    | bad _ h5 => exact absurd h2 h5
    | long _ _ h5 => rcases h5 with h5 | h5; · omega
                     · exact absurd h5.1 h3
    | atom => rfl
    | list _ h5 => exact absurd h5 h3
  | list h1 h2 h3 h4 _ ih =>
    cases h' with
    | short h5 => omega
    | bad _ h5 => exact absurd (h2 ▸ starts40) h5
    | long _ _ h5 => rcases h5 with h5 | h5; · omega
                     · omega
    | atom _ _ h5 => exact absurd h2 h5
    | list _ _ _ _ h5 => exact ih h5
  | close h1 h2 =>
    cases h' with
    | close => rfl
    | fail h3 | more h3 => exact absurd ⟨h1, h2⟩ h3
  | fail h1 _ h3 ih =>
    cases h' with
    | close h4 h5 => exact absurd ⟨h4, h5⟩ h1
    | fail _ h4 => exact ih h4
    | more _ h4 h5 => rw [ih h4] at h3; exact absurd h5 h3
  | more h1 _ h3 _ ih1 ih2 =>
    cases h' with
    | close h4 h5 => exact absurd ⟨h4, h5⟩ h1
    | fail _ h4 h5 => rw [ih1 h4] at h3; exact absurd h3 h5
    | more _ h4 h5 h6 =>
      obtain rfl := ih1 h4
      exact ih2 h6
end Go.Proofs.YtkbblhioncecmaaGreatDoor
namespace Go.Proofs.YtkbblhioncecmaaGreatDoor
open Go.RowKit

theorem lenScan_some {M n k : Nat} : ∀ (w : List UInt8) (a : Nat), lenScan M a w = some (n, k) → k ≤ w.length ∧ (∀ c ∈ w.take k, isD c) ∧ n = valA a (w.take k) ∧ (a ≤ M → n ≤ M)
  | [], a, h => by
    simp only [lenScan, Option.some.injEq, Prod.mk.injEq] at h
    obtain ⟨rfl, rfl⟩ := h
    exact ⟨Nat.le_refl _, (fun c hc => by cases hc), rfl, fun h => h⟩
  | c :: w, a, h => by
    unfold lenScan at h
    split at h
    · rename_i hd
      split at h
      · cases h
      · rename_i hM
        cases hr : lenScan M (10 * a + (c.toNat - 48)) w with
        | none => rw [hr] at h; cases h
        | some q =>
          obtain ⟨n', k'⟩ := q
          rw [hr] at h
          simp only [Option.map_some, Option.some.injEq, Prod.mk.injEq] at h
          obtain ⟨rfl, rfl⟩ := h
          obtain ⟨h1, h2, h3, h4⟩ := lenScan_some w _ hr
          refine ⟨by simp only [List.length_cons]; omega, fun d hd' => ?_, by rw [List.take_succ_cons, valA_cons]; exact h3, fun _ => h4 (by omega)⟩
          rw [List.take_succ_cons] at hd'
          rcases List.mem_cons.1 hd' with rfl | hd'
          · exact hd
          · exact h2 d hd'
    · simp only [Option.some.injEq, Prod.mk.injEq] at h
      obtain ⟨rfl, rfl⟩ := h
      exact ⟨Nat.zero_le _, (fun c hc => by simp at hc), by simp [valA_nil], fun h => h⟩

theorem digit_back (c : UInt8) (h : isD c) : UInt8.ofNat (48 + (c.toNat - 48)) = c := by
  unfold isD at h
  rw [show 48 + (c.toNat - 48) = c.toNat by omega]
  simp
/-- digits that begin with no nought are how their number is written -/
theorem numL_valA : ∀ (k : Nat) (d : List UInt8), d.length = k → (∀ c ∈ d, isD c) → d ≠ [] → d.getD 0 0 ≠ 48 → numL ((valA 0 d : Nat) : Int) = d ∧ 1 ≤ valA 0 d := by
  intro k
  induction k with
  | zero => intro d hl _ hn; exact absurd (List.eq_nil_of_length_eq_zero hl) hn
  | succ k ih =>
    intro d hl hd hn h0
    obtain ⟨d', c, rfl⟩ : ∃ d' c, d = d' ++ [c] := ⟨_, _, (List.dropLast_concat_getLast hn).symm⟩
    have hc : isD c := hd c (by simp)
    have hc2 := hc
    unfold isD at hc2
    rw [valA_snoc]
    by_cases e : d' = []
    · subst e
      simp only [List.nil_append, List.getD_cons_zero] at h0
      have hne : c.toNat ≠ 48 := fun e => h0 (by rw [← UInt8.toNat_inj]; exact e)
      rw [valA_nil, numL_small _ (by omega)]
      refine ⟨?_, by omega⟩
      rw [show (((10 * 0 + (c.toNat - 48) : Nat) : Int)).toNat = c.toNat - 48 by omega, digit_back c hc]
      rfl
    · have hl' : d'.length = k := by simpa using hl
      have hpos : 0 < d'.length := List.length_pos_iff.2 e
      obtain ⟨h1, h2⟩ := ih d' hl' (fun c hc => hd c (by simp [hc])) e (by
        simp only [List.getD_eq_getElem?_getD] at h0 ⊢
        rwa [List.getElem?_append_left hpos] at h0)
      refine ⟨?_, by omega⟩
      rw [numL_step _ (by omega)]
      rw [show ((10 * valA 0 d' + (c.toNat - 48) : Nat) : Int) / 10 = ((valA 0 d' : Nat) : Int) by omega, h1]
      rw [show (((10 * valA 0 d' + (c.toNat - 48) : Nat) : Int) % 10).toNat = c.toNat - 48 by omega, digit_back c hc]

/-- what a length at a place is -/
theorem lenR_cases (l : List UInt8) (p M : Nat) :
    (l.length ≤ p ∧ lenR l p M = (0, (p : Int), 2)) ∨ (p < l.length ∧ ¬ isD (l.getD p 0) ∧ lenR l p M = (0, (p : Int), 3)) ∨ (p < l.length ∧ lenR l p M = (0, (p : Int), 4)) ∨
    ∃ k n, 1 ≤ k ∧ p + k ≤ l.length ∧ n ≤ M ∧ (l.drop p).take k = numL ((n : Nat) : Int) ∧ lenR l p M = ((n : Int), ((p + k : Nat) : Int), 0) := by
  by_cases h1 : l.length ≤ p
  · exact .inl ⟨h1, by unfold lenR; rw [if_neg (by omega), if_pos (by omega)]⟩
  · replace h1 : p < l.length := by omega
    right
    by_cases h2 : isD (l.getD p 0)
    · right
      by_cases h3 : l.getD p 0 = 48
      · right
        refine ⟨1, 0, Nat.le_refl _, h1, Nat.zero_le _, ?_, ?_⟩
        · rw [List.drop_eq_getElem_cons h1]
          have : l[p] = 48 := by rw [← h3]; simp [List.getD_eq_getElem?_getD, h1]
          rw [this, numL_small _ (by omega)]
          rfl
        · unfold lenR
          rw [if_neg (by omega), if_neg (by omega), Int.toNat_natCast, if_neg (fun h => h h2), if_pos h3]
          rfl
      · have hb : lenR l p M = match lenScan M 0 (l.drop p) with
          | none => (0, (p : Int), 4)
          | some (n, k) => ((n : Int), (p : Int) + k, 0) := by
          unfold lenR
          rw [if_neg (by omega), if_neg (by omega), Int.toNat_natCast, if_neg (fun h => h h2), if_neg h3]
          all_goals (cases lenScan M 0 (l.drop p) <;> rfl)
        cases hs : lenScan M 0 (l.drop p) with
        | none => exact .inl ⟨h1, by rw [hb, hs]⟩
        | some q =>
          right
          obtain ⟨n, k⟩ := q
          obtain ⟨k1, k2, k3, k4⟩ := lenScan_some _ _ hs
          have hk : 1 ≤ k := by
            rcases Nat.eq_zero_or_pos k with e | e
            · subst e
              rw [List.drop_eq_getElem_cons h1] at hs
              unfold lenScan at hs
              have e2 : l[p] = l.getD p 0 := by simp [List.getD_eq_getElem?_getD, h1]
              rw [e2, if_pos h2] at hs
              split at hs
              · cases hs
              · cases hr : lenScan M (10 * 0 + ((l.getD p 0).toNat - 48)) (l.drop (p + 1)) with
                | none => rw [hr] at hs; cases hs
                | some q => rw [hr] at hs; simp at hs
            · exact e
          rw [List.length_drop] at k1
          refine ⟨k, n, hk, by omega, k4 (Nat.zero_le _), ?_, by rw [hb, hs]; simp⟩
          rw [k3]
          refine (numL_valA k _ (by simp; omega) k2 ?_ ?_).1.symm
          · intro e
            have := congrArg List.length e
            simp at this
            omega
          · simp only [List.getD_eq_getElem?_getD] at h3 ⊢
            rw [List.getElem?_take_of_lt (by omega), List.getElem?_drop]
            simpa using h3
    · exact .inl ⟨h1, h2, by unfold lenR; rw [if_neg (by omega), if_neg (by omega), Int.toNat_natCast, if_pos h2]⟩

/-- bytes that were read stood there -/
theorem rBytes_ok {l b : List UInt8} {p q : Nat} (h : rBytes l p = (b, q, 0)) : l.drop p = textL b ++ l.drop q ∧ q = p + (textL b).length ∧ q ≤ l.length ∧ b.length ≤ 4096 := by
  unfold rBytes at h
  simp only at h
  rcases lenR_cases l p 4096 with ⟨_, e⟩ | ⟨_, _, e⟩ | ⟨_, e⟩ | ⟨k, n, hk, hp, hn, ht, e⟩
  · rw [e] at h; simp at h
  · rw [e] at h; simp at h
  · rw [e] at h; simp at h
  · rw [e] at h
    simp only [Int.toNat_natCast] at h
    rw [if_neg (by omega), if_neg (by omega)] at h
    split at h
    · simp at h
    · rename_i h1
      split at h
      · simp at h
      · rename_i h2
        split at h
        · simp at h
        · rename_i h3
          simp only [Prod.mk.injEq, and_true] at h
          obtain ⟨rfl, rfl⟩ := h
          replace h2 : l.getD (p + k) 0 = 58 := by simpa using h2
          have hbl : ((l.drop (p + k + 1)).take n).length = n := by simp; omega
          have hnl : (numL ((n : Nat) : Int)).length = k := by rw [← ht]; simp; omega
          refine ⟨?_, by simp only [textL, List.length_append, List.length_cons, hbl, hnl]; omega, by omega, by rw [hbl]; exact hn⟩
          simp only [textL, hbl, List.append_assoc, List.cons_append]
          rw [← ht]
          have e1 : l.drop p = (l.drop p).take k ++ (l.drop p).drop k := (List.take_append_drop k _).symm
          rw [List.drop_drop] at e1
          have e2 : l.drop (p + k) = 58 :: l.drop (p + k + 1) := by
            rw [List.drop_eq_getElem_cons (by omega)]
            congr 1
            rw [← h2]
            simp [List.getD_eq_getElem?_getD, show p + k < l.length by omega]
          have e3 : l.drop (p + k + 1) = (l.drop (p + k + 1)).take n ++ l.drop (p + k + 1 + n) := by
            have := (List.take_append_drop n (l.drop (p + k + 1))).symm
            rwa [List.drop_drop] at this
          rw [← e3, ← e2]
          exact e1

/-- an error is told at a place that is there -/
theorem rBytes_err {l b : List UInt8} {p q e : Nat} (h : rBytes l p = (b, q, e)) (hp : p ≤ l.length) : q ≤ l.length ∧ e ≤ 4 := by
  unfold rBytes at h
  simp only at h
  rcases lenR_cases l p 4096 with ⟨_, e1⟩ | ⟨_, _, e1⟩ | ⟨_, e1⟩ | ⟨k, n, hk, hp, hn, ht, e1⟩
  · rw [e1] at h; simp at h; omega
  · rw [e1] at h; simp at h; omega
  · rw [e1] at h; simp at h; omega
  · rw [e1] at h
    simp only [Int.toNat_natCast] at h
    rw [if_neg (by omega), if_neg (by omega)] at h
    split at h
    · simp at h; omega
    · split at h
      · simp at h; omega
      · split at h
        · simp at h; omega
        · simp at h; omega

end Go.Proofs.YtkbblhioncecmaaGreatDoor
namespace Go.Proofs.YtkbblhioncecmaaGreatDoor
open Go.RowKit

/-- what is read stood there -/
def OkP (l : List UInt8) : Option (List Sx) → Nat → Nat → Nat → RV → Prop
  | none, p, lv, n, r => lv ≤ 17 → n ≤ 512 → l.drop p = r.v.form ++ l.drop r.p ∧ r.p = p + r.v.form.length ∧ r.p ≤ l.length ∧ r.v.clean = true ∧ r.n = n + r.v.nodes ∧ r.n ≤ 512 ∧ r.v.deep + lv ≤ 17
  | some acc, p, lv, n, r => lv ≤ 16 → n ≤ 512 → ∃ ks, r.v = .mk true false [] [] (acc ++ ks) ∧ l.drop p = Sx.formL ks ++ 41 :: l.drop r.p ∧ r.p = p + (Sx.formL ks).length + 1 ∧ r.p ≤ l.length ∧ Sx.cleanL ks = true ∧ r.n = n + Sx.nodesL ks ∧ r.n ≤ 512 ∧ Sx.deepL ks + lv ≤ 16

theorem cleanL_cons (a : Sx) (ks : List Sx) : Sx.cleanL (a :: ks) = (a.clean && Sx.cleanL ks) := rfl
theorem drop_eq {l : List UInt8} {p : Nat} (h : p < l.length) : l.drop p = l.getD p 0 :: l.drop (p + 1) := by
  rw [List.drop_eq_getElem_cons h]
  congr 1
  simp [List.getD_eq_getElem?_getD, h]

theorem St_ok {l : List UInt8} {m : Option (List Sx)} {p lv n : Nat} {r : RV} (h : St l m p lv n r) : r.e = 0 → OkP l m p lv n r := by
  induction h with
  | short | bad | long => intro h; cases h
  | @atom p lv n h1 h2 h3 h4 =>
    intro h hlv hn
    unfold rAtom at h ⊢
    split at h
    · rename_i h5
      rw [if_pos h5]
      obtain ⟨⟨b1, q1, e1⟩, hr1⟩ : ∃ x, x = rBytes l (p + 1) := ⟨_, rfl⟩
      simp only [← hr1] at h ⊢
      split at h
      · rename_i h6; exact absurd h h6
      · rename_i h6
        rw [if_neg h6]
        replace h6 : e1 = 0 := by simpa using h6
        subst h6
        obtain ⟨k1, k2, k3, k4⟩ := rBytes_ok hr1.symm
        split at h
        · cases h
        · rename_i h7
          rw [if_neg h7]
          split at h
          · cases h
          · rename_i h8
            rw [if_neg h8]
            obtain ⟨⟨b2, q2, e2⟩, hr2⟩ : ∃ x, x = rBytes l (q1 + 1) := ⟨_, rfl⟩
            simp only [← hr2] at h ⊢
            split at h
            · rename_i h9; exact absurd h h9
            · rename_i h9
              rw [if_neg h9]
              replace h9 : e2 = 0 := by simpa using h9
              subst h9
              obtain ⟨g1, g2, g3, g4⟩ := rBytes_ok hr2.symm
              replace h8 : l.getD q1 0 = 93 := by simpa using h8
              have hfd : (Sx.mk false true b1 b2 []).form = 91 :: (textL b1 ++ [93]) ++ textL b2 := by rw [form_def, if_neg (by simp), if_pos rfl]
              refine ⟨?_, ?_, g3, by rw [clean_def]; simp [headOk, Sx.cleanL], by simp [Sx.nodes, Sx.nodesL], by omega, by simp [Sx.deep]; exact hlv⟩
              · simp only [hfd, List.cons_append, List.append_assoc, List.nil_append]
                rw [drop_eq h1, h5, k1, drop_eq (by omega), h8, g1]
              · simp only [hfd, List.length_append, List.length_cons, List.length_nil]; omega
    · rename_i h5
      rw [if_neg h5]
      obtain ⟨⟨b1, q1, e1⟩, hr1⟩ : ∃ x, x = rBytes l p := ⟨_, rfl⟩
      simp only [← hr1] at h ⊢
      split at h
      · rename_i h6; exact absurd h h6
      · rename_i h6
        rw [if_neg h6]
        replace h6 : e1 = 0 := by simpa using h6
        subst h6
        obtain ⟨k1, k2, k3, k4⟩ := rBytes_ok hr1.symm
        have hfd : (Sx.mk false false [] b1 []).form = textL b1 := by rw [form_def]; simp
        refine ⟨by simp only [hfd]; exact k1, by simp only [hfd]; exact k2, k3, by rw [clean_def]; simp [headOk, Sx.cleanL], by simp [Sx.nodes, Sx.nodesL], by omega, by simp [Sx.deep]; exact hlv⟩
  | @list p lv n r h1 h2 h3 h4 _ ih =>
    intro h hlv hn
    obtain ⟨ks, e1, e2, e3, e4, e5, e6, e7, e8⟩ := ih h h4 h3
    rw [List.nil_append] at e1
    have hfd : r.v.form = 40 :: (Sx.formL ks ++ [41]) := by rw [e1, form_def, if_pos rfl]
    refine ⟨by rw [hfd, drop_eq h1, h2, e2]; simp, by rw [hfd]; simp only [List.length_cons, List.length_append, List.length_nil]; omega, e4, by rw [e1, clean_def, e5]; simp [headOk], by rw [e1]; simp only [Sx.nodes]; omega, e7, by rw [e1]; simp only [Sx.deep, if_true]; omega⟩
  | @close p lv n acc h1 h2 =>
    intro _ hlv hn
    exact ⟨[], by simp, by rw [drop_eq h1, h2]; rfl, by simp [Sx.formL], h1, rfl, by simp [Sx.nodesL], hn, by simpa [Sx.deepL] using hlv⟩
  | fail _ _ h3 => intro h; exact absurd h h3
  | @more p lv n acc r r' h1 _ h3 _ ih1 ih2 =>
    intro h hlv hn
    obtain ⟨a1, a2, a3, a4, a5, a6, a7⟩ := ih1 h3 (by omega) hn
    obtain ⟨ks, e1, e2, e3, e4, e5, e6, e7, e8⟩ := ih2 h hlv a6
    refine ⟨r.v :: ks, by rw [e1]; simp, by simp only [Sx.formL, List.append_assoc]; rw [← e2]; exact a1, by simp only [Sx.formL, List.length_append]; omega, e4, by rw [cleanL_cons, a4, e5]; rfl, by simp only [Sx.nodesL]; omega, e7, by simp only [Sx.deepL]; omega⟩

end Go.Proofs.YtkbblhioncecmaaGreatDoor
namespace Go.Proofs.YtkbblhioncecmaaGreatDoor
open Go.RowKit
set_option linter.unusedSimpArgs false
set_option linter.unusedVariables false

def BytesP (ok : Nat → Prop) (r : List UInt8 × Nat × Nat) (w : World) (e : Ending) (w' : World) : Prop :=
  ∃ a n c, e = .returned (.tuple #[.slice a n c, .int .i64 r.2.1, .int .i64 r.2.2]) ∧ Sl w' a n c r.1 ∧ InB ok a n ∧ Below w.heap.size w w'

theorem slCut {w : World} {b o n c : Nat} {l : List UInt8} (h : Sl w (some ⟨b, o, none⟩) n c l) (lo m : Nat) (hm : lo + m ≤ n) :
    (c ≠ lo → Sl w (some ⟨b, o + lo, none⟩) m (c - lo) ((l.drop lo).take m)) ∧ (c = lo → Sl w (some ⟨b, o, none⟩) m 0 ((l.drop lo).take m)) := by
  have h1 := (h.take (lo + m) hm).drop lo (by omega)
  rw [Nat.add_sub_cancel_left, show (l.take (lo + m)).drop lo = (l.drop lo).take m by rw [List.drop_take]; congr 1; omega] at h1
  refine ⟨fun e => by rwa [if_neg e] at h1, fun e => ?_⟩
  subst e
  rwa [if_pos rfl, Nat.sub_self] at h1
theorem Sl.keepB {w w2 u : World} {a : Option Addr} {n c : Nat} {l : List UInt8} (h : Sl w2 a n c l) (hi : InB (fun k => k < w.heap.size) a n) (b2 : Below w.heap.size w w2) (bu : Below w.heap.size w u) : Sl u a n c l :=
  h.keep (hi.imp id fun h b o s e => (bu.block b (h b o s e)).trans (b2.block b (h b o s e)).symm)
theorem bytesP_yes {ok : Nat → Prop} {R : List UInt8 × Nat × Nat} {L : List UInt8} {q : Nat} {z : Int} (h : R = (L, q, 0)) (hz : z = (q : Int)) {w w' : World} {a : Option Addr} {n c : Nat} (hs : Sl w' a n c L) (hi : InB ok a n) (hb : Below w.heap.size w w') : BytesP ok R w (.returned (.tuple #[.slice a n c, .int .i64 z, .int .i64 0])) w' := by
  subst h hz
  exact ⟨_, _, _, rfl, hs, hi, hb⟩
theorem bytesP_no {ok : Nat → Prop} {R : List UInt8 × Nat × Nat} {q e : Nat} (h : R = ([], q, e)) {w w' : World} (g : Nat) (hb : Below w.heap.size w w') : BytesP ok R w (.returned (.tuple #[.slice (some ⟨g, 0, none⟩) 0 0, .int .i64 q, .int .i64 e])) w' := by
  subst h
  exact ⟨_, _, _, rfl, ⟨rfl, Nat.le_refl _, Nat.zero_le _, (fun h => by cases h), .inl rfl⟩, .inl rfl, hb⟩

set_option maxHeartbeats 4000000 in
set_option maxRecDepth 100000 in
theorem refBytes_any (ok : Nat → Prop) (a : Option Addr) (n c : Nat) (l : List UInt8) (p : Nat) (w : World) (hs : Sl w a n c l) (hi : InB ok a n) (hn : n ≤ 1000000) (hp : p ≤ n) :
    Calls Tryz.prog 70 #[.slice a n c, .int .i64 p] w (BytesP ok (rBytes l p) w) := by
  have HS := Lib.hid hs
  have hl := hs.1
  have hm := hs.2.1
  have hx := hs.2.2.1
  have HL := Lib.hid (Nat.le_of_eq hl)
  have HL' := Lib.hid (Nat.le_of_eq hl.symm)
  have CALL := Lib.hid (refLen_any a n c l p 4096 4096 w hs hn (by omega) (by omega) rfl (by omega))
  obtain ⟨R, hR⟩ : ∃ R, R = rBytes l p := ⟨_, rfl⟩
  rw [← hR]
  have HR := Lib.hid hR
  unfold maxLen at hx
  clear hs hR
  rcases lenR_cases l p 4096 with ⟨h1, e1⟩ | ⟨h1, h2, e1⟩ | ⟨h1, e1⟩ | ⟨k, m, hk, hpk, hmk, ht, e1⟩
  · have HE : Hid (R = ([], n, 2)) := Lib.hid (by rw [HR.out]; unfold rBytes; simp [e1, hl])
    rw [e1] at CALL
    clear e1 hl
    go_enter Tryz.func70, Tryz.ntmps70
    go_wp2_with fail
    refine CALL.out.mono ?_
    rintro e w1 ⟨rfl, hb1⟩
    have hz := hb1.size
    go_wp2_with fail
    go_ret3
    exact bytesP_no HE.out _ (hb1.alloc hz _)
  · have HE : Hid (R = ([], p, 3)) := Lib.hid (by rw [HR.out]; unfold rBytes; simp only [e1]; rw [if_neg (by omega), if_pos (by omega)]; rfl)
    rw [e1] at CALL
    clear e1 hl
    go_enter Tryz.func70, Tryz.ntmps70
    go_wp2_with fail
    refine CALL.out.mono ?_
    rintro e w1 ⟨rfl, hb1⟩
    have hz := hb1.size
    go_wp2_with fail
    go_ret3
    exact bytesP_no HE.out _ (hb1.alloc hz _)
  · have HE : Hid (R = ([], p, 4)) := Lib.hid (by rw [HR.out]; unfold rBytes; simp only [e1]; rw [if_neg (by omega), if_pos (by omega)]; rfl)
    rw [e1] at CALL
    clear e1 hl
    go_enter Tryz.func70, Tryz.ntmps70
    go_wp2_with fail
    refine CALL.out.mono ?_
    rintro e w1 ⟨rfl, hb1⟩
    have hz := hb1.size
    go_wp2_with fail
    go_ret3
    exact bytesP_no HE.out _ (hb1.alloc hz _)
  · rw [e1] at CALL
    have hpk' : p + k ≤ n := by omega
    obtain ⟨q, hq⟩ : ∃ q, q = p + k := ⟨_, rfl⟩
    rw [← hq] at CALL e1 hpk'
    by_cases h1 : n ≤ q
    · have HE : Hid (R = ([], n, 2)) := Lib.hid (by rw [HR.out]; unfold rBytes; simp only [e1, Int.toNat_natCast]; rw [if_neg (by omega), if_neg (by omega), if_pos (by omega), hl])
      clear e1 hl ht hq
      have h1' : ((n : Int) ≤ (q : Int)) := by omega
      go_enter Tryz.func70, Tryz.ntmps70
      go_wp2_with fail
      refine CALL.out.mono ?_
      rintro e w1 ⟨rfl, hb1⟩
      have hz := hb1.size
      go_wp2_with fail
      go_ret3
      exact bytesP_no HE.out _ (hb1.alloc hz _)
    · replace h1 : q < n := by omega
      obtain ⟨b, o, rfl, hc⟩ : ∃ b o, a = some ⟨b, o, none⟩ ∧ ∀ i, i < n → w.cell? ⟨b, o + i, none⟩ = some (.int .u8 ((l.getD i 0).toNat : Int)) := by
        rcases HS.out.2.2.2.2 with h0 | h0
        · omega
        · exact h0
      obtain ⟨ch, hch⟩ : ∃ ch, ch = l.getD q 0 := ⟨_, rfl⟩
      have hcq := hc q h1
      rw [← hch] at hcq
      have HC : Hid (∀ w', Below w.heap.size w w' → w'.cell? ⟨b, o + q, none⟩ = some (.int .u8 (ch.toNat : Int))) := Lib.hid fun w' hb => (hb.cell (p := ⟨b, o + q, none⟩) (cell_lt hcq)).trans hcq
      have h1' : ¬ ((n : Int) ≤ (q : Int)) := by omega
      clear hc hcq
      by_cases h58 : ch = 58
      · subst h58
        by_cases h3 : n - q - 1 < m
        · have HE : Hid (R = ([], n, 2)) := Lib.hid (by rw [HR.out]; unfold rBytes; simp only [e1, Int.toNat_natCast]; rw [if_neg (by omega), if_neg (by omega), if_neg (by omega), if_neg (by rw [← hch]; simp), if_pos (by omega), hl])
          have h3' : (n : Int) - (q : Int) - 1 < (m : Int) := by omega
          clear e1 hl ht hq hch
          go_enter Tryz.func70, Tryz.ntmps70
          go_wp2_with fail
          refine CALL.out.mono ?_
          rintro e w1 ⟨rfl, hb1⟩
          have hz := hb1.size
          have hcw := HC.out w1 hb1
          go_wp2_with fail
          go_ret3
          exact bytesP_no HE.out _ (hb1.alloc hz _)
        · have HE : Hid (R = ((l.drop (q + 1)).take m, q + 1 + m, 0)) := Lib.hid (by rw [HR.out]; unfold rBytes; simp only [e1, Int.toNat_natCast]; rw [if_neg (by omega), if_neg (by omega), if_neg (by omega), if_neg (by rw [← hch]; simp), if_neg (by omega)])
          have h3' : ¬ (n : Int) - (q : Int) - 1 < (m : Int) := by omega
          have hqm : q + 1 + m ≤ n := by omega
          clear e1 hl ht hq hch
          have hcut := slCut HS.out (q + 1) m hqm
          have hin2 : ∀ o' k', InB ok (some ⟨b, o', none⟩) k' := fun o' k' => by
            rcases hi with h0 | h0
            · omega
            · exact .inr fun b' o'' s e => by cases e; exact h0 _ _ _ rfl
          have HIN := Lib.hid hin2
          clear hin2
          have HCUT := Lib.hid hcut
          clear hcut
          by_cases hcq : c = q + 1
          · have HCQ := Lib.hid hcq
            subst hcq
            go_enter Tryz.func70, Tryz.ntmps70
            go_wp2_with fail
            refine CALL.out.mono ?_
            rintro e w1 ⟨rfl, hb1⟩
            have hz := hb1.size
            have hcw := HC.out w1 hb1
            go_wp2_with fail
            go_ret3
            exact bytesP_yes HE.out (by omega) (by have := (HCUT.out.2 (by trivial)).after hb1; first | exact this | (rw [show q + 1 + m - (q + 1) = m by omega]; exact this)) (HIN.out _ _) hb1
          · go_enter Tryz.func70, Tryz.ntmps70
            go_wp2_with fail
            refine CALL.out.mono ?_
            rintro e w1 ⟨rfl, hb1⟩
            have hz := hb1.size
            have hcw := HC.out w1 hb1
            go_wp2_with fail
            go_ret3
            exact bytesP_yes HE.out (by omega) (by have := (HCUT.out.1 hcq).after hb1; rw [show q + 1 + m - (q + 1) = m by omega]; exact this) (HIN.out _ _) hb1
      · have HE : Hid (R = ([], q, 3)) := Lib.hid (by rw [HR.out]; unfold rBytes; simp only [e1, Int.toNat_natCast]; rw [if_neg (by omega), if_neg (by omega), if_neg (by omega), if_pos (by rw [← hch]; exact h58)])
        have hne : ((ch.toNat : Int) == 58) = false := by
          rw [beq_eq_false_iff_ne]
          intro e
          apply h58
          rw [← UInt8.toNat_inj]
          exact Int.ofNat.inj e
        have hne2 : ((ch.toNat : Int) != 58) = true := by rw [bne, hne]; rfl
        clear e1 hl ht hq hch h58
        go_enter Tryz.func70, Tryz.ntmps70
        go_wp2_with fail
        refine CALL.out.mono ?_
        rintro e w1 ⟨rfl, hb1⟩
        have hz := hb1.size
        have hcw := HC.out w1 hb1
        go_wp2_with fail
        go_ret3
        exact bytesP_no HE.out _ (hb1.alloc hz _)
end Go.Proofs.YtkbblhioncecmaaGreatDoor
namespace Go.Proofs.YtkbblhioncecmaaGreatDoor
open Go.RowKit
set_option linter.unusedSimpArgs false
set_option linter.unusedVariables false

/-- what was read is handed back -/
def RP (ok : Nat → Prop) (r : RV) (w : World) (e : Ending) (w' : World) : Prop :=
  ∃ v : SV, e = .returned (.agg #[.bool v.l, .bool v.h, .slice v.a1 v.n1 v.c1, .slice v.a2 v.n2 v.c2, .slice v.a3 v.n3 v.c3, .int .i64 r.p, .int .i64 r.n, .int .i64 r.e]) ∧ RdI (fun k => ok k ∨ w.heap.size ≤ k) w' v r.v ∧ Below w.heap.size w w'
theorem rp_err {ok : Nat → Prop} {r : RV} {p e : Nat} (h : r = RV.err p e) {w w' : World} (hb : Below w.heap.size w w') : RP ok r w (.returned (.agg #[.bool false, .bool false, .slice none 0 0, .slice none 0 0, .slice none 0 0, .int .i64 p, .int .i64 0, .int .i64 e])) w' := by
  subst h
  exact ⟨SV.nil, rfl, rd_nil _ _, hb⟩
theorem rp_ok {ok : Nat → Prop} {r : RV} {s : Sx} {p n : Nat} (h : r = ⟨s, p, n, 0⟩) {w w' : World} (v : SV) (hr : RdI (fun k => ok k ∨ w.heap.size ≤ k) w' v s) (hb : Below w.heap.size w w') :
    RP ok r w (.returned (.agg #[.bool v.l, .bool v.h, .slice v.a1 v.n1 v.c1, .slice v.a2 v.n2 v.c2, .slice v.a3 v.n3 v.c3, .int .i64 p, .int .i64 n, .int .i64 0])) w' := by
  subst h
  exact ⟨v, rfl, hr, hb⟩
theorem byte_ne {a : UInt8} {k : Nat} (h : a.toNat ≠ k) : ((a.toNat : Int) == (k : Int)) = false ∧ ((a.toNat : Int) != (k : Int)) = true := by
  have h1 : ((a.toNat : Int) == (k : Int)) = false := beq_eq_false_iff_ne.2 (fun e => h (Int.ofNat.inj e))
  exact ⟨h1, by rw [bne, h1]; rfl⟩
theorem byte_eq {a : UInt8} {k : Nat} (h : a.toNat = k) : ((a.toNat : Int) == (k : Int)) = true ∧ ((a.toNat : Int) != (k : Int)) = false := by
  have h1 : ((a.toNat : Int) == (k : Int)) = true := beq_iff_eq.2 (by rw [h])
  exact ⟨h1, by rw [bne, h1]; rfl⟩
theorem nat_ne {a : Nat} (h : a ≠ 0) : ((a : Int) == 0) = false ∧ ((a : Int) != 0) = true := by
  have h1 : ((a : Int) == 0) = false := beq_eq_false_iff_ne.2 (by omega)
  exact ⟨h1, by rw [bne, h1]; rfl⟩
theorem rBytes_place {l b : List UInt8} {p q e : Nat} (h : rBytes l p = (b, q, e)) (hp : p ≤ l.length) : q ≤ l.length := (rBytes_err h hp).1
theorem rd_atomI {ok : Nat → Prop} {w : World} {a : Option Addr} {n c : Nat} {l : List UInt8} (h : Sl w a n c l) (hi : InB ok a n) : RdI ok w ⟨false, false, none, 0, 0, a, n, c, none, 0, 0⟩ (.mk false false [] l []) :=
  .mk _ [] l [] (fun _ => SV.nil) (Sl.nil w) (.inl rfl) h hi ⟨Nat.le_refl _, Nat.zero_le _, fun _ => rfl, .inl rfl⟩ (.inl rfl) rfl (fun i hi => by cases hi)
theorem rd_hint {ok : Nat → Prop} {w : World} {a1 a2 : Option Addr} {n1 c1 n2 c2 : Nat} {l1 l2 : List UInt8} (h : Sl w a1 n1 c1 l1) (h2 : Sl w a2 n2 c2 l2) (hi : InB ok a1 n1) (hi2 : InB ok a2 n2) : RdI ok w ⟨false, true, a1, n1, c1, a2, n2, c2, none, 0, 0⟩ (.mk false true l1 l2 []) :=
  .mk _ l1 l2 [] (fun _ => SV.nil) h hi h2 hi2 ⟨Nat.le_refl _, Nat.zero_le _, fun _ => rfl, .inl rfl⟩ (.inl rfl) rfl (fun i hi => by cases hi)

set_option maxHeartbeats 8000000 in
set_option maxRecDepth 100000 in
theorem refAtom_any (ok : Nat → Prop) (a : Option Addr) (n c : Nat) (l : List UInt8) (p m : Nat) (w : World) (hs : Sl w a n c l) (hi : InB ok a n) (hok : ∀ k, ok k → k < w.heap.size) (hn : n ≤ 100000) (hp : p < n) (hm : m ≤ 100000) :
    Calls Tryz.prog 49 #[.slice a n c, .int .i64 p, .int .i64 m] w (RP ok (rAtom l p m) w) := by
  have HS := Lib.hid hs
  have hl := hs.1
  have HL := Lib.hid (Nat.le_of_eq hl)
  have HL' := Lib.hid (Nat.le_of_eq hl.symm)
  obtain ⟨b, o, rfl, hc⟩ : ∃ b o, a = some ⟨b, o, none⟩ ∧ ∀ i, i < n → w.cell? ⟨b, o + i, none⟩ = some (.int .u8 ((l.getD i 0).toNat : Int)) := by
    rcases hs.2.2.2.2 with h0 | h0
    · omega
    · exact h0
  have HC : Hid (∀ i, i < n → ∀ w', Below w.heap.size w w' → w'.cell? ⟨b, o + i, none⟩ = some (.int .u8 ((l.getD i 0).toNat : Int))) := Lib.hid fun i hi w' hb => (hb.cell (p := ⟨b, o + i, none⟩) (cell_lt (hc i hi))).trans (hc i hi)
  have CB := Lib.hid (fun w' (q : Nat) (hb : Below w.heap.size w w') (hq : q ≤ n) => refBytes_any ok (some ⟨b, o, none⟩) n c l q w' (HS.out.after hb) hi (by omega) hq)
  have HOK := Lib.hid hok
  obtain ⟨R, hR⟩ : ∃ R, R = rAtom l p m := ⟨_, rfl⟩
  rw [← hR]
  have HR := Lib.hid hR
  obtain ⟨ch, hch⟩ : ∃ ch, ch = l.getD p 0 := ⟨_, rfl⟩
  have HCH := Lib.hid hch
  have hcp := HC.out p hp
  rw [← hch] at hcp
  have HCP := Lib.hid hcp
  clear hs hl hc hR hch hcp hi hok
  have B0 : Below w.heap.size w (w.alloc (.cells #[.bool false, .bool false, .slice none 0 0, .slice none 0 0, .slice none 0 0, .int .i64 0, .int .i64 0, .int .i64 0] 47)) := (Below.refl _ _).alloc (Nat.le_refl _) _
  have X0 := Box.new w 47 #[.bool false, .bool false, .slice none 0 0, .slice none 0 0, .slice none 0 0, .int .i64 0, .int .i64 0, .int .i64 0]
  by_cases hyes : ch = 91
  · have HY := Lib.hid hyes
    obtain ⟨x1, x2⟩ := byte_eq (a := ch) (k := 91) (by rw [hyes]; rfl)
    replace hyes := HY.out
    have HYES := Lib.hid hyes
    clear hyes HY
    obtain ⟨⟨h2_, q2, e2⟩, hr2⟩ : ∃ x, x = rBytes l (p + 1) := ⟨_, rfl⟩
    have hq2 := rBytes_place hr2.symm (by have := HL.out; omega)
    have hq2' : q2 ≤ n := by have := HL'.out; omega
    have HR2 := Lib.hid hr2
    clear hr2 hq2
    go_enter Tryz.func49, Tryz.ntmps49
    go_upto_region 1 with fail
    change Code.wp _ _ _ _ (w.alloc (.cells #[.bool false, .bool false, .slice none 0 0, .slice none 0 0, .slice none 0 0, .int .i64 0, .int .i64 0, .int .i64 0] 47))
    generalize (w.alloc (.cells #[.bool false, .bool false, .slice none 0 0, .slice none 0 0, .slice none 0 0, .int .i64 0, .int .i64 0, .int .i64 0] 47)) = v0 at *
    go_upto_region 2 with (refine wpList_store_box (cells := #[.bool false, .bool false, .slice none 0 0, .slice none 0 0, .slice none 0 0]) rfl 26 _ _ rfl (Box.new _ _ _) (by rfl) (by rfl) rfl (by kernel_rfl) (by simp [Value.oneCell']) ?_; intro u1 Y1 st1)
    have B1 := st1.below w.heap.size w B0.size (B0.alloc B0.size _)
    have X1 := st1.box (X0.alloc (.cells #[.bool false, .bool false, .slice none 0 0, .slice none 0 0, .slice none 0 0] 26)) (Nat.ne_of_lt X0.lt)
    have hlt1 := X0.lt
    clear X0 B0 st1
    have q1 := HCP.out u1 B1
    generalize v0.heap.size = g at *
    have pq : ((p + 1 : Nat) : Int) = (p : Int) + 1 := by omega
    have CB1 := Lib.hid (CB.out u1 (p + 1) B1 (by omega))
    rw [pq] at CB1
    clear pq
    go_wp2_with fail
    refine CB1.out.mono ?_
    rintro e w2 ⟨a2, n2, c2, rfl, s2, i2, hb2⟩
    rw [← HR2.out] at s2 ⊢
    dsimp only at s2 ⊢
    have X2 := X1.after hb2
    have Y2 := Y1.after hb2
    have B2 := B1.trans (hb2.mono B1.size)
    have S2 := Lib.hid s2
    have I2 := Lib.hid i2
    clear X1 Y1 B1 hb2 s2 i2
    replace X2 := Lib.hid X2
    by_cases he2 : e2 = 0
    case neg =>
      obtain ⟨z1, z2⟩ := nat_ne he2
      go_wp2_with (refine wpList_store_box (cells := #[.bool false, .bool false, .slice none 0 0, .slice none 0 0, .slice none 0 0, .int .i64 q2, .int .i64 0, .int .i64 e2]) rfl 47 _ _ rfl X2.out (by rfl) (by rfl) rfl (by kernel_rfl) (by simp [Value.oneCell']) ?_; intro u9 X9 st9)
      have B9 := st9.below w.heap.size w (Nat.le_refl _) B2
      exact bodyPost_ret (v := .agg #[.bool false, .bool false, .slice none 0 0, .slice none 0 0, .slice none 0 0, .int .i64 q2, .int .i64 0, .int .i64 e2]) (box_result rfl _ _ (by rfl) X9 Tryz.underlying47 rfl (by kernel_rfl)) rfl (rp_err (by rw [HR.out]; unfold rAtom; rw [if_pos (by rw [← HCH.out]; exact HYES.out)]; simp only [← HR2.out]; rw [if_pos he2]) B9)
    subst he2
    by_cases hend : n ≤ q2
    case pos =>
      have hend' : (n : Int) ≤ (q2 : Int) := by omega
      go_wp2_with (refine wpList_store_box (cells := #[.bool false, .bool false, .slice none 0 0, .slice none 0 0, .slice none 0 0, .int .i64 n, .int .i64 0, .int .i64 2]) rfl 47 _ _ rfl X2.out (by rfl) (by rfl) rfl (by kernel_rfl) (by simp [Value.oneCell']) ?_; intro u9 X9 st9)
      have B9 := st9.below w.heap.size w (Nat.le_refl _) B2
      exact bodyPost_ret (v := .agg #[.bool false, .bool false, .slice none 0 0, .slice none 0 0, .slice none 0 0, .int .i64 n, .int .i64 0, .int .i64 2]) (box_result rfl _ _ (by rfl) X9 Tryz.underlying47 rfl (by kernel_rfl)) rfl (rp_err (by rw [HR.out]; unfold rAtom; rw [if_pos (by rw [← HCH.out]; exact HYES.out)]; simp only [← HR2.out]; rw [if_neg (by simp), if_pos (by have := HL.out; have := HL'.out; omega), show l.length = n by have := HL.out; have := HL'.out; omega]) B9)
    replace hend : q2 < n := by omega
    have hend' : ¬ (n : Int) ≤ (q2 : Int) := by omega
    obtain ⟨ch2, hch2⟩ : ∃ ch, ch = l.getD q2 0 := ⟨_, rfl⟩
    have HCH2 := Lib.hid hch2
    have hc2 := HC.out q2 hend w2 B2
    rw [← hch2] at hc2
    clear hch2
    by_cases h93 : ch2 = 93
    case neg =>
      obtain ⟨z1, z2⟩ := byte_ne (a := ch2) (k := 93) (fun e => h93 (by rw [← UInt8.toNat_inj]; exact e))
      go_wp2_with (refine wpList_store_box (cells := #[.bool false, .bool false, .slice none 0 0, .slice none 0 0, .slice none 0 0, .int .i64 q2, .int .i64 0, .int .i64 3]) rfl 47 _ _ rfl X2.out (by rfl) (by rfl) rfl (by kernel_rfl) (by simp [Value.oneCell']) ?_; intro u9 X9 st9)
      have B9 := st9.below w.heap.size w (Nat.le_refl _) B2
      exact bodyPost_ret (v := .agg #[.bool false, .bool false, .slice none 0 0, .slice none 0 0, .slice none 0 0, .int .i64 q2, .int .i64 0, .int .i64 3]) (box_result rfl _ _ (by rfl) X9 Tryz.underlying47 rfl (by kernel_rfl)) rfl (rp_err (by rw [HR.out]; unfold rAtom; rw [if_pos (by rw [← HCH.out]; exact HYES.out)]; simp only [← HR2.out]; rw [if_neg (by simp), if_neg (by have := HL.out; omega), if_pos (by rw [← HCH2.out]; exact h93)]) B9)
    have H93 := Lib.hid h93
    obtain ⟨z1, z2⟩ := byte_eq (a := ch2) (k := 93) (by rw [h93]; rfl)
    clear h93
    obtain ⟨⟨l3, q3, e3⟩, hr3⟩ : ∃ x, x = rBytes l (q2 + 1) := ⟨_, rfl⟩
    have HR3 := Lib.hid hr3
    clear hr3
    have f1 := Y2.frozen 1
    have d1 := Y2.cell 1 rfl
    have f2 := Y2.frozen 2
    have d2 := Y2.cell 2 rfl
    go_upto_region 13 with fail
    have Y5 := (Y2.set 1 (.bool true)).set 2 (.slice a2 n2 c2)
    have X5 := (X2.out.far ⟨g, 1, none⟩ (.bool true) (Nat.ne_of_lt hlt1)).far ⟨g, 2, none⟩ (.slice a2 n2 c2) (Nat.ne_of_lt hlt1)
    have B5 := (B2.setCell (p := ⟨g, 1, none⟩) (Nat.le_of_lt hlt1) (.bool true)).setCell (p := ⟨g, 2, none⟩) (Nat.le_of_lt hlt1) (.slice a2 n2 c2)
    change Code.wp _ _ _ _ ((w2.setCell ⟨g, 1, none⟩ (.bool true)).setCell ⟨g, 2, none⟩ (.slice a2 n2 c2))
    have HB2 := Lib.hid B2
    generalize ((w2.setCell ⟨g, 1, none⟩ (.bool true)).setCell ⟨g, 2, none⟩ (.slice a2 n2 c2)) = u5 at *
    clear Y2 X2 f1 d1 f2 d2 hc2 z1 z2
    replace Y5 : Box u5 g 26 #[.bool false, .bool true, .slice a2 n2 c2, .slice none 0 0, .slice none 0 0] := Y5
    have pq : ((q2 + 1 : Nat) : Int) = (q2 : Int) + 1 := by omega
    have CB2 := Lib.hid (CB.out u5 (q2 + 1) B5 (by omega))
    rw [pq] at CB2
    clear pq
    go_wp2_with fail
    refine CB2.out.mono ?_
    rintro e w3 ⟨a3, n3, c3, rfl, s3, i3, hb3⟩
    rw [← HR3.out] at s3 ⊢
    dsimp only at s3 ⊢
    have X3 := X5.after hb3
    have Y3 := Y5.after hb3
    have B3 := B5.trans (hb3.mono B5.size)
    have S3 := Lib.hid s3
    have I3 := Lib.hid i3
    clear X5 Y5 B5 hb3 s3 i3
    replace X3 := Lib.hid X3
    by_cases he3 : e3 = 0
    case neg =>
      obtain ⟨z1, z2⟩ := nat_ne he3
      go_wp2_with (refine wpList_store_box (cells := #[.bool false, .bool false, .slice none 0 0, .slice none 0 0, .slice none 0 0, .int .i64 q3, .int .i64 0, .int .i64 e3]) rfl 47 _ _ rfl X3.out (by rfl) (by rfl) rfl (by kernel_rfl) (by simp [Value.oneCell']) ?_; intro u9 X9 st9)
      have B9 := st9.below w.heap.size w (Nat.le_refl _) B3
      exact bodyPost_ret (v := .agg #[.bool false, .bool false, .slice none 0 0, .slice none 0 0, .slice none 0 0, .int .i64 q3, .int .i64 0, .int .i64 e3]) (box_result rfl _ _ (by rfl) X9 Tryz.underlying47 rfl (by kernel_rfl)) rfl (rp_err (by rw [HR.out]; unfold rAtom; rw [if_pos (by rw [← HCH.out]; exact HYES.out)]; simp only [← HR2.out]; rw [if_neg (by simp), if_neg (by have := HL.out; omega), if_neg (by rw [← HCH2.out, H93.out]; simp)]; simp only [← HR3.out]; rw [if_pos he3]) B9)
    subst he3
    have f3 := Y3.frozen 3
    have d3 := Y3.cell 3 rfl
    go_upto_region 17 with fail
    have Y8 := Y3.set 3 (.slice a3 n3 c3)
    have X8 := X3.out.far ⟨g, 3, none⟩ (.slice a3 n3 c3) (Nat.ne_of_lt hlt1)
    have B8 := B3.setCell (p := ⟨g, 3, none⟩) (Nat.le_of_lt hlt1) (.slice a3 n3 c3)
    change Code.wp _ _ _ _ (w3.setCell ⟨g, 3, none⟩ (.slice a3 n3 c3))
    generalize (w3.setCell ⟨g, 3, none⟩ (.slice a3 n3 c3)) = u8 at *
    clear Y3 X3 f3 d3
    replace Y8 : Box u8 g 26 #[.bool false, .bool true, .slice a2 n2 c2, .slice a3 n3 c3, .slice none 0 0] := Y8
    replace X8 := Lib.hid X8
    replace Y8 := Lib.hid Y8
    go_wp2_with first | (refine wpList_load_box rfl 26 _ rfl Y8.out (by rfl) Tryz.underlying26 rfl (by kernel_rfl) ?_) | (refine wpList_store_box (cells := #[.bool false, .bool true, .slice a2 n2 c2, .slice a3 n3 c3, .slice none 0 0, .int .i64 q3, .int .i64 m, .int .i64 0]) rfl 47 _ _ rfl X8.out (by rfl) (by rfl) rfl (by kernel_rfl) (by simp [Value.oneCell']) ?_; intro u9 X9 st9)
    have B9 := st9.below w.heap.size w (Nat.le_refl _) B8
    exact bodyPost_ret (v := .agg #[.bool false, .bool true, .slice a2 n2 c2, .slice a3 n3 c3, .slice none 0 0, .int .i64 q3, .int .i64 m, .int .i64 0]) (box_result rfl _ _ (by rfl) X9 Tryz.underlying47 rfl (by kernel_rfl)) rfl (rp_ok (by rw [HR.out]; unfold rAtom; rw [if_pos (by rw [← HCH.out]; exact HYES.out)]; simp only [← HR2.out]; rw [if_neg (by simp), if_neg (by have := HL.out; omega), if_neg (by rw [← HCH2.out, H93.out]; simp)]; simp only [← HR3.out]; rw [if_neg (by simp)]) ⟨false, true, a2, n2, c2, a3, n3, c3, none, 0, 0⟩ (rd_hint (S2.out.keepB (I2.out.mono HOK.out) HB2.out B9) (S3.out.keepB (I3.out.mono HOK.out) B3 B9) (I2.out.mono fun k h => .inl h) (I3.out.mono fun k h => .inl h)) B9)
  · have hno := hyes
    obtain ⟨x1, x2⟩ := byte_ne (a := ch) (k := 91) (fun e => hyes (by rw [← UInt8.toNat_inj]; exact e))
    obtain ⟨⟨l3, q3, e3⟩, hr3⟩ : ∃ x, x = rBytes l p := ⟨_, rfl⟩
    have HR3 := Lib.hid hr3
    have HNO := Lib.hid hno
    clear hr3 hno hyes
    go_enter Tryz.func49, Tryz.ntmps49
    go_upto_region 1 with fail
    change Code.wp _ _ _ _ (w.alloc (.cells #[.bool false, .bool false, .slice none 0 0, .slice none 0 0, .slice none 0 0, .int .i64 0, .int .i64 0, .int .i64 0] 47))
    generalize (w.alloc (.cells #[.bool false, .bool false, .slice none 0 0, .slice none 0 0, .slice none 0 0, .int .i64 0, .int .i64 0, .int .i64 0] 47)) = v0 at *
    go_upto_region 2 with (refine wpList_store_box (cells := #[.bool false, .bool false, .slice none 0 0, .slice none 0 0, .slice none 0 0]) rfl 26 _ _ rfl (Box.new _ _ _) (by rfl) (by rfl) rfl (by kernel_rfl) (by simp [Value.oneCell']) ?_; intro u1 Y1 st1)
    have B1 := st1.below w.heap.size w B0.size (B0.alloc B0.size _)
    have X1 := st1.box (X0.alloc (.cells #[.bool false, .bool false, .slice none 0 0, .slice none 0 0, .slice none 0 0] 26)) (Nat.ne_of_lt X0.lt)
    have hlt1 := X0.lt
    clear X0 B0 st1
    have q1 := HCP.out u1 B1
    generalize v0.heap.size = g at *
    go_wp2_with fail
    refine (CB.out _ p B1 (by omega)).mono ?_
    rintro e w3 ⟨a3, n3, c3, rfl, s3, i3, hb3⟩
    rw [← HR3.out] at s3 ⊢
    dsimp only at s3 ⊢
    have X3 := X1.after hb3
    have Y3 := Y1.after hb3
    have B3 := B1.trans (hb3.mono B1.size)
    have S3 := Lib.hid s3
    have I3 := Lib.hid i3
    clear X1 Y1 B1 hb3 s3 i3
    replace X3 := Lib.hid X3
    by_cases he3 : e3 = 0
    case neg =>
      obtain ⟨z1, z2⟩ := nat_ne he3
      go_wp2_with (refine wpList_store_box (cells := #[.bool false, .bool false, .slice none 0 0, .slice none 0 0, .slice none 0 0, .int .i64 q3, .int .i64 0, .int .i64 e3]) rfl 47 _ _ rfl X3.out (by rfl) (by rfl) rfl (by kernel_rfl) (by simp [Value.oneCell']) ?_; intro u9 X9 st9)
      have B9 := st9.below w.heap.size w (Nat.le_refl _) B3
      exact bodyPost_ret (v := .agg #[.bool false, .bool false, .slice none 0 0, .slice none 0 0, .slice none 0 0, .int .i64 q3, .int .i64 0, .int .i64 e3]) (box_result rfl _ _ (by rfl) X9 Tryz.underlying47 rfl (by kernel_rfl)) rfl (rp_err (by rw [HR.out]; unfold rAtom; rw [if_neg (by rw [← HCH.out]; exact HNO.out)]; simp only [← HR3.out]; rw [if_pos he3]) B9)
    subst he3
    have f3 := Y3.frozen 3
    have d3 := Y3.cell 3 rfl
    go_upto_region 17 with fail
    have Y8 := Y3.set 3 (.slice a3 n3 c3)
    have X8 := X3.out.far ⟨g, 3, none⟩ (.slice a3 n3 c3) (Nat.ne_of_lt hlt1)
    have B8 := B3.setCell (p := ⟨g, 3, none⟩) (Nat.le_of_lt hlt1) (.slice a3 n3 c3)
    change Code.wp _ _ _ _ (w3.setCell ⟨g, 3, none⟩ (.slice a3 n3 c3))
    generalize (w3.setCell ⟨g, 3, none⟩ (.slice a3 n3 c3)) = u8 at *
    clear Y3 X3 f3 d3
    replace Y8 : Box u8 g 26 #[.bool false, .bool false, .slice none 0 0, .slice a3 n3 c3, .slice none 0 0] := Y8
    replace X8 := Lib.hid X8
    replace Y8 := Lib.hid Y8
    go_wp2_with first | (refine wpList_load_box rfl 26 _ rfl Y8.out (by rfl) Tryz.underlying26 rfl (by kernel_rfl) ?_) | (refine wpList_store_box (cells := #[.bool false, .bool false, .slice none 0 0, .slice a3 n3 c3, .slice none 0 0, .int .i64 q3, .int .i64 m, .int .i64 0]) rfl 47 _ _ rfl X8.out (by rfl) (by rfl) rfl (by kernel_rfl) (by simp [Value.oneCell']) ?_; intro u9 X9 st9)
    have B9 := st9.below w.heap.size w (Nat.le_refl _) B8
    exact bodyPost_ret (v := .agg #[.bool false, .bool false, .slice none 0 0, .slice a3 n3 c3, .slice none 0 0, .int .i64 q3, .int .i64 m, .int .i64 0]) (box_result rfl _ _ (by rfl) X9 Tryz.underlying47 rfl (by kernel_rfl)) rfl (rp_ok (by rw [HR.out]; unfold rAtom; rw [if_neg (by rw [← HCH.out]; exact HNO.out)]; simp only [← HR3.out]; rw [if_neg (by simp)]) ⟨false, false, none, 0, 0, a3, n3, c3, none, 0, 0⟩ (rd_atomI (S3.out.keepB (I3.out.mono HOK.out) B3 B9) (I3.out.mono fun k h => .inl h)) B9)

end Go.Proofs.YtkbblhioncecmaaGreatDoor

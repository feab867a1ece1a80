/- octet.GetLen and the document's Len: what they compute. A length that is written is read: plain. No two trees have one form: plain. SexpOne: the walk. SexpLists: the walk. The program's Same: what it computes. An argument that is an S-expression: opened to its cells, as a tree. How a canonical form is read: plain. Lengths and bytes, read as they are written, and cut off: plain. Forms, read as they are written, cut off, and what is read: plain. The document's bytes: what it computes. The document's atom: what it computes. The document's value: what it computes. The document's Get: what it answers. -/
import Derived.Test.YtigopfeamjhdpaaDoorWnG3
import Derived.Deep.QuietTactic
import Derived.BigQuiet
import Derived.WalkLawsBesides
import Derived.WalkSmall
import Derived.ChangeSlices
import Derived.WideShapes
import Derived.Deep.Slices
namespace Go.Proofs.YtigopfeamjhdpaaDoor
open Go.RowKit

theorem Sl.some {w : World} {a : Option Addr} {len cap : Nat} {l : List UInt8} (h : Sl w a len cap l) (hl : 0 < len) : ∃ b o, a = Option.some ⟨b, o, none⟩ ∧ (∀ i, i < len → w.cell? ⟨b, o + i, none⟩ = Option.some (.int .u8 ((l.getD i 0).toNat : Int))) ∧ b < w.heap.size := by
  have hlt := h.lt
  rcases h.2.2.2.2 with h4 | ⟨b, o, rfl, h4⟩
  · omega
  · exact ⟨b, o, rfl, h4, hlt b o (by omega) rfl⟩

def isD (c : UInt8) : Prop := 48 ≤ c.toNat ∧ c.toNat ≤ 57
instance (c : UInt8) : Decidable (isD c) := by unfold isD; infer_instance

/-- the number that begins there, and how many digits it has; none: it is above M -/
def lenScan (M : Nat) : Nat → List UInt8 → Option (Nat × Nat)
  | n, [] => some (n, 0)
  | n, c :: t => if isD c then (if M < 10 * n + (c.toNat - 48) then none else (lenScan M (10 * n + (c.toNat - 48)) t).map fun p => (p.1, p.2 + 1)) else some (n, 0)
/-- the length at a place: the number, the place behind it, the error -/
def lenR (l : List UInt8) (at' : Int) (M : Nat) : Int × Int × Int :=
  if at' < 0 then (0, at', 1) else if (l.length : Int) ≤ at' then (0, at', 2) else
  if ¬ isD (l.getD at'.toNat 0) then (0, at', 3) else if l.getD at'.toNat 0 = 48 then (0, at' + 1, 0) else
  match lenScan M 0 (l.drop at'.toNat) with
  | none => (0, at', 4)
  | some (n, k) => (n, at' + k, 0)
theorem lenScan_step (M n : Nat) (l : List UInt8) (i : Nat) (h : i < l.length) (c : UInt8) (hc : c = l.getD i 0) :
    lenScan M n (l.drop i) = if isD c then (if M < 10 * n + (c.toNat - 48) then none else (lenScan M (10 * n + (c.toNat - 48)) (l.drop (i + 1))).map fun p => (p.1, p.2 + 1)) else some (n, 0) := by
  rw [List.drop_eq_getElem_cons h, lenScan]
  have e : l[i] = c := by rw [hc]; simp [List.getD_eq_getElem?_getD, h]
  rw [e]
theorem lenScan_end (M n : Nat) (l : List UInt8) (i : Nat) (h : l.length ≤ i) : lenScan M n (l.drop i) = some (n, 0) := by rw [List.drop_of_length_le h, lenScan]
theorem map_two (o : Option (Nat × Nat)) (k : Nat) : (o.map fun p => (p.1, p.2 + 1)).map (fun p => (p.1, p.2 + k)) = o.map fun p => (p.1, p.2 + (k + 1)) := by
  cases o <;> simp; omega
def LenP (r : Int × Int × Int) (w : World) (e : Ending) (w' : World) : Prop := e = .returned (.tuple #[.int .i64 r.1, .int .i64 r.2.1, .int .i64 r.2.2]) ∧ Below w.heap.size w w'

set_option maxHeartbeats 8000000 in
set_option maxRecDepth 100000 in
theorem getLen_any (a : Option Addr) (len cap : Nat) (l : List UInt8) (at' most : Int) (M : Nat) (w : World) (hs : Sl w a len cap l) (hn : len ≤ 1000000) (hat0 : -9223372036854775808 ≤ at') (hat : at' ≤ 9223372036854775807) (hm : max most 0 = (M : Int)) (hM : M ≤ 9223372036854775807) :
    Calls Tryd.prog 78 #[.slice a len cap, .int .i64 at', .int .i64 most] w (LenP (lenR l at' M) w) := by
  have HS := Lib.hid hs
  have HL := Lib.hid hs.1
  clear hs
  obtain ⟨R, hR⟩ : ∃ R, R = lenR l at' M := ⟨_, rfl⟩
  rw [← hR]
  have HR := Lib.hid hR
  clear hR
  by_cases h1 : at' < 0
  · have HE := Lib.hid (show R = (0, at', 1) by rw [HR.out, lenR, if_pos h1])
    go_enter Tryd.func78, Tryd.ntmps78
    go_wp2_with fail
    exact bodyPost_ret (v := .tuple #[.int .i64 0, .int .i64 at', .int .i64 1]) (by simp [results, Tryd.results78, go_sem]) rfl ⟨by rw [HE.out], Below.refl _ _⟩
  replace h1 : 0 ≤ at' := by omega
  by_cases h2 : (len : Int) ≤ at'
  · have HE := Lib.hid (show R = (0, at', 2) by rw [HR.out, lenR, if_neg (by omega), if_pos (by rw [← HL.out]; exact h2)])
    go_enter Tryd.func78, Tryd.ntmps78
    go_wp2_with fail
    exact bodyPost_ret (v := .tuple #[.int .i64 0, .int .i64 at', .int .i64 2]) (by simp [results, Tryd.results78, go_sem]) rfl ⟨by rw [HE.out], Below.refl _ _⟩
  replace h2 : at' < (len : Int) := by omega
  obtain ⟨p, rfl⟩ : ∃ p : Nat, at' = (p : Int) := ⟨at'.toNat, by omega⟩
  obtain ⟨b, o, rfl, hcc, _⟩ := HS.out.some (by omega)
  have c0 := hcc p (by omega)
  have HC := Lib.hid hcc
  obtain ⟨x, hx⟩ : ∃ x, x = l.getD p 0 := ⟨_, rfl⟩
  rw [← hx] at c0
  have HX := Lib.hid hx
  have hx255 := x.toNat_lt
  have HR2 := Lib.hid (show R = if ¬ isD x then ((0 : Int), (p : Int), (3 : Int)) else if x = 48 then ((0 : Int), (p : Int) + 1, (0 : Int)) else
      match lenScan M 0 (l.drop p) with
      | none => ((0 : Int), (p : Int), (4 : Int))
      | some (n, k) => ((n : Int), (p : Int) + k, (0 : Int)) by
    rw [HR.out, lenR, if_neg (by omega), if_neg (by rw [← HL.out]; omega), Int.toNat_natCast, ← HX.out])
  clear hcc hx
  by_cases h3 : (x.toNat : Int) < 48
  · have HE := Lib.hid (show R = (0, (p : Int), 3) by rw [HR2.out, if_pos (by unfold isD; omega)])
    go_enter Tryd.func78, Tryd.ntmps78
    go_wp2_with fail
    exact bodyPost_ret (v := .tuple #[.int .i64 0, .int .i64 (p : Int), .int .i64 3]) (by simp [results, Tryd.results78, go_sem]) rfl ⟨by rw [HE.out], Below.refl _ _⟩
  replace h3 : (48 : Int) ≤ x.toNat := by omega
  by_cases h4 : (57 : Int) < x.toNat
  · have HE := Lib.hid (show R = (0, (p : Int), 3) by rw [HR2.out, if_pos (by unfold isD; omega)])
    go_enter Tryd.func78, Tryd.ntmps78
    go_wp2_with fail
    exact bodyPost_ret (v := .tuple #[.int .i64 0, .int .i64 (p : Int), .int .i64 3]) (by simp [results, Tryd.results78, go_sem]) rfl ⟨by rw [HE.out], Below.refl _ _⟩
  replace h4 : (x.toNat : Int) ≤ 57 := by omega
  have HR3 := Lib.hid (HR2.out.trans (if_neg (by unfold isD; omega)))
  by_cases h5 : x = 48
  · have HE := Lib.hid (show R = (0, (p : Int) + 1, 0) by rw [HR3.out, if_pos h5])
    have t5 : ((x.toNat : Int) == 48) = true := by rw [h5]; rfl
    have H5 := Lib.hid h5
    clear h5
    go_enter Tryd.func78, Tryd.ntmps78
    go_wp2_with fail
    exact bodyPost_ret (v := .tuple #[.int .i64 0, .int .i64 ((p : Int) + 1), .int .i64 0]) (by simp [results, Tryd.results78, go_sem]) rfl ⟨by rw [HE.out], Below.refl _ _⟩
  have t5 : ((x.toNat : Int) == 48) = false := by
    have : x.toNat ≠ 48 := fun h => h5 (UInt8.toNat_inj.1 h)
    simp; omega
  have HR4 := Lib.hid (HR3.out.trans (if_neg h5))
  have H5 := Lib.hid h5
  clear h5
  obtain ⟨Z, hZ⟩ : ∃ Z, Z = lenScan M 0 (l.drop p) := ⟨_, rfl⟩
  rw [← hZ] at HR4
  have HZ := Lib.hid hZ
  clear hZ
  go_enter Tryd.func78, Tryd.ntmps78
  go_wp2_with fail
  clear t5 h3 h4 c0 hx255
  go_loop [9, 10] (fun n' i' => ∃ m k : Nat, p + k ≤ len ∧ m ≤ M ∧ n' = .int .i64 m ∧ i' = .int .i64 ((p : Int) + (k : Int)) ∧ Hid (Z = (lenScan M m (l.drop (p + k))).map fun q => (q.1, q.2 + k))) (fun _ i' => len - (intOf i').toNat)
  case atStart => exact ⟨0, 0, by omega, Nat.zero_le _, rfl, by go_num, Lib.hid (by rw [HZ.out]; simp)⟩
  case round =>
    obtain ⟨m, k, hk, hmM, rfl, rfl, HD⟩ := hrel
    obtain ⟨i, hi⟩ : ∃ i : Nat, i = p + k := ⟨_, rfl⟩
    have hik : (p : Int) + (k : Int) = (i : Int) := by omega
    rw [hik]
    have HI := Lib.hid hi
    have HIK := Lib.hid hik
    rw [← hi] at hk HD
    clear hik
    by_cases hlt : i < len
    · have c1 := HC.out i hlt
      obtain ⟨y, hy⟩ : ∃ y, y = l.getD i 0 := ⟨_, rfl⟩
      rw [← hy] at c1
      have HT := Lib.hid (lenScan_step M m l i (by have := HL.out; omega) y hy)
      have hy255 := y.toNat_lt
      have hiI : (i : Int) < len := by omega
      clear hy hi
      by_cases d1 : (48 : Int) ≤ y.toNat
      · by_cases d2 : (y.toNat : Int) ≤ 57
        · obtain ⟨d, hd⟩ : ∃ d : Nat, (y.toNat : Int) - 48 = (d : Int) := ⟨y.toNat - 48, by omega⟩
          have hd9 : d ≤ 9 := by omega
          have HDD := Lib.hid (show y.toNat - 48 = d by omega)
          have HT2 := Lib.hid (HT.out.trans (if_pos (show isD y by unfold isD; omega)))
          rw [HDD.out] at HT2
          by_cases hov : M < 10 * m + d
          · have HE := Lib.hid (show R = (0, (p : Int), 4) by rw [HR4.out, HD.out, HT2.out, if_pos hov]; rfl)
            have hw1 : IntKind.u8.wrap ((y.toNat : Int) - 48) = (d : Int) := by rw [IntKind.wrap_u8, hd]; omega
            by_cases hMd : (M : Int) < d
            · have q1 : ((M : Int) - d).tdiv 10 = 0 := by
                rw [show (M : Int) - d = -((d : Int) - M) by omega, Int.neg_tdiv, Int.tdiv_eq_ediv_of_nonneg (by omega)]; omega
              by_cases hm0 : (0 : Int) < m
              · go_wp2_with fail
                exact bodyPost_ret (v := .tuple #[.int .i64 0, .int .i64 p, .int .i64 4]) (by simp [results, Tryd.results78, go_sem]) rfl ⟨by rw [HE.out], Below.refl _ _⟩
              · have hm0' : (m : Int) ≤ 0 := by omega
                go_wp2_with fail
                exact bodyPost_ret (v := .tuple #[.int .i64 0, .int .i64 p, .int .i64 4]) (by simp [results, Tryd.results78, go_sem]) rfl ⟨by rw [HE.out], Below.refl _ _⟩
            · replace hMd : (d : Int) ≤ M := by omega
              have hMd0 : 0 ≤ (M : Int) - d := by omega
              have hq : ((M : Int) - d) / 10 < (m : Int) := by omega
              go_wp2_with fail
              exact bodyPost_ret (v := .tuple #[.int .i64 0, .int .i64 p, .int .i64 4]) (by simp [results, Tryd.results78, go_sem]) rfl ⟨by rw [HE.out], Below.refl _ _⟩
          · have HE := Lib.hid (show Z = (lenScan M (10 * m + d) (l.drop (p + (k + 1)))).map fun q => (q.1, q.2 + (k + 1)) by
              rw [HD.out, HT2.out, if_neg hov, map_two]; rw [show i + 1 = p + (k + 1) by have := HI.out; omega])
            have hMd : (d : Int) ≤ M := by omega
            have hMd0 : 0 ≤ (M : Int) - d := by omega
            have hq : (m : Int) ≤ ((M : Int) - d) / 10 := by omega
            have hmm : 10 * (m : Int) ≤ 9223372036854775807 := by omega
            have hmm2 : 10 * (m : Int) + d ≤ 9223372036854775807 := by omega
            go_wp2_with fail
            go_round
            case rel => exact ⟨10 * m + d, k + 1, by have := HI.out; omega, by omega, by go_num, by have := HIK.out; congr 1; omega, HE⟩
            case measure => simp [intOf]; omega
        · have d2' : (57 : Int) < y.toNat := by omega
          have HE := Lib.hid (show R = (((m : Nat) : Int), (i : Int), 0) by rw [HR4.out, HD.out, HT.out, if_neg (by unfold isD; omega)]; have := HI.out; simp; omega)
          clear d2
          go_wp2_with fail
          exact bodyPost_ret (v := .tuple #[.int .i64 m, .int .i64 i, .int .i64 0]) (by simp [results, Tryd.results78, go_sem]) rfl ⟨by rw [HE.out], Below.refl _ _⟩
      · have d1' : (y.toNat : Int) < 48 := by omega
        have HE := Lib.hid (show R = (((m : Nat) : Int), (i : Int), 0) by rw [HR4.out, HD.out, HT.out, if_neg (by unfold isD; omega)]; have := HI.out; simp; omega)
        clear d1
        go_wp2_with fail
        exact bodyPost_ret (v := .tuple #[.int .i64 m, .int .i64 i, .int .i64 0]) (by simp [results, Tryd.results78, go_sem]) rfl ⟨by rw [HE.out], Below.refl _ _⟩
    · obtain rfl : i = len := by omega
      have HE := Lib.hid (show R = (((m : Nat) : Int), (i : Int), 0) by rw [HR4.out, HD.out, lenScan_end _ _ _ _ (by have := HL.out; omega)]; have := HI.out; simp; omega)
      clear hi
      go_wp2_with fail
      exact bodyPost_ret (v := .tuple #[.int .i64 m, .int .i64 i, .int .i64 0]) (by simp [results, Tryd.results78, go_sem]) rfl ⟨by rw [HE.out], Below.refl _ _⟩

end Go.Proofs.YtigopfeamjhdpaaDoor
namespace Go.Proofs.YtigopfeamjhdpaaDoor
open Go.RowKit

def valA (a : Nat) (w : List UInt8) : Nat := w.foldl (fun a c => 10 * a + (c.toNat - 48)) a
theorem valA_nil (a : Nat) : valA a [] = a := by unfold valA; rw [List.foldl_nil]
theorem valA_cons (a : Nat) (c : UInt8) (t : List UInt8) : valA a (c :: t) = valA (10 * a + (c.toNat - 48)) t := by unfold valA; rw [List.foldl_cons]
theorem valA_ge (w : List UInt8) : ∀ (a : Nat), a ≤ valA a w := by
  induction w with
  | nil => intro a; rw [valA_nil]; exact Nat.le_refl _
  | cons c t ih => intro a; rw [valA_cons]; exact Nat.le_trans (show a ≤ 10 * a + (c.toNat - 48) by omega) (ih _)
theorem valA_snoc (w : List UInt8) (a : Nat) (c : UInt8) : valA a (w ++ [c]) = 10 * valA a w + (c.toNat - 48) := by
  unfold valA; rw [List.foldl_append, List.foldl_cons, List.foldl_nil]
theorem lenScan_app (M : Nat) (r : List UInt8) (w : List UInt8) : ∀ (a : Nat), (∀ c ∈ w, isD c) → a ≤ M → lenScan M a (w ++ r) = if M < valA a w then none else (lenScan M (valA a w) r).map fun p => (p.1, p.2 + w.length) := by
  induction w with
  | nil =>
    intro a _ ha
    rw [List.nil_append, valA_nil, if_neg (by omega)]
    cases lenScan M a r <;> simp
  | cons c t ih =>
    intro a h ha
    have hc := h c (List.mem_cons_self ..)
    rw [List.cons_append, lenScan, if_pos hc, valA_cons]
    by_cases ho : M < 10 * a + (c.toNat - 48)
    · have := valA_ge t (10 * a + (c.toNat - 48))
      rw [if_pos ho, if_pos (by omega)]
    · rw [if_neg ho, ih _ (fun d hd => h d (List.mem_cons_of_mem _ hd)) (by omega)]
      split
      · rfl
      · generalize lenScan M (valA (10 * a + (c.toNat - 48)) t) r = z
        cases z with
        | none => rfl
        | some p => simp only [Option.map_some, List.length_cons]; rw [Nat.add_assoc]

theorem dec_facts : ∀ (u : Nat), (∀ c ∈ Lib.decDigits u, isD c) ∧ valA 0 (Lib.decDigits u) = u ∧ (0 < u → (Lib.decDigits u).getD 0 0 ≠ 48) ∧ 0 < (Lib.decDigits u).length := by
  intro u
  induction u using Nat.strongRecOn with
  | _ u ih =>
    rw [Lib.decDigits]
    split
    · rename_i h
      have e : (UInt8.ofNat (48 + u)).toNat = 48 + u := by simp; omega
      refine ⟨fun c hc => ?_, ?_, fun h0 => ?_, by simp⟩
      · rw [List.mem_singleton.1 hc]; unfold isD; rw [e]; omega
      · rw [valA_cons, valA_nil, e]; omega
      · show UInt8.ofNat (48 + u) ≠ 48
        intro h2
        have := congrArg UInt8.toNat h2
        rw [e] at this
        simp at this; omega
    · rename_i h
      obtain ⟨i1, i2, i3, i4⟩ := ih (u / 10) (by omega)
      have e : (UInt8.ofNat (48 + u % 10)).toNat = 48 + u % 10 := by simp; omega
      refine ⟨fun c hc => ?_, ?_, fun _ => ?_, by simp⟩
      · rcases List.mem_append.1 hc with hc | hc
        · exact i1 c hc
        · rw [List.mem_singleton.1 hc]; unfold isD; rw [e]; omega
      · rw [valA_snoc, i2, e]; omega
      · have := i3 (by omega)
        rw [List.getD_eq_getElem?_getD, List.getElem?_append_left i4, ← List.getD_eq_getElem?_getD]; exact this

theorem back_len (n : Int) (h0 : 0 ≤ n) (t : List UInt8) (ht : ∀ c r, t = c :: r → ¬ isD c) (M : Nat) (hM : n.toNat ≤ M) : lenR (numL n ++ t) 0 M = (n, ((numL n).length : Int), 0) := by
  obtain ⟨d1, d2, d3, d4⟩ := dec_facts n.toNat
  unfold numL at *
  obtain ⟨L, hL⟩ : ∃ L, L = Lib.decDigits n.toNat := ⟨_, rfl⟩
  rw [← hL] at d1 d2 d3 d4 ⊢
  have hg : (L ++ t).getD 0 0 = L.getD 0 0 := by simp [List.getD_eq_getElem?_getD, List.getElem?_append_left d4]
  have hd : isD (L.getD 0 0) := d1 _ (by simp [List.getD_eq_getElem?_getD, List.getElem?_eq_getElem d4])
  unfold lenR
  rw [if_neg (by omega), if_neg (by rw [List.length_append]; omega), Int.toNat_zero, hg, if_neg (fun h => h hd)]
  by_cases hn : n = 0
  · subst hn
    have : L = [48] := by rw [hL, Lib.decDigits]; rfl
    subst this
    rfl
  · have h1 := d3 (by omega)
    rw [if_neg h1, List.drop_zero, lenScan_app M t L 0 d1 (Nat.zero_le _), d2, if_neg (by omega)]
    have : lenScan M n.toNat t = some (n.toNat, 0) := by
      cases t with
      | nil => rfl
      | cons c r => unfold lenScan; rw [if_neg (ht c r rfl)]
    rw [this]
    simp; omega
end Go.Proofs.YtigopfeamjhdpaaDoor
namespace Go.Proofs.YtigopfeamjhdpaaDoor
open Go.RowKit

theorem digits_split {a b : List UInt8} {c d : UInt8} {x y : List UInt8} (ha : ∀ z ∈ a, isD z) (hb : ∀ z ∈ b, isD z) (hc : ¬ isD c) (hd : ¬ isD d) (h : a ++ c :: x = b ++ d :: y) : a = b ∧ c = d ∧ x = y := by
  induction a generalizing b with
  | nil =>
    cases b with
    | nil => simp at h; exact ⟨rfl, h.1, h.2⟩
    | cons z r => simp at h; exact absurd (h.1 ▸ hb z List.mem_cons_self) hc
  | cons z r ih =>
    cases b with
    | nil => simp at h; exact absurd (h.1.symm ▸ ha z List.mem_cons_self) hd
    | cons z' r' =>
      simp only [List.cons_append, List.cons.injEq] at h
      obtain ⟨rfl, h⟩ := h
      obtain ⟨rfl, h2, h3⟩ := ih (fun z hz => ha z (List.mem_cons_of_mem _ hz)) (fun z hz => hb z (List.mem_cons_of_mem _ hz)) h
      exact ⟨rfl, h2, h3⟩
theorem not_isD {c : UInt8} (h : c.toNat < 48 ∨ 57 < c.toNat) : ¬ isD c := by unfold isD; omega
theorem numL_facts (n : Nat) : (∀ c ∈ numL (n : Int), isD c) ∧ valA 0 (numL (n : Int)) = n ∧ 0 < (numL (n : Int)).length := by
  have := dec_facts n
  unfold numL
  rw [Int.toNat_natCast]
  exact ⟨this.1, this.2.1, this.2.2.2⟩
theorem numL_inj {n m : Nat} (h : numL (n : Int) = numL (m : Int)) : n = m := by rw [← (numL_facts n).2.1, ← (numL_facts m).2.1, h]
theorem textL_inj {l l' r r' : List UInt8} (h : textL l ++ r = textL l' ++ r') : l = l' ∧ r = r' := by
  simp only [textL, List.append_assoc, List.cons_append] at h
  obtain ⟨h1, _, h2⟩ := digits_split (numL_facts _).1 (numL_facts _).1 (not_isD (c := 58) (by decide)) (not_isD (c := 58) (by decide)) h
  have := numL_inj h1
  exact List.append_inj h2 this
theorem textL_head (l r : List UInt8) : ∃ c t, textL l ++ r = c :: t ∧ isD c := by
  obtain ⟨h1, _, h2⟩ := numL_facts l.length
  obtain ⟨c, t, e⟩ : ∃ c t, numL (l.length : Int) = c :: t := by
    cases e : numL (l.length : Int) with
    | nil => rw [e] at h2; cases h2
    | cons c t => exact ⟨c, t, rfl⟩
  refine ⟨c, t ++ 58 :: (l ++ r), ?_, h1 c (by rw [e]; exact List.mem_cons_self)⟩
  simp [textL, e]
/-- how a form begins -/
theorem form_head (s : Sx) (r : List UInt8) : ∃ c t, s.form ++ r = c :: t ∧ ((s.l = true ∧ c = 40) ∨ (s.l = false ∧ s.h = true ∧ c = 91) ∨ (s.l = false ∧ s.h = false ∧ isD c)) := by
  obtain ⟨l, h, hi, da, ks⟩ := s
  rw [form_def]
  cases l with
  | true => exact ⟨40, _, rfl, .inl ⟨rfl, rfl⟩⟩
  | false =>
    cases h with
    | true => exact ⟨91, _, rfl, .inr (.inl ⟨rfl, rfl, rfl⟩)⟩
    | false =>
      obtain ⟨c, t, e, hd⟩ := textL_head da r
      exact ⟨c, t, by simpa using e, .inr (.inr ⟨rfl, rfl, hd⟩)⟩
theorem form_not_end (s : Sx) (r r' : List UInt8) : s.form ++ r ≠ 41 :: r' := by
  intro h
  obtain ⟨c, t, e, h2⟩ := form_head s r
  rw [e] at h
  simp only [List.cons.injEq] at h
  obtain ⟨rfl, _⟩ := h
  rcases h2 with ⟨_, h2⟩ | ⟨_, _, h2⟩ | ⟨_, _, h2⟩
  · exact absurd h2 (by decide)
  · exact absurd h2 (by decide)
  · exact absurd h2 (not_isD (by decide))
theorem clean_parts {l h : Bool} {hi da : List UInt8} {ks : List Sx} (hc : (Sx.mk l h hi da ks).clean = true) :
    (l = true → h = false ∧ hi = [] ∧ da = []) ∧ (l = false → ks = [] ∧ (h = false → hi = [])) ∧ ∀ k ∈ ks, k.clean = true := by
  rw [clean_def, Bool.and_eq_true] at hc
  refine ⟨fun e => ?_, fun e => ?_, fun k hk => ?_⟩
  · subst e; have := hc.1; unfold headOk at this; simpa [and_assoc] using this
  · subst e
    have := hc.1
    unfold headOk at this
    simp at this
    exact ⟨this.1, fun e => by subst e; simpa using this.2⟩
  · by_cases e : k.clean = true
    · exact e
    · have := Sx.cleanL_no hk (by simpa using e)
      rw [this] at hc
      cases hc.2
theorem form_inj (s : Sx) : ∀ (t : Sx) (r r' : List UInt8), s.clean = true → t.clean = true → s.form ++ r = t.form ++ r' → s = t ∧ r = r' := by
  induction s using Sx.ind with
  | h l hh hi da ks ih =>
    intro t r r' hc hc' h
    obtain ⟨l2, h2, hi2, da2, ks2⟩ := t
    obtain ⟨c, x, e1, k1⟩ := form_head (.mk l hh hi da ks) r
    obtain ⟨c', x', e2, k2⟩ := form_head (.mk l2 h2 hi2 da2 ks2) r'
    have ec : c = c' := by rw [e1, e2] at h; exact (List.cons.injEq .. ▸ h).1
    subst ec
    obtain ⟨p1, p2, p3⟩ := clean_parts hc
    obtain ⟨q1, q2, q3⟩ := clean_parts hc'
    simp only [Sx.l, Sx.h] at k1 k2
    have d1 : ¬ isD 40 := not_isD (by decide)
    have d2 : ¬ isD 91 := not_isD (by decide)
    rcases k1 with ⟨rfl, rfl⟩ | ⟨rfl, rfl, rfl⟩ | ⟨rfl, rfl, k1⟩
    · rcases k2 with ⟨rfl, _⟩ | ⟨_, _, k2⟩ | ⟨_, _, k2⟩
      · obtain ⟨rfl, rfl, rfl⟩ := p1 rfl
        obtain ⟨rfl, rfl, rfl⟩ := q1 rfl
        rw [form_def, form_def, if_pos rfl, if_pos rfl] at h
        simp only [List.cons_append, List.cons.injEq, List.append_assoc, true_and, List.nil_append] at h
        clear e1 e2 hc hc' p1 p2 q1 q2 x x'
        have key : ks = ks2 ∧ r = r' := by
          induction ks generalizing ks2 with
          | nil =>
            cases ks2 with
            | nil => simp [Sx.formL] at h; exact ⟨rfl, h⟩
            | cons y s =>
              simp only [Sx.formL, List.nil_append, List.append_assoc] at h
              exact absurd h.symm (form_not_end y _ _)
          | cons y s ihs =>
            cases ks2 with
            | nil =>
              simp only [Sx.formL, List.nil_append, List.append_assoc] at h
              exact absurd h (form_not_end y _ _)
            | cons y' s' =>
              simp only [Sx.formL, List.append_assoc] at h
              obtain ⟨rfl, h3⟩ := ih y List.mem_cons_self y' _ _ (p3 y List.mem_cons_self) (q3 y' List.mem_cons_self) h
              obtain ⟨rfl, h4⟩ := ihs (fun k hk => ih k (List.mem_cons_of_mem _ hk)) s' (fun k hk => p3 k (List.mem_cons_of_mem _ hk)) (fun k hk => q3 k (List.mem_cons_of_mem _ hk)) h3
              exact ⟨rfl, h4⟩
        obtain ⟨rfl, rfl⟩ := key
        exact ⟨rfl, rfl⟩
      · exact absurd k2 (by decide)
      · exact absurd k2 d1
    · rcases k2 with ⟨_, k2⟩ | ⟨rfl, rfl, _⟩ | ⟨_, _, k2⟩
      · exact absurd k2 (by decide)
      · obtain ⟨rfl, _⟩ := p2 rfl
        obtain ⟨rfl, _⟩ := q2 rfl
        rw [form_def, form_def] at h
        simp only [Bool.false_eq_true, if_false, if_true, List.cons_append, List.cons.injEq, List.append_assoc, true_and, List.nil_append] at h
        obtain ⟨rfl, h3⟩ := textL_inj h
        simp only [List.cons.injEq, true_and] at h3
        obtain ⟨rfl, rfl⟩ := textL_inj h3
        exact ⟨rfl, rfl⟩
      · exact absurd k2 d2
    · rcases k2 with ⟨_, k2⟩ | ⟨_, _, k2⟩ | ⟨rfl, rfl, _⟩
      · exact absurd (k2 ▸ k1) d1
      · exact absurd (k2 ▸ k1) d2
      · obtain ⟨rfl, f1⟩ := p2 rfl
        obtain ⟨rfl, f2⟩ := q2 rfl
        obtain rfl := f1 rfl
        obtain rfl := f2 rfl
        rw [form_def, form_def] at h
        simp only [Bool.false_eq_true, if_false, List.nil_append] at h
        obtain ⟨rfl, rfl⟩ := textL_inj h
        exact ⟨rfl, rfl⟩
theorem form_same {s t : Sx} (hs : s.clean = true) (ht : t.clean = true) : (s.form == t.form) = s.same t := by
  rw [Bool.eq_iff_iff, beq_iff_eq, Sx.same_iff]
  exact ⟨fun h => (form_inj s t [] [] hs ht (by rw [h])).1, fun h => by rw [h]⟩
end Go.Proofs.YtigopfeamjhdpaaDoor
namespace Go.Proofs.YtigopfeamjhdpaaDoor
open Go.RowKit
set_option linter.unusedSimpArgs false
set_option linter.unusedVariables false

/-- what is not great, and holds not more values than an int counts -/
theorem great_no {s : Sx} (h : s.great 0 = false) (hn : s.nodes < 4611686018427387904) : s.wide 0 = false ∧ s.nodes ≤ 2000 := by
  have hw : s.wide 0 = false := by
    by_cases e : s.wide 0 = true
    · rw [great_yes e] at h; cases h
    · simpa using e
  refine ⟨hw, ?_⟩
  rw [great_zero hw, wrap_of _ (by omega)] at h
  have := of_decide_eq_false h
  omega
theorem great_form {s : Sx} (h : s.great 0 = false) (hn : s.nodes < 4611686018427387904) : s.deep ≤ 4611686018427387904 ∧ (s.nodes ≤ 512 → s.form.length ≤ 70368744177664) := by
  obtain ⟨h1, h2⟩ := great_no h hn
  have := deep_wide s 0 h1
  have := form_wide s 0 h1
  exact ⟨by omega, fun _ => by omega⟩
/-- a test, as a letter -/
theorem letter (b : Bool) : ∃ c, c = b := ⟨b, rfl⟩

end Go.Proofs.YtigopfeamjhdpaaDoor
namespace Go.Proofs.YtigopfeamjhdpaaDoor
open Go.RowKit
set_option linter.unusedSimpArgs false
set_option linter.unusedVariables false

theorem add_str (a b : List UInt8) (h : a.length + b.length ≤ 140737488355328) (w : World) : (binOp .add 9 (.string ⟨a.toArray⟩) (.string ⟨b.toArray⟩)).run Tryd.prog w = .ok (.string ⟨(a ++ b).toArray⟩) w := by
  simp [go_sem]
  try rw [if_neg (by omega)]
  rw [cat_ba]
theorem wide_of (s : Sx) : ∀ m, s.clean = true → s.nodes ≤ 700 → s.form.length ≤ 5000 → s.deep + m ≤ 60 → s.wide m = false := by
  induction s using Sx.ind with
  | h l hh hi da ks ih =>
    intro m hc hn hf hd
    obtain ⟨p1, p2, p3⟩ := clean_parts hc
    have e1 : ∀ x : List UInt8, x.length ≤ (textL x).length := fun x => by simp [textL]; omega
    have hnd : ks.length ≤ Sx.nodesL ks := by
      clear ih hc hn hf hd p1 p2 p3
      induction ks with
      | nil => exact Nat.le_refl _
      | cons k r ihr => have := nodes_pos k; simp only [Sx.nodesL, List.length_cons]; omega
    simp only [Sx.nodes] at hn
    have hlen : hi.length ≤ 5000 ∧ da.length ≤ 5000 ∧ (Sx.formL ks).length ≤ 5000 := by
      rw [form_def] at hf
      have a1 := e1 hi
      have a2 := e1 da
      cases l with
      | true =>
        obtain ⟨_, rfl, rfl⟩ := p1 rfl
        simp only [if_true, List.length_cons, List.length_append, List.length_nil] at hf ⊢
        omega
      | false =>
        obtain ⟨rfl, p4⟩ := p2 rfl
        cases hh with
        | true => simp at hf; simp [Sx.formL]; omega
        | false =>
          obtain rfl := p4 rfl
          simp at hf
          simp [Sx.formL]
          omega
    have hkids : Sx.wideL ks (m + 1) = false := by
      have key : ∀ k ∈ ks, k.wide (m + 1) = false := fun k hk => by
        refine ih k hk (m + 1) (p3 k hk) ?_ ?_ ?_
        · have : k.nodes ≤ Sx.nodesL ks := by
            clear ih hc hn hf hd p1 p2 p3 hlen hnd
            induction ks with
            | nil => cases hk
            | cons a r ihr => rcases List.mem_cons.1 hk with rfl | hk
                              · simp only [Sx.nodesL]; omega
                              · have := ihr hk; simp only [Sx.nodesL]; omega
          omega
        · have := Sx.formL_mem hk; omega
        · have := Sx.deepL_mem hk
          cases l with
          | true => simp only [Sx.deep, if_true] at hd; omega
          | false => obtain ⟨rfl, _⟩ := p2 rfl; cases hk
      clear ih hc hn hf hd p1 p2 p3 hlen hnd
      induction ks with
      | nil => rfl
      | cons a r ihr => simp only [Sx.wideL, key a List.mem_cons_self, ihr (fun k hk => key k (List.mem_cons_of_mem _ hk))]; rfl
    rw [wide_def, decide_eq_false (show ¬ 60 < m by omega), decide_eq_false (show ¬ 700 < ks.length by omega), decide_eq_false (show ¬ 5000 < hi.length by omega), decide_eq_false (show ¬ 5000 < da.length by omega), hkids]
    rfl
theorem may_parts {s : Sx} (h : s.may = true) : s.clean = true ∧ s.nodes ≤ 512 ∧ s.deep ≤ 16 ∧ s.form.length ≤ 4096 := by
  simp only [Sx.may, Bool.and_eq_true, decide_eq_true_eq] at h
  exact ⟨h.1.1.1, h.1.1.2, h.1.2, h.2⟩
theorem lists_wide {ks : List Sx} (hl : ks.length ≤ 20) (h : ∀ k ∈ ks, k.may = true) : (Sx.mk true false [] [] ks).wide 0 = false := by
  have hkids : Sx.wideL ks (0 + 1) = false := by
    have key : ∀ k ∈ ks, k.wide (0 + 1) = false := fun k hk => by
      obtain ⟨h1, h2, h3, h4⟩ := may_parts (h k hk)
      exact wide_of k _ h1 (by omega) (by omega) (by omega)
    clear hl h
    induction ks with
    | nil => rfl
    | cons a r ihr => simp only [Sx.wideL, key a List.mem_cons_self, ihr (fun k hk => key k (List.mem_cons_of_mem _ hk))]; rfl
  rw [wide_def, decide_eq_false (show ¬ 60 < 0 by omega), decide_eq_false (show ¬ 700 < ks.length by omega), hkids]
  rfl
theorem lists_nodes {ks : List Sx} (h : ∀ k ∈ ks, k.may = true) : Sx.nodesL ks ≤ 512 * ks.length := by
  induction ks with
  | nil => simp [Sx.nodesL]
  | cons a r ih =>
    have h1 := (may_parts (h a List.mem_cons_self)).2.1
    have h2 := ih (fun k hk => h k (List.mem_cons_of_mem _ hk))
    simp only [Sx.nodesL, List.length_cons]
    omega

end Go.Proofs.YtigopfeamjhdpaaDoor
namespace Go.Proofs.YtigopfeamjhdpaaDoor
open Go.RowKit
set_option linter.unusedSimpArgs false
set_option linter.unusedVariables false

set_option maxHeartbeats 2000000 in
set_option maxRecDepth 100000 in
theorem eqB_any (a : Option Addr) (n c : Nat) (l : List UInt8) (a2 : Option Addr) (n2 c2 : Nat) (l2 : List UInt8) (w : World) (hs : Sl w a n c l) (hs2 : Sl w a2 n2 c2 l2) :
    Calls Tryd.prog 45 #[.slice a n c, .slice a2 n2 c2] w fun e w' => e = .returned (.bool (l == l2)) ∧ Below w.heap.size w w' := by
  have q1 := conv_sl hs
  have q2 := conv_sl hs2
  obtain ⟨r, hr⟩ : ∃ r, r = (l == l2) := ⟨_, rfl⟩
  rw [← hr]
  have HR := hr.symm
  clear hs hs2 hr
  go_enter Tryd.func45, Tryd.ntmps45
  go_wp2_with fail
  go_ret
  exact ⟨rfl, Below.refl _ _⟩

/-- two values of the rows are held against each other -/
def PairP (ks kt : List Sx) (K K2 : Nat → SV) (w : World) : Prop := ∀ i (h : i < ks.length) (h2 : i < kt.length) w', Below w.heap.size w w' → Calls Tryd.prog 28 #[(K i).val, (K2 i).val] w' fun e w'' => e = .returned (.bool (ks[i].same kt[i])) ∧ Below w'.heap.size w' w''

set_option maxHeartbeats 8000000 in
set_option maxRecDepth 100000 in
theorem equal_any (a : Option Addr) (n c : Nat) (K : Nat → SV) (ks : List Sx) (a2 : Option Addr) (m c2 : Nat) (K2 : Nat → SV) (kt : List Sx) (w : World) (hr : RowAt w a n c K) (hr2 : RowAt w a2 m c2 K2) (hn : n = ks.length) (hn2 : m = kt.length) (he : PairP ks kt K K2 w) :
    Calls Tryd.prog 46 #[.slice a n c, .slice a2 m c2, .func (.func 28) #[] #[]] w fun e w' => e = .returned (.bool (Sx.sameL ks kt)) ∧ Below w.heap.size w w' := by
  have HR := Lib.hid hr
  have HR2 := Lib.hid hr2
  have HE := Lib.hid he
  have HN := Lib.hid hn
  have HN2 := Lib.hid hn2
  have hcm := Nat.le_trans hr.1 hr.2.1
  have hcm2 := Nat.le_trans hr2.1 hr2.2.1
  unfold maxLen at hcm hcm2
  clear hr hr2 he hn hn2
  by_cases hlen : n = m
  case neg =>
    have HQ : Hid (Sx.sameL ks kt = false) := Lib.hid (sameL_len (by have := HN.out; have := HN2.out; omega))
    have q4 : ((n : Int) == m) = false := by simp; omega
    have q5 : ((n : Int) != m) = true := by simp; omega
    clear hlen
    go_enter Tryd.func46, Tryd.ntmps46
    go_wp2_with fail
    go_ret
    exact ⟨by rw [HQ.out]; rfl, Below.refl _ _⟩
  subst hlen
  go_enter Tryd.func46, Tryd.ntmps46
  go_wp2_with fail
  go_loopw [17] (fun i wr => ∃ k : Nat, k ≤ n ∧ i = .int .i64 k ∧ Hid (Sx.sameL (ks.take k) (kt.take k) = true) ∧ Below w.heap.size w wr) (fun i _ => n - (intOf i).toNat)
  case atStart => exact ⟨0, Nat.zero_le _, rfl, Lib.hid rfl, Below.refl _ _⟩
  case round =>
    obtain ⟨k, hkn, rfl, HC, hb⟩ := hrel
    by_cases hlt : k < n
    · have g1 : k < ks.length := by have := HN.out; omega
      have g2 : k < kt.length := by have := HN2.out; omega
      obtain ⟨b, o, rfl, _⟩ := HR.out.rangeB hlt
      obtain ⟨b2, o2, rfl, _⟩ := HR2.out.rangeB hlt
      obtain ⟨ck, hck⟩ : ∃ ck, ck = ks[k].same kt[k] := ⟨_, rfl⟩
      have HCK := Lib.hid hck
      have CE := Lib.hid (fun w' hw => HE.out k g1 g2 w' hw)
      rw [← hck] at CE
      have HL1 : Hid (∀ w', Below w.heap.size w w' → w'.rangeAt b (o + k * 5) (K k).cells.toList) := Lib.hid fun w' hw => (HR.out.after hw).rangeA hlt
      have HL2 : Hid (∀ w', Below w.heap.size w w' → w'.rangeAt b2 (o2 + k * 5) (K2 k).cells.toList) := Lib.hid fun w' hw => (HR2.out.after hw).rangeA hlt
      obtain ⟨v1, hv1⟩ : ∃ v1, v1 = K k := ⟨_, rfl⟩
      obtain ⟨v2, hv2⟩ : ∃ v2, v2 = K2 k := ⟨_, rfl⟩
      rw [← hv1] at HL1 CE
      rw [← hv2] at HL2 CE
      clear hck hv1 hv2
      obtain ⟨vl1, vh1, p11, pn11, pc11, p12, pn12, pc12, p13, pn13, pc13⟩ := v1
      obtain ⟨vl2, vh2, p21, pn21, pc21, p22, pn22, pc22, p23, pn23, pc23⟩ := v2
      have hL1 := HL1.out wr hb
      go_upto_region 6 with (refine wpList_load_sv rfl _ rfl b _ rfl _ hL1 ?_; simp only [SV.val])
      have hA : Below wr.heap.size wr (wr.alloc (.cells #[.bool vl1, .bool vh1, .slice p11 pn11 pc11, .slice p12 pn12 pc12, .slice p13 pn13 pc13] 27)) := (Below.refl _ _).alloc (Nat.le_refl _) _
      have X1 := Box.new wr 27 #[.bool vl1, .bool vh1, .slice p11 pn11 pc11, .slice p12 pn12 pc12, .slice p13 pn13 pc13]
      change Code.wp _ _ _ _ (wr.alloc (.cells #[.bool vl1, .bool vh1, .slice p11 pn11 pc11, .slice p12 pn12 pc12, .slice p13 pn13 pc13] 27))
      generalize (wr.alloc (.cells #[.bool vl1, .bool vh1, .slice p11 pn11 pc11, .slice p12 pn12 pc12, .slice p13 pn13 pc13] 27)) = z1 at *
      have hL2 := HL2.out z1 (hb.trans (hA.mono hb.size))
      go_upto_region 7 with (refine wpList_load_sv rfl _ rfl b2 _ rfl _ hL2 ?_; simp only [SV.val])
      have hB : Below z1.heap.size z1 (z1.alloc (.cells #[.bool vl2, .bool vh2, .slice p21 pn21 pc21, .slice p22 pn22 pc22, .slice p23 pn23 pc23] 27)) := (Below.refl _ _).alloc (Nat.le_refl _) _
      have Y2 := Box.new z1 27 #[.bool vl2, .bool vh2, .slice p21 pn21 pc21, .slice p22 pn22 pc22, .slice p23 pn23 pc23]
      have X2 := X1.after hB
      change Code.wp _ _ _ _ (z1.alloc (.cells #[.bool vl2, .bool vh2, .slice p21 pn21 pc21, .slice p22 pn22 pc22, .slice p23 pn23 pc23] 27))
      generalize (z1.alloc (.cells #[.bool vl2, .bool vh2, .slice p21 pn21 pc21, .slice p22 pn22 pc22, .slice p23 pn23 pc23] 27)) = z2 at *
      have hz2 : Below w.heap.size w z2 := (hb.trans (hA.mono hb.size)).trans (hB.mono (Nat.le_trans hb.size hA.size))
      clear hL1 hL2 hA hB X1 HL1 HL2
      have HX2 := Lib.hid X2
      have HY2 := Lib.hid Y2
      clear X2 Y2
      generalize wr.heap.size = y1 at *
      generalize z1.heap.size = y2 at *
      go_wp2_with first | (refine wpList_load_box rfl 27 _ rfl HX2.out (by rfl) Tryd.underlying27 rfl (by kernel_rfl) ?_) | (refine wpList_load_box rfl 27 _ rfl HY2.out (by rfl) Tryd.underlying27 rfl (by kernel_rfl) ?_)
      refine (CE.out z2 hz2).mono ?_
      rintro e w5 ⟨rfl, hb5⟩
      have HB5 := hz2.trans (hb5.mono hz2.size)
      clear hb5 HX2 HY2
      cases ck with
      | false =>
        go_wp2_with fail
        go_ret
        exact ⟨by rw [sameL_no k g1 g2 HCK.out.symm]; rfl, HB5⟩
      | true =>
        go_wp2_with fail
        go_roundw
        case rel => exact ⟨k + 1, by omega, by go_num, Lib.hid (by rw [sameL_snoc k g1 g2, HC.out, ← HCK.out]; rfl), HB5⟩
        case measure => simp [intOf]; omega
    · go_wp2_with fail
      go_ret
      have hnn : k = n := by omega
      subst hnn
      have h5 := HC.out
      rw [List.take_of_length_le (by have := HN.out; omega), List.take_of_length_le (by have := HN2.out; omega)] at h5
      exact ⟨by rw [h5]; rfl, hb⟩

set_option maxHeartbeats 8000000 in
set_option maxRecDepth 100000 in
theorem same_any (s : Sx) : ∀ (t : Sx) (v vb : SV) (w : World), Rd w v s → Rd w vb t → Calls Tryd.prog 28 #[v.val, vb.val] w fun e w' => e = .returned (.bool (s.same t)) ∧ Below w.heap.size w w' := by
  induction s using Sx.ind with
  | h l hh hi da ks ih =>
  intro t v vb w hr hrb
  obtain ⟨lb, hhb, hib, dab, ksb⟩ := t
  have IH := Lib.hid ih
  clear ih
  have HRR := Lib.hid hr
  obtain ⟨hvl, hvh, hs1, hs2, hn, hnc, hcm, K, hrow, hk⟩ := hr.parts
  obtain ⟨vl, vh, a1, n1, k1, a2, n2, k2, a3, n3, k3⟩ := v
  dsimp only at hn hnc hcm hrow hk hvl hvh hs1 hs2
  obtain rfl : vl = l := hvl
  obtain rfl : vh = hh := hvh
  replace hn : n3 = ks.length := hn
  replace hs1 : Sl w a1 n1 k1 hi := hs1
  replace hs2 : Sl w a2 n2 k2 da := hs2
  replace hk : ∀ i (hi : i < ks.length), RdI (fun _ => True) w (K i) ks[i] := hk
  have HK := Lib.hid hk
  have HR := Lib.hid hrow
  have HS1 := Lib.hid hs1
  have HS2 := Lib.hid hs2
  have HN3 := Lib.hid hn
  clear hk hrow hr hs1 hs2 hn
  unfold maxLen at hcm
  have HRRb := Lib.hid hrb
  obtain ⟨hvl, hvh, hs1, hs2, hn, hncb, hcmb, Kb, hrow, hk⟩ := hrb.parts
  obtain ⟨vlb, vhb, a1b, n1b, k1b, a2b, n2b, k2b, a3b, n3b, k3b⟩ := vb
  dsimp only at hn hncb hcmb hrow hk hvl hvh hs1 hs2
  obtain rfl : vlb = lb := hvl
  obtain rfl : vhb = hhb := hvh
  replace hn : n3b = ksb.length := hn
  replace hs1 : Sl w a1b n1b k1b hib := hs1
  replace hs2 : Sl w a2b n2b k2b dab := hs2
  replace hk : ∀ i (hi : i < ksb.length), RdI (fun _ => True) w (Kb i) ksb[i] := hk
  have HKb := Lib.hid hk
  have HRb := Lib.hid hrow
  have HS1b := Lib.hid hs1
  have HS2b := Lib.hid hs2
  have HN3b := Lib.hid hn
  clear hk hrow hrb hs1 hs2 hn
  unfold maxLen at hcmb
  by_cases e0 : vl = vlb
  case neg =>
    have q0 : (vl == vlb) = false := by simpa using e0
    have HQ := Lib.hid q0
    clear e0
    have hb0 : Below w.heap.size w ((w.alloc (.cells #[.bool vl, .bool vh, .slice a1 n1 k1, .slice a2 n2 k2, .slice a3 n3 k3] 27)).alloc (.cells #[.bool vlb, .bool vhb, .slice a1b n1b k1b, .slice a2b n2b k2b, .slice a3b n3b k3b] 27)) := ((Below.refl _ _).alloc (Nat.le_refl _) _).alloc (by simp) _
    have A0 : Box ((w.alloc (.cells #[.bool vl, .bool vh, .slice a1 n1 k1, .slice a2 n2 k2, .slice a3 n3 k3] 27)).alloc (.cells #[.bool vlb, .bool vhb, .slice a1b n1b k1b, .slice a2b n2b k2b, .slice a3b n3b k3b] 27)) w.heap.size 27 #[.bool vl, .bool vh, .slice a1 n1 k1, .slice a2 n2 k2, .slice a3 n3 k3] := (Box.new _ _ _).alloc _
    have B0 : Box ((w.alloc (.cells #[.bool vl, .bool vh, .slice a1 n1 k1, .slice a2 n2 k2, .slice a3 n3 k3] 27)).alloc (.cells #[.bool vlb, .bool vhb, .slice a1b n1b k1b, .slice a2b n2b k2b, .slice a3b n3b k3b] 27)) (w.heap.size + 1) 27 #[.bool vlb, .bool vhb, .slice a1b n1b k1b, .slice a2b n2b k2b, .slice a3b n3b k3b] := by
      have := Box.new (w.alloc (.cells #[.bool vl, .bool vh, .slice a1 n1 k1, .slice a2 n2 k2, .slice a3 n3 k3] 27)) 27 #[.bool vlb, .bool vhb, .slice a1b n1b k1b, .slice a2b n2b k2b, .slice a3b n3b k3b]
      simpa using this
    have x0 := A0.cell 0 rfl
    have x1 := A0.cell 1 rfl
    have x2 := A0.cell 2 rfl
    have x3 := A0.cell 3 rfl
    have x4 := A0.cell 4 rfl
    have y0 := B0.cell 0 rfl
    have y1 := B0.cell 1 rfl
    have y2 := B0.cell 2 rfl
    have y3 := B0.cell 3 rfl
    have y4 := B0.cell 4 rfl
    show Calls _ _ #[.agg #[.bool vl, .bool vh, .slice a1 n1 k1, .slice a2 n2 k2, .slice a3 n3 k3], .agg #[.bool vlb, .bool vhb, .slice a1b n1b k1b, .slice a2b n2b k2b, .slice a3b n3b k3b]] _ _
    go_enter Tryd.func28, Tryd.ntmps28
    go_wp2_with fail
    go_ret
    exact ⟨by rw [same_def, HQ.out]; simp, hb0⟩
  subst e0
  by_cases e1 : vh = vhb
  case neg =>
    have q1 : (vh == vhb) = false := by simpa using e1
    have q0 : (vl == vl) = true := by simp
    have HQ := Lib.hid q1
    clear e1
    have hb0 : Below w.heap.size w ((w.alloc (.cells #[.bool vl, .bool vh, .slice a1 n1 k1, .slice a2 n2 k2, .slice a3 n3 k3] 27)).alloc (.cells #[.bool vl, .bool vhb, .slice a1b n1b k1b, .slice a2b n2b k2b, .slice a3b n3b k3b] 27)) := ((Below.refl _ _).alloc (Nat.le_refl _) _).alloc (by simp) _
    have A0 : Box ((w.alloc (.cells #[.bool vl, .bool vh, .slice a1 n1 k1, .slice a2 n2 k2, .slice a3 n3 k3] 27)).alloc (.cells #[.bool vl, .bool vhb, .slice a1b n1b k1b, .slice a2b n2b k2b, .slice a3b n3b k3b] 27)) w.heap.size 27 #[.bool vl, .bool vh, .slice a1 n1 k1, .slice a2 n2 k2, .slice a3 n3 k3] := (Box.new _ _ _).alloc _
    have B0 : Box ((w.alloc (.cells #[.bool vl, .bool vh, .slice a1 n1 k1, .slice a2 n2 k2, .slice a3 n3 k3] 27)).alloc (.cells #[.bool vl, .bool vhb, .slice a1b n1b k1b, .slice a2b n2b k2b, .slice a3b n3b k3b] 27)) (w.heap.size + 1) 27 #[.bool vl, .bool vhb, .slice a1b n1b k1b, .slice a2b n2b k2b, .slice a3b n3b k3b] := by
      have := Box.new (w.alloc (.cells #[.bool vl, .bool vh, .slice a1 n1 k1, .slice a2 n2 k2, .slice a3 n3 k3] 27)) 27 #[.bool vl, .bool vhb, .slice a1b n1b k1b, .slice a2b n2b k2b, .slice a3b n3b k3b]
      simpa using this
    have x0 := A0.cell 0 rfl
    have x1 := A0.cell 1 rfl
    have x2 := A0.cell 2 rfl
    have x3 := A0.cell 3 rfl
    have x4 := A0.cell 4 rfl
    have y0 := B0.cell 0 rfl
    have y1 := B0.cell 1 rfl
    have y2 := B0.cell 2 rfl
    have y3 := B0.cell 3 rfl
    have y4 := B0.cell 4 rfl
    show Calls _ _ #[.agg #[.bool vl, .bool vh, .slice a1 n1 k1, .slice a2 n2 k2, .slice a3 n3 k3], .agg #[.bool vl, .bool vhb, .slice a1b n1b k1b, .slice a2b n2b k2b, .slice a3b n3b k3b]] _ _
    go_enter Tryd.func28, Tryd.ntmps28
    go_wp2_with fail
    go_ret
    exact ⟨by rw [same_def, HQ.out]; simp, hb0⟩
  subst e1
  obtain ⟨r2, hr2⟩ : ∃ r, r = (hi == hib) := ⟨_, rfl⟩
  obtain ⟨r3, hr3⟩ : ∃ r, r = (da == dab) := ⟨_, rfl⟩
  obtain ⟨r4, hr4⟩ : ∃ r, r = Sx.sameL ks ksb := ⟨_, rfl⟩
  have HSD : Hid ((Sx.mk vl vh hi da ks).same (.mk vl vh hib dab ksb) = (r2 && r3 && r4)) := Lib.hid (by rw [same_def, hr2, hr3, hr4]; simp)
  have CE1 := Lib.hid (fun w' (h : Below w.heap.size w w') => eqB_any a1 n1 k1 hi a1b n1b k1b hib w' (HS1.out.after h) (HS1b.out.after h))
  have CE2 := Lib.hid (fun w' (h : Below w.heap.size w w') => eqB_any a2 n2 k2 da a2b n2b k2b dab w' (HS2.out.after h) (HS2b.out.after h))
  have CE3 := Lib.hid (fun w' (h : Below w.heap.size w w') => equal_any a3 n3 k3 K ks a3b n3b k3b Kb ksb w' (HR.out.after h) (HRb.out.after h) HN3.out HN3b.out (fun i h1 h2 w2 hw => IH.out _ (List.getElem_mem h1) _ _ _ _ (((HK.out i h1).after h).after hw) (((HKb.out i h2).after h).after hw)))
  rw [← hr2] at CE1
  rw [← hr3] at CE2
  rw [← hr4] at CE3
  clear hr2 hr3 hr4
  have q0 : (vl == vl) = true := by simp
  have q1 : (vh == vh) = true := by simp
  have hb0 : Below w.heap.size w ((w.alloc (.cells #[.bool vl, .bool vh, .slice a1 n1 k1, .slice a2 n2 k2, .slice a3 n3 k3] 27)).alloc (.cells #[.bool vl, .bool vh, .slice a1b n1b k1b, .slice a2b n2b k2b, .slice a3b n3b k3b] 27)) := ((Below.refl _ _).alloc (Nat.le_refl _) _).alloc (by simp) _
  have A0 : Box ((w.alloc (.cells #[.bool vl, .bool vh, .slice a1 n1 k1, .slice a2 n2 k2, .slice a3 n3 k3] 27)).alloc (.cells #[.bool vl, .bool vh, .slice a1b n1b k1b, .slice a2b n2b k2b, .slice a3b n3b k3b] 27)) w.heap.size 27 #[.bool vl, .bool vh, .slice a1 n1 k1, .slice a2 n2 k2, .slice a3 n3 k3] := (Box.new _ _ _).alloc _
  have B0 : Box ((w.alloc (.cells #[.bool vl, .bool vh, .slice a1 n1 k1, .slice a2 n2 k2, .slice a3 n3 k3] 27)).alloc (.cells #[.bool vl, .bool vh, .slice a1b n1b k1b, .slice a2b n2b k2b, .slice a3b n3b k3b] 27)) (w.heap.size + 1) 27 #[.bool vl, .bool vh, .slice a1b n1b k1b, .slice a2b n2b k2b, .slice a3b n3b k3b] := by
    have := Box.new (w.alloc (.cells #[.bool vl, .bool vh, .slice a1 n1 k1, .slice a2 n2 k2, .slice a3 n3 k3] 27)) 27 #[.bool vl, .bool vh, .slice a1b n1b k1b, .slice a2b n2b k2b, .slice a3b n3b k3b]
    simpa using this
  have x0 := A0.cell 0 rfl
  have x1 := A0.cell 1 rfl
  have x2 := A0.cell 2 rfl
  have x3 := A0.cell 3 rfl
  have x4 := A0.cell 4 rfl
  have y0 := B0.cell 0 rfl
  have y1 := B0.cell 1 rfl
  have y2 := B0.cell 2 rfl
  have y3 := B0.cell 3 rfl
  have y4 := B0.cell 4 rfl
  show Calls _ _ #[.agg #[.bool vl, .bool vh, .slice a1 n1 k1, .slice a2 n2 k2, .slice a3 n3 k3], .agg #[.bool vl, .bool vh, .slice a1b n1b k1b, .slice a2b n2b k2b, .slice a3b n3b k3b]] _ _
  go_enter Tryd.func28, Tryd.ntmps28
  go_upto_region 1 with fail
  change Code.wp _ _ _ _ ((w.alloc (.cells #[.bool vl, .bool vh, .slice a1 n1 k1, .slice a2 n2 k2, .slice a3 n3 k3] 27)).alloc (.cells #[.bool vl, .bool vh, .slice a1b n1b k1b, .slice a2b n2b k2b, .slice a3b n3b k3b] 27))
  generalize ((w.alloc (.cells #[.bool vl, .bool vh, .slice a1 n1 k1, .slice a2 n2 k2, .slice a3 n3 k3] 27)).alloc (.cells #[.bool vl, .bool vh, .slice a1b n1b k1b, .slice a2b n2b k2b, .slice a3b n3b k3b] 27)) = z0 at *
  go_wp2_with fail
  refine (CE1.out _ hb0).mono ?_
  rintro e w1 ⟨rfl, hb1⟩
  have HB1 := hb0.trans (hb1.mono hb0.size)
  have A1 := A0.after hb1
  have B1 := B0.after hb1
  clear hb1 x0 x1 x2 x3 x4 y0 y1 y2 y3 y4 A0 B0
  have x0 := A1.cell 0 rfl
  have x1 := A1.cell 1 rfl
  have x2 := A1.cell 2 rfl
  have x3 := A1.cell 3 rfl
  have x4 := A1.cell 4 rfl
  have y0 := B1.cell 0 rfl
  have y1 := B1.cell 1 rfl
  have y2 := B1.cell 2 rfl
  have y3 := B1.cell 3 rfl
  have y4 := B1.cell 4 rfl
  cases r2 with
  | false =>
    go_wp2_with fail
    go_ret
    exact ⟨by rw [HSD.out]; simp, HB1⟩
  | true =>
    go_wp2_with fail
    refine (CE2.out _ HB1).mono ?_
    rintro e w2 ⟨rfl, hb2⟩
    have HB2 := HB1.trans (hb2.mono HB1.size)
    have A2 := A1.after hb2
    have B2 := B1.after hb2
    clear hb2 x0 x1 x2 x3 x4 y0 y1 y2 y3 y4 A1 B1
    have x0 := A2.cell 0 rfl
    have x1 := A2.cell 1 rfl
    have x2 := A2.cell 2 rfl
    have x3 := A2.cell 3 rfl
    have x4 := A2.cell 4 rfl
    have y0 := B2.cell 0 rfl
    have y1 := B2.cell 1 rfl
    have y2 := B2.cell 2 rfl
    have y3 := B2.cell 3 rfl
    have y4 := B2.cell 4 rfl
    cases r3 with
    | false =>
      go_wp2_with fail
      go_ret
      exact ⟨by rw [HSD.out]; simp, HB2⟩
    | true =>
      go_wp2_with fail
      refine (CE3.out _ HB2).mono ?_
      rintro e w3 ⟨rfl, hb3⟩
      have HB3 := HB2.trans (hb3.mono HB2.size)
      go_wp2_with fail
      go_ret
      exact ⟨by rw [HSD.out]; simp, HB3⟩

end Go.Proofs.YtigopfeamjhdpaaDoor
namespace Go.Proofs.YtigopfeamjhdpaaDoor
open Go.RowKit Go.ChangeShapes Go.WideShapes Go.ChangeAt

theorem cells_sx : Tryd.prog.cellsOf 4 = 1 ∧ Tryd.prog.cellsOf 24 = 1 ∧ Tryd.prog.cellsOf 25 = 1 ∧ Tryd.prog.cellsOf 27 = 5 ∧ Tryd.prog.cellsOf 5 = 1 := ⟨by kernel_rfl, by kernel_rfl, by kernel_rfl, by kernel_rfl, by kernel_rfl⟩

theorem bulk_nodes {H : Type} : ∀ (l : List (DataW H × List MemPlace)) (g : Nat → Sx), (∀ i (h : i < l.length), (g i).nodes ≤ Rows.uptoBulk l[i].1) → Sx.nodesL ((List.range l.length).map g) ≤ Rows.uptoBulkAll (l.map (·.1))
  | [], _, _ => by simp [Sx.nodesL]
  | x :: r, g, h => by
    rw [List.length_cons, List.range_succ_eq_map, List.map_cons, List.map_map]
    simp only [Sx.nodesL, List.map_cons, Rows.uptoBulkAll]
    have h0 := h 0 (by simp)
    have := bulk_nodes r (g ∘ Nat.succ) (fun i hi => by have := h (i + 1) (by simpa using hi); simpa using this)
    simp only [List.getElem_cons_zero] at h0
    omega

section
variable {H : Type} {enc : TypeId × Value → H} {W : World} {held : Bool}

theorem open_slU {fuel : Nat} {c : Value} {x : DataW H × List MemPlace} (h : DataW.trod enc Tryd.prog W 0 (fun _ => true) held fuel 24 [c] = some x) :
    ∃ (a : Option Addr) (n k : Nat) (l : List UInt8), c = .slice a n k ∧ Sl W a n k l := by
  rcases open_ints Tryd.underlying24 Tryd.underlying5 cells_sx.2.2.2.2 h with ⟨hcs, _⟩ | ⟨x, l, k, zs, hcs, _, hl, hm, hz, _, hcell, hwz⟩
  · simp at hcs
    exact ⟨none, 0, 0, [], hcs, Sl.nil W⟩
  · simp at hcs
    have hr : IsRow .u8 W (some x) l k zs := .inr ⟨_, rfl, hl, hm, by simpa using hz, hcell, hwz⟩
    obtain ⟨L, hL⟩ := hr.sl
    exact ⟨_, l, k, L, hcs, hL⟩

set_option maxRecDepth 100000 in
theorem open_sxf : ∀ (fuel : Nat) (cs : List Value) (x : DataW H × List MemPlace), DataW.trod enc Tryd.prog W 0 (fun _ => true) held fuel 27 cs = some x →
    ∃ (v : SV) (s : Sx), cs = v.cells.toList ∧ Rd W v s ∧ s.nodes ≤ Rows.uptoBulk x.1 := by
  intro fuel
  induction fuel using Nat.strongRecOn with
  | _ fuel ih =>
    intro cs x h
    obtain ⟨k1, k2, k3, k4, k5⟩ := cells_sx
    obtain ⟨xs, n, hf, rfl, hl, hxl, hg⟩ := DataW.trod_struct Tryd.underlying27 h
    rw [k4] at hl
    match cs, hl with
    | [c0, c1, c2, c3, c4], _ =>
      match xs, hxl with
      | [y0, y1, y2, y3, y4], _ =>
        have h0 : DataW.trod enc Tryd.prog W 0 (fun _ => true) held n 4 (([c0, c1, c2, c3, c4].drop 0).take (Tryd.prog.cellsOf 4)) = some y0 := hg 0 _ rfl
        have h1 : DataW.trod enc Tryd.prog W 0 (fun _ => true) held n 4 (([c0, c1, c2, c3, c4].drop 1).take (Tryd.prog.cellsOf 4)) = some y1 := hg 1 _ rfl
        have h2 : DataW.trod enc Tryd.prog W 0 (fun _ => true) held n 24 (([c0, c1, c2, c3, c4].drop 2).take (Tryd.prog.cellsOf 24)) = some y2 := hg 2 _ rfl
        have h3 : DataW.trod enc Tryd.prog W 0 (fun _ => true) held n 24 (([c0, c1, c2, c3, c4].drop 3).take (Tryd.prog.cellsOf 24)) = some y3 := hg 3 _ rfl
        have h4 : DataW.trod enc Tryd.prog W 0 (fun _ => true) held n 25 (([c0, c1, c2, c3, c4].drop 4).take (Tryd.prog.cellsOf 25)) = some y4 := hg 4 _ rfl
        rw [k1] at h0 h1
        rw [k2] at h2 h3
        rw [k3] at h4
        obtain ⟨bl, e0, _⟩ := DataW.trod_bool Tryd.underlying4 h0
        obtain ⟨bh, e1, _⟩ := DataW.trod_bool Tryd.underlying4 h1
        obtain ⟨a2, n2, q2, l2, rfl, s2⟩ := open_slU h2
        obtain ⟨a3, n3, q3, l3, rfl, s3⟩ := open_slU h3
        have e0' : c0 = .bool bl := by simpa using e0
        have e1' : c1 = .bool bh := by simpa using e1
        subst e0' e1'
        rcases DataW.trod_slice Tryd.underlying25 h4 with ⟨e4, rfl⟩ | ⟨a, len, cap, elems, rest, m, hm, e4, rfl, _, hlc, hcm, hel, hat, _, _⟩
        · have e4' : c4 = .slice none 0 0 := by simpa using e4
          subst e4'
          refine ⟨⟨bl, bh, a2, n2, q2, a3, n3, q3, none, 0, 0⟩, .mk bl bh l2 l3 [], rfl, .mk _ l2 l3 [] (fun _ => SV.nil) s2 (.inr fun _ _ _ _ => trivial) s3 (.inr fun _ _ _ _ => trivial) ⟨Nat.le_refl _, Nat.zero_le _, fun _ => rfl, .inl rfl⟩ (.inl rfl) rfl (fun i hi => by cases hi), ?_⟩
          simp only [Sx.nodes, Sx.nodesL, Rows.uptoBulk]
          omega
        · have e4' : c4 = .slice (some a) len cap := by simpa using e4
          subst e4'
          have key : ∀ i, i < len → ∃ p : SV × Sx, (∃ he : i < elems.length, p.2.nodes ≤ Rows.uptoBulk elems[i].1) ∧ W.cells? 0 (a.add (i * 5)) 5 = some p.1.cells.toList ∧ Rd W p.1 p.2 := fun i hi => by
            have hi' : i < elems.length := by omega
            have h5 := hat i hi
            rw [k4, List.getElem?_eq_getElem hi'] at h5
            obtain ⟨cs', hc1, hc2⟩ := Option.bind_eq_some_iff.1 h5
            obtain ⟨v, s, rfl, hrd, hnd⟩ := ih m (by omega) cs' _ hc2
            exact ⟨(v, s), ⟨hi', hnd⟩, hc1, hrd⟩
          haveI : Inhabited (SV × Sx) := ⟨(SV.nil, default)⟩
          obtain ⟨f, hf'⟩ := Go.Deep.choose_lt key
          obtain ⟨b, o, spot⟩ := a
          have hcell : ∀ i, i < len → ∀ j u, (f i).1.cells[j]? = some u → W.cell? (((⟨b, o, spot⟩ : Addr).add (i * 5)).add j) = some u := fun i hi j u hu => by
            have h6 := (hf' i hi).2.1
            unfold World.cells? at h6
            rw [if_pos (Nat.zero_le _)] at h6
            have hj : j < 5 := by have := (Array.getElem?_eq_some_iff.1 hu).1; rwa [SV.cells_size] at this
            have h7 := mapM_some_get h6 j j (by simp [hj])
            rw [h7]
            simpa using hu
          have hsp : len = 0 ∨ spot = none := by
            by_cases h0' : len = 0
            · exact .inl h0'
            · right
              have := World.cell?_spot (hcell 0 (by omega) 0 _ rfl)
              simpa [Addr.add] using this
          refine ⟨⟨bl, bh, a2, n2, q2, a3, n3, q3, some ⟨b, o, spot⟩, len, cap⟩, .mk bl bh l2 l3 ((List.range len).map fun i => (f i).2), rfl,
            .mk _ l2 l3 _ (fun i => (f i).1) s2 (.inr fun _ _ _ _ => trivial) s3 (.inr fun _ _ _ _ => trivial) ⟨hlc, hcm, (fun h => by cases h), ?_⟩ (.inr fun _ _ _ _ => trivial) (by simp) (fun i hi => ?_), ?_⟩
          · rcases hsp with h0' | rfl
            · exact .inl h0'
            · refine .inr ⟨b, o, rfl, fun i hi j u hu => ?_⟩
              have := hcell i hi j u hu
              rwa [Addr.add_mid, Addr.add_mid] at this
          · have hi' : i < len := by simpa using hi
            have := (hf' i hi').2.2
            simpa using this
          · have := bulk_nodes elems (fun i => (f i).2) (fun i hi => (hf' i (by omega)).1.2)
            rw [hel] at this
            simp only [Sx.nodes, Rows.uptoBulk, Rows.uptoBulkAll, List.map_cons, List.map_nil]
            omega

set_option maxRecDepth 100000 in
theorem open_sx {r : Reach} {b0 : Nat} {v : Value} {d : DataW H} {p : List MemPlace} (hv : Value.okWide Tryd.prog W r b0 27 v) (h : DataW.Trod enc Tryd.prog W 0 (fun _ => true) held 27 v d p) :
    ∃ (u : SV) (s : Sx), v = u.val ∧ Rd W u s ∧ s.nodes ≤ Rows.uptoBulk d := by
  obtain ⟨cs, rfl, hsz⟩ := okWide_struct Tryd.underlying27 hv
  obtain ⟨fuel, hf⟩ := h
  obtain ⟨u, s, e, hr, hn⟩ := open_sxf fuel _ _ hf
  refine ⟨u, s, ?_, hr, hn⟩
  have : cs = u.cells := by
    apply Array.ext'
    simpa [Value.cells] using e
  rw [this]
  rfl

set_option maxRecDepth 100000 in
theorem open_sxs {a : Option Addr} {n c : Nat} {d : DataW H} {p : List MemPlace} (h : DataW.Trod enc Tryd.prog W 0 (fun _ => true) held 25 (.slice a n c) d p) :
    ∃ (K : Nat → SV) (ks : List Sx), RowAt W a n c K ∧ n = ks.length ∧ (∀ i (hi : i < ks.length), Rd W (K i) ks[i]) ∧ Sx.nodesL ks ≤ Rows.uptoBulk d := by
  obtain ⟨fuel, h4⟩ := h
  obtain ⟨k1, k2, k3, k4, k5⟩ := cells_sx
  rcases DataW.trod_slice Tryd.underlying25 h4 with ⟨e4, e5⟩ | ⟨ad, len, cap, elems, rest, m, hm, e4, e5, _, hlc, hcm, hel, hat, _, _⟩
  · have e4' : (Value.slice a n c) = .slice none 0 0 := by simpa [Value.cells] using e4
    cases e4'
    exact ⟨fun _ => SV.nil, [], ⟨Nat.le_refl _, Nat.zero_le _, fun _ => rfl, .inl rfl⟩, rfl, (fun i hi => by cases hi), by simp [Sx.nodesL]⟩
  · have e4' : (Value.slice a n c) = .slice (some ad) len cap := by simpa [Value.cells] using e4
    cases e4'
    have e6 : d = .slice (elems.map (·.1)) (rest.map (·.1)) := congrArg Prod.fst e5
    subst e6
    have key : ∀ i, i < n → ∃ p : SV × Sx, (∃ he : i < elems.length, p.2.nodes ≤ Rows.uptoBulk elems[i].1) ∧ W.cells? 0 (ad.add (i * 5)) 5 = some p.1.cells.toList ∧ Rd W p.1 p.2 := fun i hi => by
      have hi' : i < elems.length := by omega
      have h5 := hat i hi
      rw [k4, List.getElem?_eq_getElem hi'] at h5
      obtain ⟨cs', hc1, hc2⟩ := Option.bind_eq_some_iff.1 h5
      obtain ⟨v, s, rfl, hrd, hnd⟩ := open_sxf m cs' _ hc2
      exact ⟨(v, s), ⟨hi', hnd⟩, hc1, hrd⟩
    haveI : Inhabited (SV × Sx) := ⟨(SV.nil, default)⟩
    obtain ⟨f, hf'⟩ := Go.Deep.choose_lt key
    obtain ⟨b, o, spot⟩ := ad
    have hcell : ∀ i, i < n → ∀ j u, (f i).1.cells[j]? = some u → W.cell? (((⟨b, o, spot⟩ : Addr).add (i * 5)).add j) = some u := fun i hi j u hu => by
      have h6 := (hf' i hi).2.1
      unfold World.cells? at h6
      rw [if_pos (Nat.zero_le _)] at h6
      have hj : j < 5 := by have := (Array.getElem?_eq_some_iff.1 hu).1; rwa [SV.cells_size] at this
      have h7 := mapM_some_get h6 j j (by simp [hj])
      rw [h7]
      simpa using hu
    have hsp : n = 0 ∨ spot = none := by
      by_cases h0' : n = 0
      · exact .inl h0'
      · right
        have := World.cell?_spot (hcell 0 (by omega) 0 _ rfl)
        simpa [Addr.add] using this
    refine ⟨fun i => (f i).1, (List.range n).map fun i => (f i).2, ⟨hlc, hcm, (fun h => by cases h), ?_⟩, by simp, (fun i hi => ?_), ?_⟩
    · rcases hsp with h0' | rfl
      · exact .inl h0'
      · refine .inr ⟨b, o, rfl, fun i hi j u hu => ?_⟩
        have := hcell i hi j u hu
        rwa [Addr.add_mid, Addr.add_mid] at this
    · have hi' : i < n := by simpa using hi
      have := (hf' i hi').2.2
      simpa using this
    · have := bulk_nodes elems (fun i => (f i).2) (fun i hi => (hf' i (by omega)).1.2)
      rw [hel] at this
      simp only [Rows.uptoBulk]
      omega
end
end Go.Proofs.YtigopfeamjhdpaaDoor
namespace Go.Proofs.YtigopfeamjhdpaaDoor
open Go.RowKit

/-- bytes with their length, at a place: the bytes, the place behind, the error -/
def rBytes (l : List UInt8) (p : Nat) : List UInt8 × Nat × Nat :=
  let r := lenR l p 4096
  if r.2.2 = 2 then ([], l.length, 2) else if r.2.2 ≠ 0 then ([], p, r.2.2.toNat) else
  if l.length ≤ r.2.1.toNat then ([], l.length, 2) else if l.getD r.2.1.toNat 0 ≠ 58 then ([], r.2.1.toNat, 3) else
  if l.length - r.2.1.toNat - 1 < r.1.toNat then ([], l.length, 2) else ((l.drop (r.2.1.toNat + 1)).take r.1.toNat, r.2.1.toNat + 1 + r.1.toNat, 0)

/-- what was read -/
structure RV where
  v : Sx
  p : Nat
  n : Nat
  e : Nat
def RV.err (p e : Nat) : RV := ⟨Sx.nil, p, 0, e⟩

/-- an atom, at a place -/
def rAtom (l : List UInt8) (p n : Nat) : RV :=
  if l.getD p 0 = 91 then
    let h := rBytes l (p + 1)
    if h.2.2 ≠ 0 then RV.err h.2.1 h.2.2 else if l.length ≤ h.2.1 then RV.err l.length 2 else if l.getD h.2.1 0 ≠ 93 then RV.err h.2.1 3 else
    let d := rBytes l (h.2.1 + 1)
    if d.2.2 ≠ 0 then RV.err d.2.1 d.2.2 else ⟨.mk false true h.1 d.1 [], d.2.1, n, 0⟩
  else
    let d := rBytes l p
    if d.2.2 ≠ 0 then RV.err d.2.1 d.2.2 else ⟨.mk false false [] d.1 [], d.2.1, n, 0⟩

/-- may a value begin so? -/
def starts (c : UInt8) : Prop := c = 40 ∨ c = 91 ∨ isD c
instance (c : UInt8) : Decidable (starts c) := by unfold starts; infer_instance

/-- reading: of a value (none), of what is left of a list whose values so far are there (some) -/
inductive St (l : List UInt8) : Option (List Sx) → Nat → Nat → Nat → RV → Prop
  | short {p lv n : Nat} : l.length ≤ p → St l none p lv n (RV.err l.length 2)
  | bad {p lv n : Nat} : p < l.length → ¬ starts (l.getD p 0) → St l none p lv n (RV.err p 3)
  | long {p lv n : Nat} : p < l.length → starts (l.getD p 0) → (512 < n + 1 ∨ l.getD p 0 = 40 ∧ 16 < lv) → St l none p lv n (RV.err p 4)
  | atom {p lv n : Nat} : p < l.length → starts (l.getD p 0) → l.getD p 0 ≠ 40 → n + 1 ≤ 512 → St l none p lv n (rAtom l p (n + 1))
  | list {p lv n : Nat} {r : RV} : p < l.length → l.getD p 0 = 40 → n + 1 ≤ 512 → lv ≤ 16 → St l (some []) (p + 1) lv (n + 1) r → St l none p lv n r
  | close {p lv n : Nat} {acc : List Sx} : p < l.length → l.getD p 0 = 41 → St l (some acc) p lv n ⟨.mk true false [] [] acc, p + 1, n, 0⟩
  | fail {p lv n : Nat} {acc : List Sx} {r : RV} : ¬ (p < l.length ∧ l.getD p 0 = 41) → St l none p (lv + 1) n r → r.e ≠ 0 → St l (some acc) p lv n r
  | more {p lv n : Nat} {acc : List Sx} {r r' : RV} : ¬ (p < l.length ∧ l.getD p 0 = 41) → St l none p (lv + 1) n r → r.e = 0 → St l (some (acc ++ [r.v])) r.p lv r.n r' → St l (some acc) p lv n r'

theorem starts40 : starts 40 := .inl rfl
theorem St.det {l : List UInt8} {m : Option (List Sx)} {p lv n : Nat} {r r' : RV} (h : St l m p lv n r) (h' : St l m p lv n r') : r = r' := by
  induction h generalizing r' with
  | short h1 =>
    cases h' with
    | short => rfl
    | bad h2 | long h2 | atom h2 | list h2 => omega
  | bad h1 h2 =>
    cases h' with
    | short h3 => omega
    | bad => rfl
    | long _ h3 | atom _ h3 => exact absurd h3 h2
    | list _ h3 => exact absurd (h3 ▸ starts40) h2
  | long h1 h2 h3 =>
    cases h' with
    | short h4 => omega
    | bad _ h4 => exact absurd h2 h4
    | long => rfl
    | atom _ _ h4 h5 => rcases h3 with h3 | h3; · omega
                        · exact absurd h3.1 h4
    | list _ h4 h5 h6 => rcases h3 with h3 | h3; · omega
                         · omega
  | atom h1 h2 h3 h4 =>
    cases h' with
    | short h5 => omega
    | bad _ h5 => exact absurd h2 h5
    | long _ _ h5 => rcases h5 with h5 | h5; · omega
                     · exact absurd h5.1 h3
    | atom => rfl
    | list _ h5 => exact absurd h5 h3
  | list h1 h2 h3 h4 _ ih =>
    cases h' with
    | short h5 => omega
    | bad _ h5 => exact absurd (h2 ▸ starts40) h5
    | long _ _ h5 => rcases h5 with h5 | h5; · omega
                     · omega
    | atom _ _ h5 => exact absurd h2 h5
    | list _ _ _ _ h5 => exact ih h5
  | close h1 h2 =>
    cases h' with
    | close => rfl
    | fail h3 | more h3 => exact absurd ⟨h1, h2⟩ h3
  | fail h1 _ h3 ih =>
    cases h' with
    | close h4 h5 => exact absurd ⟨h4, h5⟩ h1
    | fail _ h4 => exact ih h4
    | more _ h4 h5 => rw [ih h4] at h3; exact absurd h5 h3
  | more h1 _ h3 _ ih1 ih2 =>
    cases h' with
    | close h4 h5 => exact absurd ⟨h4, h5⟩ h1
    | fail _ h4 h5 => rw [ih1 h4] at h3; exact absurd h3 h5
    | more _ h4 h5 h6 =>
      obtain rfl := ih1 h4
      exact ih2 h6
end Go.Proofs.YtigopfeamjhdpaaDoor
namespace Go.Proofs.YtigopfeamjhdpaaDoor
open Go.RowKit

theorem lenScan_some {M n k : Nat} : ∀ (w : List UInt8) (a : Nat), lenScan M a w = some (n, k) → k ≤ w.length ∧ (∀ c ∈ w.take k, isD c) ∧ n = valA a (w.take k) ∧ (a ≤ M → n ≤ M)
  | [], a, h => by
    simp only [lenScan, Option.some.injEq, Prod.mk.injEq] at h
    obtain ⟨rfl, rfl⟩ := h
    exact ⟨Nat.le_refl _, (fun c hc => by cases hc), rfl, fun h => h⟩
  | c :: w, a, h => by
    unfold lenScan at h
    split at h
    · rename_i hd
      split at h
      · cases h
      · rename_i hM
        cases hr : lenScan M (10 * a + (c.toNat - 48)) w with
        | none => rw [hr] at h; cases h
        | some q =>
          obtain ⟨n', k'⟩ := q
          rw [hr] at h
          simp only [Option.map_some, Option.some.injEq, Prod.mk.injEq] at h
          obtain ⟨rfl, rfl⟩ := h
          obtain ⟨h1, h2, h3, h4⟩ := lenScan_some w _ hr
          refine ⟨by simp only [List.length_cons]; omega, fun d hd' => ?_, by rw [List.take_succ_cons, valA_cons]; exact h3, fun _ => h4 (by omega)⟩
          rw [List.take_succ_cons] at hd'
          rcases List.mem_cons.1 hd' with rfl | hd'
          · exact hd
          · exact h2 d hd'
    · simp only [Option.some.injEq, Prod.mk.injEq] at h
      obtain ⟨rfl, rfl⟩ := h
      exact ⟨Nat.zero_le _, (fun c hc => by simp at hc), by simp [valA_nil], fun h => h⟩

theorem digit_back (c : UInt8) (h : isD c) : UInt8.ofNat (48 + (c.toNat - 48)) = c := by
  unfold isD at h
  rw [show 48 + (c.toNat - 48) = c.toNat by omega]
  simp
/-- digits that begin with no nought are how their number is written -/
theorem numL_valA : ∀ (k : Nat) (d : List UInt8), d.length = k → (∀ c ∈ d, isD c) → d ≠ [] → d.getD 0 0 ≠ 48 → numL ((valA 0 d : Nat) : Int) = d ∧ 1 ≤ valA 0 d := by
  intro k
  induction k with
  | zero => intro d hl _ hn; exact absurd (List.eq_nil_of_length_eq_zero hl) hn
  | succ k ih =>
    intro d hl hd hn h0
    obtain ⟨d', c, rfl⟩ : ∃ d' c, d = d' ++ [c] := ⟨_, _, (List.dropLast_concat_getLast hn).symm⟩
    have hc : isD c := hd c (by simp)
    have hc2 := hc
    unfold isD at hc2
    rw [valA_snoc]
    by_cases e : d' = []
    · subst e
      simp only [List.nil_append, List.getD_cons_zero] at h0
      have hne : c.toNat ≠ 48 := fun e => h0 (by rw [← UInt8.toNat_inj]; exact e)
      rw [valA_nil, numL_small _ (by omega)]
      refine ⟨?_, by omega⟩
      rw [show (((10 * 0 + (c.toNat - 48) : Nat) : Int)).toNat = c.toNat - 48 by omega, digit_back c hc]
      rfl
    · have hl' : d'.length = k := by simpa using hl
      have hpos : 0 < d'.length := List.length_pos_iff.2 e
      obtain ⟨h1, h2⟩ := ih d' hl' (fun c hc => hd c (by simp [hc])) e (by
        simp only [List.getD_eq_getElem?_getD] at h0 ⊢
        rwa [List.getElem?_append_left hpos] at h0)
      refine ⟨?_, by omega⟩
      rw [numL_step _ (by omega)]
      rw [show ((10 * valA 0 d' + (c.toNat - 48) : Nat) : Int) / 10 = ((valA 0 d' : Nat) : Int) by omega, h1]
      rw [show (((10 * valA 0 d' + (c.toNat - 48) : Nat) : Int) % 10).toNat = c.toNat - 48 by omega, digit_back c hc]

/-- what a length at a place is -/
theorem lenR_cases (l : List UInt8) (p M : Nat) :
    (l.length ≤ p ∧ lenR l p M = (0, (p : Int), 2)) ∨ (p < l.length ∧ ¬ isD (l.getD p 0) ∧ lenR l p M = (0, (p : Int), 3)) ∨ (p < l.length ∧ lenR l p M = (0, (p : Int), 4)) ∨
    ∃ k n, 1 ≤ k ∧ p + k ≤ l.length ∧ n ≤ M ∧ (l.drop p).take k = numL ((n : Nat) : Int) ∧ lenR l p M = ((n : Int), ((p + k : Nat) : Int), 0) := by
  by_cases h1 : l.length ≤ p
  · exact .inl ⟨h1, by unfold lenR; rw [if_neg (by omega), if_pos (by omega)]⟩
  · replace h1 : p < l.length := by omega
    right
    by_cases h2 : isD (l.getD p 0)
    · right
      by_cases h3 : l.getD p 0 = 48
      · right
        refine ⟨1, 0, Nat.le_refl _, h1, Nat.zero_le _, ?_, ?_⟩
        · rw [List.drop_eq_getElem_cons h1]
          have : l[p] = 48 := by rw [← h3]; simp [List.getD_eq_getElem?_getD, h1]
          rw [this, numL_small _ (by omega)]
          rfl
        · unfold lenR
          rw [if_neg (by omega), if_neg (by omega), Int.toNat_natCast, if_neg (fun h => h h2), if_pos h3]
          rfl
      · have hb : lenR l p M = match lenScan M 0 (l.drop p) with
          | none => (0, (p : Int), 4)
          | some (n, k) => ((n : Int), (p : Int) + k, 0) := by
          unfold lenR
          rw [if_neg (by omega), if_neg (by omega), Int.toNat_natCast, if_neg (fun h => h h2), if_neg h3]
          all_goals (cases lenScan M 0 (l.drop p) <;> rfl)
        cases hs : lenScan M 0 (l.drop p) with
        | none => exact .inl ⟨h1, by rw [hb, hs]⟩
        | some q =>
          right
          obtain ⟨n, k⟩ := q
          obtain ⟨k1, k2, k3, k4⟩ := lenScan_some _ _ hs
          have hk : 1 ≤ k := by
            rcases Nat.eq_zero_or_pos k with e | e
            · subst e
              rw [List.drop_eq_getElem_cons h1] at hs
              unfold lenScan at hs
              have e2 : l[p] = l.getD p 0 := by simp [List.getD_eq_getElem?_getD, h1]
              rw [e2, if_pos h2] at hs
              split at hs
              · cases hs
              · cases hr : lenScan M (10 * 0 + ((l.getD p 0).toNat - 48)) (l.drop (p + 1)) with
                | none => rw [hr] at hs; cases hs
                | some q => rw [hr] at hs; simp at hs
            · exact e
          rw [List.length_drop] at k1
          refine ⟨k, n, hk, by omega, k4 (Nat.zero_le _), ?_, by rw [hb, hs]; simp⟩
          rw [k3]
          refine (numL_valA k _ (by simp; omega) k2 ?_ ?_).1.symm
          · intro e
            have := congrArg List.length e
            simp at this
            omega
          · simp only [List.getD_eq_getElem?_getD] at h3 ⊢
            rw [List.getElem?_take_of_lt (by omega), List.getElem?_drop]
            simpa using h3
    · exact .inl ⟨h1, h2, by unfold lenR; rw [if_neg (by omega), if_neg (by omega), Int.toNat_natCast, if_pos h2]⟩

/-- a length that stands at a place is read -/
theorem lenR_at {l : List UInt8} {p n M : Nat} {t : List UInt8} (h : l.drop p = numL ((n : Nat) : Int) ++ t) (ht : ∀ c r, t = c :: r → ¬ isD c) (hM : n ≤ M) : lenR l p M = ((n : Int), ((p + (numL ((n : Nat) : Int)).length : Nat) : Int), 0) := by
  have hb := back_len (n : Int) (by omega) t ht M (by omega)
  have hpos := (numL_facts n).2.2
  have hlt : p < l.length := by
    have := congrArg List.length h
    simp at this
    omega
  have e0 : l.getD p 0 = (l.drop p).getD 0 0 := by simp [List.getD_eq_getElem?_getD]
  rw [← h] at hb
  unfold lenR at hb ⊢
  rw [if_neg (by omega), if_neg (by simp; omega), Int.toNat_zero] at hb
  rw [if_neg (by omega), if_neg (by omega), Int.toNat_natCast, e0]
  rw [List.drop_zero] at hb
  split at hb
  · simp at hb
  · rename_i h1
    rw [if_neg h1]
    split at hb
    · rename_i h2
      rw [if_pos h2]
      simp only [Prod.mk.injEq] at hb ⊢
      exact ⟨by omega, by omega, trivial⟩
    · rename_i h2
      rw [if_neg h2]
      cases hs : lenScan M 0 (l.drop p) with
      | none => rw [hs] at hb; simp at hb
      | some q =>
        obtain ⟨n', k'⟩ := q
        rw [hs] at hb
        simp only [Prod.mk.injEq] at hb ⊢
        exact ⟨hb.1, by omega, trivial⟩

theorem getD_drop (l : List UInt8) (p i : Nat) : (l.drop p).getD i 0 = l.getD (p + i) 0 := by simp [List.getD_eq_getElem?_getD]

/-- bytes that stand at a place are read -/
theorem rBytes_at {l b r : List UInt8} {p : Nat} (h : l.drop p = textL b ++ r) (hb : b.length ≤ 4096) : rBytes l p = (b, p + (textL b).length, 0) := by
  simp only [textL, List.append_assoc, List.cons_append] at h
  have hn := lenR_at h (fun c r e => by simp only [List.cons.injEq] at e; rw [← e.1]; exact not_isD (by decide)) hb
  have hlen := congrArg List.length h
  simp only [List.length_drop, List.length_append, List.length_cons] at hlen
  have h58 : l.getD (p + (numL ((b.length : Nat) : Int)).length) 0 = 58 := by
    rw [← getD_drop, h]
    simp [List.getD_eq_getElem?_getD]
  have hpos := (numL_facts b.length).2.2
  have hdr : l.drop (p + (numL ((b.length : Nat) : Int)).length + 1) = b ++ r := by
    rw [Nat.add_assoc, ← List.drop_drop, h, ← List.drop_drop, List.drop_left]
    rfl
  unfold rBytes
  simp only [hn, Int.toNat_natCast]
  rw [if_neg (by omega), if_neg (by omega), if_neg (by omega), if_neg (by rw [h58]; simp), if_neg (by omega), hdr]
  simp only [Prod.mk.injEq, and_true]
  exact ⟨by simp, by simp [textL]; omega⟩

/-- bytes that were read stood there -/
theorem rBytes_ok {l b : List UInt8} {p q : Nat} (h : rBytes l p = (b, q, 0)) : l.drop p = textL b ++ l.drop q ∧ q = p + (textL b).length ∧ q ≤ l.length ∧ b.length ≤ 4096 := by
  unfold rBytes at h
  simp only at h
  rcases lenR_cases l p 4096 with ⟨_, e⟩ | ⟨_, _, e⟩ | ⟨_, e⟩ | ⟨k, n, hk, hp, hn, ht, e⟩
  · rw [e] at h; simp at h
  · rw [e] at h; simp at h
  · rw [e] at h; simp at h
  · rw [e] at h
    simp only [Int.toNat_natCast] at h
    rw [if_neg (by omega), if_neg (by omega)] at h
    split at h
    · simp at h
    · rename_i h1
      split at h
      · simp at h
      · rename_i h2
        split at h
        · simp at h
        · rename_i h3
          simp only [Prod.mk.injEq, and_true] at h
          obtain ⟨rfl, rfl⟩ := h
          replace h2 : l.getD (p + k) 0 = 58 := by simpa using h2
          have hbl : ((l.drop (p + k + 1)).take n).length = n := by simp; omega
          have hnl : (numL ((n : Nat) : Int)).length = k := by rw [← ht]; simp; omega
          refine ⟨?_, by simp only [textL, List.length_append, List.length_cons, hbl, hnl]; omega, by omega, by rw [hbl]; exact hn⟩
          simp only [textL, hbl, List.append_assoc, List.cons_append]
          rw [← ht]
          have e1 : l.drop p = (l.drop p).take k ++ (l.drop p).drop k := (List.take_append_drop k _).symm
          rw [List.drop_drop] at e1
          have e2 : l.drop (p + k) = 58 :: l.drop (p + k + 1) := by
            rw [List.drop_eq_getElem_cons (by omega)]
            congr 1
            rw [← h2]
            simp [List.getD_eq_getElem?_getD, show p + k < l.length by omega]
          have e3 : l.drop (p + k + 1) = (l.drop (p + k + 1)).take n ++ l.drop (p + k + 1 + n) := by
            have := (List.take_append_drop n (l.drop (p + k + 1))).symm
            rwa [List.drop_drop] at this
          rw [← e3, ← e2]
          exact e1

/-- an error is told at a place that is there -/
theorem rBytes_err {l b : List UInt8} {p q e : Nat} (h : rBytes l p = (b, q, e)) (hp : p ≤ l.length) : q ≤ l.length ∧ e ≤ 4 := by
  unfold rBytes at h
  simp only at h
  rcases lenR_cases l p 4096 with ⟨_, e1⟩ | ⟨_, _, e1⟩ | ⟨_, e1⟩ | ⟨k, n, hk, hp, hn, ht, e1⟩
  · rw [e1] at h; simp at h; omega
  · rw [e1] at h; simp at h; omega
  · rw [e1] at h; simp at h; omega
  · rw [e1] at h
    simp only [Int.toNat_natCast] at h
    rw [if_neg (by omega), if_neg (by omega)] at h
    split at h
    · simp at h; omega
    · split at h
      · simp at h; omega
      · split at h
        · simp at h; omega
        · simp at h; omega

/-- bytes that are cut off are short -/
theorem rBytes_cut {l b r : List UInt8} {p k : Nat} (h : l.drop p = (textL b ++ r).take k) (hk : k < (textL b).length) (hb : b.length ≤ 4096) (hp : p ≤ l.length) : rBytes l p = ([], l.length, 2) := by
  rw [List.take_append_of_le_length (by omega)] at h
  have hkl : l.length = p + k := by
    have := congrArg List.length h
    simp at this
    omega
  obtain ⟨N, hN⟩ : ∃ N, N = numL ((b.length : Nat) : Int) := ⟨_, rfl⟩
  obtain ⟨f1, f2, f3⟩ := numL_facts b.length
  rw [← hN] at f1 f2 f3
  have ht : textL b = N ++ 58 :: b := by rw [hN]; rfl
  rw [ht] at h hk
  simp only [List.length_append, List.length_cons] at hk
  unfold rBytes
  simp only
  by_cases h1 : k ≤ N.length
  · rw [List.take_append_of_le_length h1] at h
    rcases lenR_cases l p 4096 with ⟨_, e⟩ | ⟨h2, h3, e⟩ | ⟨h2, e⟩ | ⟨k', n, hk', hp', hn', ht', e⟩
    · rw [e]; simp
    · refine absurd (f1 _ ?_) h3
      have : l.getD p 0 = (l.drop p).getD 0 0 := by simp [List.getD_eq_getElem?_getD]
      rw [this, h]
      have hk0 : 0 < k := by omega
      simp only [List.getD_eq_getElem?_getD]
      rw [List.getElem?_take_of_lt hk0, List.getElem?_eq_getElem f3]
      simp
    · -- the digits of a small number are not too many
      exfalso
      have h2' : isD (l.getD p 0) ∧ l.getD p 0 ≠ 48 ∧ lenScan 4096 0 (l.drop p) = none := by
        unfold lenR at e
        rw [if_neg (by omega), if_neg (by omega), Int.toNat_natCast] at e
        split at e
        · simp at e
        · rename_i h5
          split at e
          · simp at e
          · rename_i h6
            cases hs : lenScan 4096 0 (l.drop p) with
            | none => exact ⟨Decidable.not_not.1 h5, h6, rfl⟩
            | some q => rw [hs] at e; simp at e
      have h7 := h2'.2.2
      rw [h] at h7
      have happ := lenScan_app 4096 [] (N.take k) 0 (fun c hc => f1 c (List.mem_of_mem_take hc)) (Nat.zero_le _)
      rw [List.append_nil, h7] at happ
      have hle : valA 0 (N.take k) ≤ valA 0 N := by
        have e1 : valA 0 N = valA (valA 0 (N.take k)) (N.drop k) := by
          conv => lhs; rw [← List.take_append_drop k N]
          unfold valA
          rw [List.foldl_append]
        rw [e1]
        exact valA_ge _ _
      rw [f2] at hle
      rw [if_neg (by omega)] at happ
      simp [lenScan] at happ
    · have hall : p + k' = l.length := by
        rcases Nat.lt_or_ge (p + k') l.length with h4 | h4
        · exfalso
          -- what stands behind the digits is no digit, or the number is a nought
          by_cases h0 : l.getD p 0 = 48
          · have hN0 : N.getD 0 0 = 48 := by
              have : l.getD p 0 = (l.drop p).getD 0 0 := by simp [List.getD_eq_getElem?_getD]
              rw [this, h] at h0
              have hk0 : 0 < k := by omega
              simp only [List.getD_eq_getElem?_getD] at h0 ⊢
              rwa [List.getElem?_take_of_lt hk0] at h0
            have := (dec_facts b.length).2.2.1
            have hz : b.length = 0 := by
              rcases Nat.eq_zero_or_pos b.length with e0 | e0
              · exact e0
              · exact absurd (by rw [hN] at hN0; unfold numL at hN0; simpa using hN0) (this e0)
            have hNl : N.length = 1 := by rw [hN, hz, show ((0 : Nat) : Int) = 0 from rfl, numL_small 0 (by omega)]; rfl
            omega
          · have h8 : lenScan 4096 0 (l.drop p) = some (n, k') := by
              have e' := e
              unfold lenR at e'
              rw [if_neg (by omega), if_neg (by omega), Int.toNat_natCast] at e'
              split at e'
              · simp at e'
              · cases hs : lenScan 4096 0 (l.drop p) with
                | none => rw [hs] at e'; simp at e'
                | some q =>
                  obtain ⟨a, c⟩ := q
                  rw [hs] at e'
                  simp only [Prod.mk.injEq] at e'
                  congr 2 <;> omega
            have happ := lenScan_app 4096 [] (N.take k) 0 (fun c hc => f1 c (List.mem_of_mem_take hc)) (Nat.zero_le _)
            rw [List.append_nil, ← h, h8] at happ
            split at happ
            · cases happ
            · simp only [lenScan, Option.map_some, Option.some.injEq, Prod.mk.injEq, Nat.zero_add] at happ
              have := happ.2
              rw [List.length_drop] at this
              omega
        · omega
      rw [e]
      simp only [Int.toNat_natCast]
      rw [if_neg (by omega), if_neg (by omega), if_pos (by omega)]
  · replace h1 : N.length < k := by omega
    have h' : l.drop p = N ++ 58 :: b.take (k - N.length - 1) := by
      rw [h, List.take_append]
      rw [List.take_of_length_le (by omega), show k - N.length = (k - N.length - 1) + 1 by omega, List.take_succ_cons]
      rfl
    have hn := lenR_at (by rw [hN] at h'; exact h') (fun c r e => by simp only [List.cons.injEq] at e; rw [← e.1]; exact not_isD (by decide)) hb
    rw [← hN] at hn
    have h58 : l.getD (p + N.length) 0 = 58 := by
      rw [← getD_drop, h']
      simp [List.getD_eq_getElem?_getD]
    simp only [hn, Int.toNat_natCast]
    rw [if_neg (by omega), if_neg (by omega), if_neg (by omega), if_neg (by rw [h58]; simp), if_pos (by omega)]
end Go.Proofs.YtigopfeamjhdpaaDoor
namespace Go.Proofs.YtigopfeamjhdpaaDoor
open Go.RowKit

theorem drop_cons {l : List UInt8} {p : Nat} {c : UInt8} {r : List UInt8} (h : l.drop p = c :: r) : p < l.length ∧ l.getD p 0 = c ∧ l.drop (p + 1) = r := by
  have hlt : p < l.length := by
    have := congrArg List.length h
    simp at this
    omega
  refine ⟨hlt, ?_, ?_⟩
  · have := getD_drop l p 0
    rw [h] at this
    simpa using this.symm
  · rw [← List.drop_drop, h]; rfl
theorem drop_app {l a r : List UInt8} {p : Nat} (h : l.drop p = a ++ r) : l.drop (p + a.length) = r := by
  rw [← List.drop_drop, h, List.drop_left]
theorem textL_bound {x : List UInt8} : x.length < (textL x).length := by simp [textL]; omega

/-- an atom that stands at a place -/
theorem rAtom_at {l : List UInt8} {h : Bool} {hi da r : List UInt8} {p n : Nat} (hl : l.drop p = (Sx.mk false h hi da []).form ++ r) (hc : (Sx.mk false h hi da []).clean = true) (hf : (Sx.mk false h hi da []).form.length ≤ 4096) :
    rAtom l p n = ⟨.mk false h hi da [], p + (Sx.mk false h hi da []).form.length, n, 0⟩ := by
  obtain ⟨_, p2, _⟩ := clean_parts hc
  rw [form_def] at hl hf ⊢
  have b1 := textL_bound (x := hi)
  have b2 := textL_bound (x := da)
  cases h with
  | true =>
    simp only [Bool.false_eq_true, if_false, if_true, List.length_cons, List.length_append, List.length_nil] at hl hf ⊢
    simp only [List.cons_append, List.append_assoc] at hl
    obtain ⟨h1, h2, h3⟩ := drop_cons hl
    have r1 := rBytes_at h3 (by omega)
    have h4 := drop_app h3
    simp only [List.nil_append] at h4
    obtain ⟨h5, h6, h7⟩ := drop_cons h4
    have r2 := rBytes_at h7 (by omega)
    unfold rAtom
    rw [if_pos h2]
    simp only [r1]
    rw [if_neg (by simp), if_neg (by omega), if_neg (by rw [h6]; simp)]
    simp only [r2]
    rw [if_neg (by simp)]
    congr 1
    omega
  | false =>
    obtain rfl := (p2 rfl).2 rfl
    simp only [Bool.false_eq_true, if_false, List.nil_append] at hl hf ⊢
    obtain ⟨c, t, e, hd⟩ := textL_head da r
    have h2 := (drop_cons (hl.trans e)).2.1
    have r1 := rBytes_at hl (by omega)
    unfold rAtom
    rw [if_neg (by rw [h2]; intro e2; subst e2; exact absurd hd (not_isD (by decide)))]
    simp only [r1]
    rw [if_neg (by simp)]

theorem starts_head {l : List UInt8} {s : Sx} {r : List UInt8} {p : Nat} (h : l.drop p = s.form ++ r) : p < l.length ∧ starts (l.getD p 0) ∧ (l.getD p 0 = 40 ↔ s.l = true) ∧ l.getD p 0 ≠ 41 := by
  obtain ⟨c, t, e, hc⟩ := form_head s r
  obtain ⟨h1, h2, _⟩ := drop_cons (h.trans e)
  rw [h2]
  refine ⟨h1, ?_⟩
  have d1 : ¬ isD 40 := not_isD (by decide)
  have d2 : ¬ isD 41 := not_isD (by decide)
  rcases hc with ⟨a, rfl⟩ | ⟨a, b, rfl⟩ | ⟨a, b, hd⟩
  · exact ⟨.inl rfl, ⟨fun _ => a, fun _ => rfl⟩, by decide⟩
  · exact ⟨.inr (.inl rfl), ⟨fun h => absurd h (by decide), fun h => by rw [a] at h; cases h⟩, by decide⟩
  · exact ⟨.inr (.inr hd), ⟨fun h => absurd (h ▸ hd) d1, fun h => by rw [a] at h; cases h⟩, fun h => d2 (h ▸ hd)⟩

/-- a form that stands at a place is read -/
theorem St_form {l : List UInt8} (s : Sx) : ∀ (p lv n : Nat) (r : List UInt8), s.clean = true → l.drop p = s.form ++ r → n + s.nodes ≤ 512 → s.deep + lv ≤ 17 → s.form.length ≤ 4096 → St l none p lv n ⟨s, p + s.form.length, n + s.nodes, 0⟩ := by
  induction s using Sx.ind with
  | h tl th hi da ks ih =>
    intro p lv n r hc h hn hd hf
    obtain ⟨h1, h2, h3, _⟩ := starts_head h
    obtain ⟨p1, p2, p3⟩ := clean_parts hc
    cases tl with
    | false =>
      obtain ⟨rfl, _⟩ := p2 rfl
      have hA := rAtom_at (n := n + 1) h hc hf
      have e : (Sx.mk false th hi da []).nodes = 1 := by simp [Sx.nodes, Sx.nodesL]
      rw [e] at hn ⊢
      rw [← hA]
      exact .atom h1 h2 (fun h => by have := h3.1 h; cases this) (by omega)
    | true =>
      obtain ⟨rfl, rfl, rfl⟩ := p1 rfl
      have h4 := h3.2 rfl
      rw [form_def, if_pos rfl] at h hf
      have hfd : (Sx.mk true false [] [] ks).form = 40 :: (Sx.formL ks ++ [41]) := by rw [form_def, if_pos rfl]
      rw [hfd]
      simp only [List.length_cons, List.length_append, List.length_nil] at hf ⊢
      simp only [Sx.nodes, Sx.deep, if_true] at hn hd ⊢
      simp only [List.cons_append, List.append_assoc, List.nil_append] at h
      obtain ⟨_, _, h5⟩ := drop_cons h
      have key : ∀ (ks' acc : List Sx) (q m : Nat), (∀ k ∈ ks', k ∈ ks) → l.drop q = Sx.formL ks' ++ 41 :: r → m + Sx.nodesL ks' ≤ 512 → (Sx.formL ks').length ≤ 4096 →
          St l (some acc) q lv m ⟨.mk true false [] [] (acc ++ ks'), q + (Sx.formL ks').length + 1, m + Sx.nodesL ks', 0⟩ := by
        intro ks'
        induction ks' with
        | nil =>
          intro acc q m _ hq _ _
          obtain ⟨q1, q2, _⟩ := drop_cons (by simpa [Sx.formL] using hq)
          simpa [Sx.formL, Sx.nodesL] using St.close (lv := lv) (n := m) (acc := acc) q1 q2
        | cons a t iht =>
          intro acc q m hin hq hm hfl
          simp only [Sx.formL, List.append_assoc] at hq
          simp only [Sx.nodesL, Sx.formL, List.length_append] at hm hfl ⊢
          have ha := hin a List.mem_cons_self
          have hdeep := Sx.deepL_mem ha
          have s1 := ih a ha q (lv + 1) m _ (p3 a ha) hq (by omega) (by omega) (by omega)
          have s2 := iht (acc ++ [a]) (q + a.form.length) (m + a.nodes) (fun k hk => hin k (List.mem_cons_of_mem _ hk)) (drop_app hq) (by omega) (by omega)
          have hno := (starts_head hq).2.2.2
          have := St.more (fun h => hno h.2) s1 rfl s2
          simpa [Nat.add_assoc] using this
      have hk := key ks [] (p + 1) (n + 1) (fun k hk => hk) h5 (by omega) (by omega)
      rw [List.nil_append] at hk
      have := St.list h1 h4 (by omega) (by omega) hk
      have e1 : p + 1 + (Sx.formL ks).length + 1 = p + ((Sx.formL ks).length + (0 + 1) + 1) := by omega
      have e2 : n + 1 + Sx.nodesL ks = n + (1 + Sx.nodesL ks) := by omega
      rw [e1, e2] at this
      exact this

/-- what is read stood there -/
def OkP (l : List UInt8) : Option (List Sx) → Nat → Nat → Nat → RV → Prop
  | none, p, lv, n, r => lv ≤ 17 → n ≤ 512 → l.drop p = r.v.form ++ l.drop r.p ∧ r.p = p + r.v.form.length ∧ r.p ≤ l.length ∧ r.v.clean = true ∧ r.n = n + r.v.nodes ∧ r.n ≤ 512 ∧ r.v.deep + lv ≤ 17
  | some acc, p, lv, n, r => lv ≤ 16 → n ≤ 512 → ∃ ks, r.v = .mk true false [] [] (acc ++ ks) ∧ l.drop p = Sx.formL ks ++ 41 :: l.drop r.p ∧ r.p = p + (Sx.formL ks).length + 1 ∧ r.p ≤ l.length ∧ Sx.cleanL ks = true ∧ r.n = n + Sx.nodesL ks ∧ r.n ≤ 512 ∧ Sx.deepL ks + lv ≤ 16

theorem cleanL_cons (a : Sx) (ks : List Sx) : Sx.cleanL (a :: ks) = (a.clean && Sx.cleanL ks) := rfl
theorem drop_eq {l : List UInt8} {p : Nat} (h : p < l.length) : l.drop p = l.getD p 0 :: l.drop (p + 1) := by
  rw [List.drop_eq_getElem_cons h]
  congr 1
  simp [List.getD_eq_getElem?_getD, h]

theorem St_ok {l : List UInt8} {m : Option (List Sx)} {p lv n : Nat} {r : RV} (h : St l m p lv n r) : r.e = 0 → OkP l m p lv n r := by
  induction h with
  | short | bad | long => intro h; cases h
  | @atom p lv n h1 h2 h3 h4 =>
    intro h hlv hn
    unfold rAtom at h ⊢
    split at h
    · rename_i h5
      rw [if_pos h5]
      obtain ⟨⟨b1, q1, e1⟩, hr1⟩ : ∃ x, x = rBytes l (p + 1) := ⟨_, rfl⟩
      simp only [← hr1] at h ⊢
      split at h
      · rename_i h6; exact absurd h h6
      · rename_i h6
        rw [if_neg h6]
        replace h6 : e1 = 0 := by simpa using h6
        subst h6
        obtain ⟨k1, k2, k3, k4⟩ := rBytes_ok hr1.symm
        split at h
        · cases h
        · rename_i h7
          rw [if_neg h7]
          split at h
          · cases h
          · rename_i h8
            rw [if_neg h8]
            obtain ⟨⟨b2, q2, e2⟩, hr2⟩ : ∃ x, x = rBytes l (q1 + 1) := ⟨_, rfl⟩
            simp only [← hr2] at h ⊢
            split at h
            · rename_i h9; exact absurd h h9
            · rename_i h9
              rw [if_neg h9]
              replace h9 : e2 = 0 := by simpa using h9
              subst h9
              obtain ⟨g1, g2, g3, g4⟩ := rBytes_ok hr2.symm
              replace h8 : l.getD q1 0 = 93 := by simpa using h8
              have hfd : (Sx.mk false true b1 b2 []).form = 91 :: (textL b1 ++ [93]) ++ textL b2 := by rw [form_def, if_neg (by simp), if_pos rfl]
              refine ⟨?_, ?_, g3, by rw [clean_def]; simp [headOk, Sx.cleanL], by simp [Sx.nodes, Sx.nodesL], by omega, by simp [Sx.deep]; exact hlv⟩
              · simp only [hfd, List.cons_append, List.append_assoc, List.nil_append]
                rw [drop_eq h1, h5, k1, drop_eq (by omega), h8, g1]
              · simp only [hfd, List.length_append, List.length_cons, List.length_nil]; omega
    · rename_i h5
      rw [if_neg h5]
      obtain ⟨⟨b1, q1, e1⟩, hr1⟩ : ∃ x, x = rBytes l p := ⟨_, rfl⟩
      simp only [← hr1] at h ⊢
      split at h
      · rename_i h6; exact absurd h h6
      · rename_i h6
        rw [if_neg h6]
        replace h6 : e1 = 0 := by simpa using h6
        subst h6
        obtain ⟨k1, k2, k3, k4⟩ := rBytes_ok hr1.symm
        have hfd : (Sx.mk false false [] b1 []).form = textL b1 := by rw [form_def]; simp
        refine ⟨by simp only [hfd]; exact k1, by simp only [hfd]; exact k2, k3, by rw [clean_def]; simp [headOk, Sx.cleanL], by simp [Sx.nodes, Sx.nodesL], by omega, by simp [Sx.deep]; exact hlv⟩
  | @list p lv n r h1 h2 h3 h4 _ ih =>
    intro h hlv hn
    obtain ⟨ks, e1, e2, e3, e4, e5, e6, e7, e8⟩ := ih h h4 h3
    rw [List.nil_append] at e1
    have hfd : r.v.form = 40 :: (Sx.formL ks ++ [41]) := by rw [e1, form_def, if_pos rfl]
    refine ⟨by rw [hfd, drop_eq h1, h2, e2]; simp, by rw [hfd]; simp only [List.length_cons, List.length_append, List.length_nil]; omega, e4, by rw [e1, clean_def, e5]; simp [headOk], by rw [e1]; simp only [Sx.nodes]; omega, e7, by rw [e1]; simp only [Sx.deep, if_true]; omega⟩
  | @close p lv n acc h1 h2 =>
    intro _ hlv hn
    exact ⟨[], by simp, by rw [drop_eq h1, h2]; rfl, by simp [Sx.formL], h1, rfl, by simp [Sx.nodesL], hn, by simpa [Sx.deepL] using hlv⟩
  | fail _ _ h3 => intro h; exact absurd h h3
  | @more p lv n acc r r' h1 _ h3 _ ih1 ih2 =>
    intro h hlv hn
    obtain ⟨a1, a2, a3, a4, a5, a6, a7⟩ := ih1 h3 (by omega) hn
    obtain ⟨ks, e1, e2, e3, e4, e5, e6, e7, e8⟩ := ih2 h hlv a6
    refine ⟨r.v :: ks, by rw [e1]; simp, by simp only [Sx.formL, List.append_assoc]; rw [← e2]; exact a1, by simp only [Sx.formL, List.length_append]; omega, e4, by rw [cleanL_cons, a4, e5]; rfl, by simp only [Sx.nodesL]; omega, e7, by simp only [Sx.deepL]; omega⟩

theorem take_cons_pos {c : UInt8} {x : List UInt8} {k : Nat} (h : 0 < k) : (c :: x).take k = c :: x.take (k - 1) := by
  cases k with
  | zero => omega
  | succ k => rfl

/-- a form that is cut off is short -/
theorem St_cut {l : List UInt8} (s : Sx) : ∀ (p lv n k : Nat), s.clean = true → l.drop p = s.form.take k → k < s.form.length → n + s.nodes ≤ 512 → s.deep + lv ≤ 17 → s.form.length ≤ 4096 → p ≤ l.length → St l none p lv n (RV.err l.length 2) := by
  induction s using Sx.ind with
  | h tl th hi da ks ih =>
    intro p lv n k hc h hk hn hd hf hp
    have hkl : l.length = p + k := by
      have := congrArg List.length h
      simp at this
      omega
    by_cases hk0 : k = 0
    · exact .short (by omega)
    replace hk0 : 0 < k := by omega
    obtain ⟨p1, p2, p3⟩ := clean_parts hc
    have hhead : p < l.length ∧ starts (l.getD p 0) ∧ (l.getD p 0 = 40 ↔ tl = true) := by
      obtain ⟨c, t, e, hcc⟩ := form_head (.mk tl th hi da ks) []
      rw [List.append_nil] at e
      rw [e, take_cons_pos hk0] at h
      obtain ⟨h1, h2, _⟩ := drop_cons h
      rw [h2]
      refine ⟨h1, ?_⟩
      have d1 : ¬ isD 40 := not_isD (by decide)
      rcases hcc with ⟨a, rfl⟩ | ⟨a, b, rfl⟩ | ⟨a, b, hdd⟩
      · exact ⟨.inl rfl, ⟨fun _ => a, fun _ => rfl⟩⟩
      · exact ⟨.inr (.inl rfl), ⟨fun h => absurd h (by decide), fun h => by simp only [Sx.l] at a; rw [a] at h; cases h⟩⟩
      · exact ⟨.inr (.inr hdd), ⟨fun h => absurd (h ▸ hdd) d1, fun h => by simp only [Sx.l] at a; rw [a] at h; cases h⟩⟩
    obtain ⟨h1, h2, h3⟩ := hhead
    cases tl with
    | false =>
      obtain ⟨rfl, p4⟩ := p2 rfl
      have e : (Sx.mk false th hi da []).nodes = 1 := by simp [Sx.nodes, Sx.nodesL]
      rw [e] at hn
      have hA : rAtom l p (n + 1) = RV.err l.length 2 := by
        have b1 := textL_bound (x := hi)
        have b2 := textL_bound (x := da)
        rw [form_def] at h hf hk
        cases th with
        | true =>
          simp only [Bool.false_eq_true, if_false, if_true, List.length_cons, List.length_append, List.length_nil] at h hf hk
          simp only [List.cons_append, List.append_assoc] at h
          rw [take_cons_pos hk0] at h
          obtain ⟨_, h5, h6⟩ := drop_cons h
          unfold rAtom
          rw [if_pos h5]
          by_cases hk1 : k - 1 < (textL hi).length
          · have r1 := rBytes_cut h6 hk1 (by omega) (by omega)
            simp only [r1]
            rw [if_pos (by simp)]
          · rw [List.take_append, List.take_of_length_le (by omega)] at h6
            have r1 := rBytes_at h6 (by omega)
            simp only [r1]
            rw [if_neg (by simp)]
            by_cases hk2 : k - 1 = (textL hi).length
            · rw [if_pos (by omega)]
            · rw [if_neg (by omega)]
              have h7 := drop_app h6
              simp only [List.nil_append] at h7
              rw [show k - 1 - (textL hi).length = (k - 2 - (textL hi).length) + 1 by omega] at h7
              simp only [List.take_succ_cons] at h7
              obtain ⟨h8, h9, h10⟩ := drop_cons h7
              rw [if_neg (by rw [h9]; simp)]
              have r2 := rBytes_cut (r := []) (by rw [List.append_nil]; exact h10) (by omega) (by omega) (by omega)
              simp only [r2]
              rw [if_pos (by simp)]
        | false =>
          obtain rfl := p4 rfl
          simp only [Bool.false_eq_true, if_false, List.nil_append] at h hf hk
          have r1 := rBytes_cut (r := []) (by rw [List.append_nil]; exact h) hk (by omega) hp
          have hne : l.getD p 0 ≠ 91 := by
            obtain ⟨c, t, e, hdd⟩ := textL_head da []
            rw [List.append_nil] at e
            rw [e, take_cons_pos hk0] at h
            rw [(drop_cons h).2.1]
            intro e2
            subst e2
            exact absurd hdd (not_isD (by decide))
          unfold rAtom
          rw [if_neg hne]
          simp only [r1]
          rw [if_pos (by simp)]
      rw [← hA]
      exact .atom h1 h2 (fun h => by have := h3.1 h; cases this) (by omega)
    | true =>
      obtain ⟨rfl, rfl, rfl⟩ := p1 rfl
      have h4 := h3.2 rfl
      rw [form_def, if_pos rfl] at h hf hk
      simp only [List.length_cons, List.length_append, List.length_nil] at hf hk
      simp only [Sx.nodes, Sx.deep, if_true] at hn hd
      rw [take_cons_pos hk0] at h
      obtain ⟨_, _, h5⟩ := drop_cons h
      have key : ∀ (ks' acc : List Sx) (q m k' : Nat), (∀ x ∈ ks', x ∈ ks) → l.drop q = (Sx.formL ks' ++ [41]).take k' → k' < (Sx.formL ks').length + 1 → m + Sx.nodesL ks' ≤ 512 → (Sx.formL ks').length ≤ 4096 → q ≤ l.length →
          St l (some acc) q lv m (RV.err l.length 2) := by
        intro ks'
        induction ks' with
        | nil =>
          intro acc q m k' _ hq hk' _ _ hql
          have : k' = 0 := by simp only [Sx.formL, List.length_nil] at hk'; omega
          subst this
          have hlen := congrArg List.length hq
          simp at hlen
          exact .fail (fun h => by omega) (.short (by omega)) (by simp [RV.err])
        | cons a t iht =>
          intro acc q m k' hin hq hk' hm hfl hql
          simp only [Sx.formL, List.append_assoc] at hq
          simp only [Sx.nodesL, Sx.formL, List.length_append] at hm hfl hk'
          have ha := hin a List.mem_cons_self
          have hdeep := Sx.deepL_mem ha
          by_cases hka : k' < a.form.length
          · rw [List.take_append_of_le_length (by omega)] at hq
            have s1 := ih a ha q (lv + 1) m k' (p3 a ha) hq hka (by omega) (by omega) (by omega) hql
            refine .fail (fun h => ?_) s1 (by simp [RV.err])
            obtain ⟨c, x, e, hcc⟩ := form_head a []
            rw [List.append_nil] at e
            rcases Nat.eq_zero_or_pos k' with e0 | e0
            · subst e0
              have hlen := congrArg List.length hq
              simp at hlen
              omega
            · rw [e, take_cons_pos e0] at hq
              have h9 := (drop_cons hq).2.1
              rw [h9] at h
              rcases hcc with ⟨_, rfl⟩ | ⟨_, _, rfl⟩ | ⟨_, _, hdd⟩
              · exact absurd h.2 (by decide)
              · exact absurd h.2 (by decide)
              · exact absurd (h.2 ▸ hdd) (not_isD (by decide))
          · rw [List.take_append, List.take_of_length_le (by omega)] at hq
            have s1 := St_form a q (lv + 1) m _ (p3 a ha) hq (by omega) (by omega) (by omega)
            have hno := (starts_head hq).2.2.2
            have h9 := drop_app hq
            have hql2 : q + a.form.length ≤ l.length := by
              have := congrArg List.length hq
              simp at this
              omega
            have s2 := iht (acc ++ [a]) (q + a.form.length) (m + a.nodes) (k' - a.form.length) (fun x hx => hin x (List.mem_cons_of_mem _ hx)) h9 (by omega) (by omega) (by omega) hql2
            exact .more (fun h => hno h.2) s1 rfl s2
      exact .list h1 h4 (by omega) (by omega) (key ks [] (p + 1) (n + 1) (k - 1) (fun x hx => hx) h5 (by omega) (by omega) (by omega) (by omega))
end Go.Proofs.YtigopfeamjhdpaaDoor
namespace Go.Proofs.YtigopfeamjhdpaaDoor
open Go.RowKit
set_option linter.unusedSimpArgs false
set_option linter.unusedVariables false

def BytesP (ok : Nat → Prop) (r : List UInt8 × Nat × Nat) (w : World) (e : Ending) (w' : World) : Prop :=
  ∃ a n c, e = .returned (.tuple #[.slice a n c, .int .i64 r.2.1, .int .i64 r.2.2]) ∧ Sl w' a n c r.1 ∧ InB ok a n ∧ Below w.heap.size w w'

theorem slCut {w : World} {b o n c : Nat} {l : List UInt8} (h : Sl w (some ⟨b, o, none⟩) n c l) (lo m : Nat) (hm : lo + m ≤ n) :
    (c ≠ lo → Sl w (some ⟨b, o + lo, none⟩) m (c - lo) ((l.drop lo).take m)) ∧ (c = lo → Sl w (some ⟨b, o, none⟩) m 0 ((l.drop lo).take m)) := by
  have h1 := (h.take (lo + m) hm).drop lo (by omega)
  rw [Nat.add_sub_cancel_left, show (l.take (lo + m)).drop lo = (l.drop lo).take m by rw [List.drop_take]; congr 1; omega] at h1
  refine ⟨fun e => by rwa [if_neg e] at h1, fun e => ?_⟩
  subst e
  rwa [if_pos rfl, Nat.sub_self] at h1
theorem Sl.keepB {w w2 u : World} {a : Option Addr} {n c : Nat} {l : List UInt8} (h : Sl w2 a n c l) (hi : InB (fun k => k < w.heap.size) a n) (b2 : Below w.heap.size w w2) (bu : Below w.heap.size w u) : Sl u a n c l :=
  h.keep (hi.imp id fun h b o s e => (bu.block b (h b o s e)).trans (b2.block b (h b o s e)).symm)
theorem bytesP_yes {ok : Nat → Prop} {R : List UInt8 × Nat × Nat} {L : List UInt8} {q : Nat} {z : Int} (h : R = (L, q, 0)) (hz : z = (q : Int)) {w w' : World} {a : Option Addr} {n c : Nat} (hs : Sl w' a n c L) (hi : InB ok a n) (hb : Below w.heap.size w w') : BytesP ok R w (.returned (.tuple #[.slice a n c, .int .i64 z, .int .i64 0])) w' := by
  subst h hz
  exact ⟨_, _, _, rfl, hs, hi, hb⟩
theorem bytesP_no {ok : Nat → Prop} {R : List UInt8 × Nat × Nat} {q e : Nat} (h : R = ([], q, e)) {w w' : World} (g : Nat) (hb : Below w.heap.size w w') : BytesP ok R w (.returned (.tuple #[.slice (some ⟨g, 0, none⟩) 0 0, .int .i64 q, .int .i64 e])) w' := by
  subst h
  exact ⟨_, _, _, rfl, ⟨rfl, Nat.le_refl _, Nat.zero_le _, (fun h => by cases h), .inl rfl⟩, .inl rfl, hb⟩

end Go.Proofs.YtigopfeamjhdpaaDoor
namespace Go.Proofs.YtigopfeamjhdpaaDoor
open Go.RowKit
set_option linter.unusedSimpArgs false
set_option linter.unusedVariables false

/-- what was read is handed back -/
def RP (ok : Nat → Prop) (r : RV) (w : World) (e : Ending) (w' : World) : Prop :=
  ∃ v : SV, e = .returned (.agg #[.bool v.l, .bool v.h, .slice v.a1 v.n1 v.c1, .slice v.a2 v.n2 v.c2, .slice v.a3 v.n3 v.c3, .int .i64 r.p, .int .i64 r.n, .int .i64 r.e]) ∧ RdI (fun k => ok k ∨ w.heap.size ≤ k) w' v r.v ∧ Below w.heap.size w w'
theorem rp_err {ok : Nat → Prop} {r : RV} {p e : Nat} (h : r = RV.err p e) {w w' : World} (hb : Below w.heap.size w w') : RP ok r w (.returned (.agg #[.bool false, .bool false, .slice none 0 0, .slice none 0 0, .slice none 0 0, .int .i64 p, .int .i64 0, .int .i64 e])) w' := by
  subst h
  exact ⟨SV.nil, rfl, rd_nil _ _, hb⟩
theorem rp_ok {ok : Nat → Prop} {r : RV} {s : Sx} {p n : Nat} (h : r = ⟨s, p, n, 0⟩) {w w' : World} (v : SV) (hr : RdI (fun k => ok k ∨ w.heap.size ≤ k) w' v s) (hb : Below w.heap.size w w') :
    RP ok r w (.returned (.agg #[.bool v.l, .bool v.h, .slice v.a1 v.n1 v.c1, .slice v.a2 v.n2 v.c2, .slice v.a3 v.n3 v.c3, .int .i64 p, .int .i64 n, .int .i64 0])) w' := by
  subst h
  exact ⟨v, rfl, hr, hb⟩
theorem byte_ne {a : UInt8} {k : Nat} (h : a.toNat ≠ k) : ((a.toNat : Int) == (k : Int)) = false ∧ ((a.toNat : Int) != (k : Int)) = true := by
  have h1 : ((a.toNat : Int) == (k : Int)) = false := beq_eq_false_iff_ne.2 (fun e => h (Int.ofNat.inj e))
  exact ⟨h1, by rw [bne, h1]; rfl⟩
theorem byte_eq {a : UInt8} {k : Nat} (h : a.toNat = k) : ((a.toNat : Int) == (k : Int)) = true ∧ ((a.toNat : Int) != (k : Int)) = false := by
  have h1 : ((a.toNat : Int) == (k : Int)) = true := beq_iff_eq.2 (by rw [h])
  exact ⟨h1, by rw [bne, h1]; rfl⟩
theorem nat_ne {a : Nat} (h : a ≠ 0) : ((a : Int) == 0) = false ∧ ((a : Int) != 0) = true := by
  have h1 : ((a : Int) == 0) = false := beq_eq_false_iff_ne.2 (by omega)
  exact ⟨h1, by rw [bne, h1]; rfl⟩
theorem rBytes_place {l b : List UInt8} {p q e : Nat} (h : rBytes l p = (b, q, e)) (hp : p ≤ l.length) : q ≤ l.length := (rBytes_err h hp).1
theorem rd_atomI {ok : Nat → Prop} {w : World} {a : Option Addr} {n c : Nat} {l : List UInt8} (h : Sl w a n c l) (hi : InB ok a n) : RdI ok w ⟨false, false, none, 0, 0, a, n, c, none, 0, 0⟩ (.mk false false [] l []) :=
  .mk _ [] l [] (fun _ => SV.nil) (Sl.nil w) (.inl rfl) h hi ⟨Nat.le_refl _, Nat.zero_le _, fun _ => rfl, .inl rfl⟩ (.inl rfl) rfl (fun i hi => by cases hi)
theorem rd_hint {ok : Nat → Prop} {w : World} {a1 a2 : Option Addr} {n1 c1 n2 c2 : Nat} {l1 l2 : List UInt8} (h : Sl w a1 n1 c1 l1) (h2 : Sl w a2 n2 c2 l2) (hi : InB ok a1 n1) (hi2 : InB ok a2 n2) : RdI ok w ⟨false, true, a1, n1, c1, a2, n2, c2, none, 0, 0⟩ (.mk false true l1 l2 []) :=
  .mk _ l1 l2 [] (fun _ => SV.nil) h hi h2 hi2 ⟨Nat.le_refl _, Nat.zero_le _, fun _ => rfl, .inl rfl⟩ (.inl rfl) rfl (fun i hi => by cases hi)

end Go.Proofs.YtigopfeamjhdpaaDoor
namespace Go.Proofs.YtigopfeamjhdpaaDoor
open Go.RowKit
set_option linter.unusedSimpArgs false
set_option linter.unusedVariables false

/-- a reading's outcome is handed back -/
def RS (ok : Nat → Prop) (l : List UInt8) (p lv m : Nat) (w : World) (e : Ending) (w' : World) : Prop := ∃ r, St l none p lv m r ∧ RP ok r w e w'
/-- what a value in the row may lead to: not to the row itself -/
def okK (ok : Nat → Prop) (g : Nat) (vt : Value) : Nat → Prop := fun k => (ok k ∨ g < k) ∧ vt.ownBlock ≠ some k

theorem bEq {a : UInt8} (k : Nat) (z : Int) (hz : z = (k : Int)) (h : a.toNat = k) : ((a.toNat : Int) == z) = true ∧ ((a.toNat : Int) != z) = false ∧ (a.toNat : Int) = z := by
  subst hz
  exact ⟨(byte_eq h).1, (byte_eq h).2, by rw [h]⟩
theorem bNe {a : UInt8} (k : Nat) (z : Int) (hz : z = (k : Int)) (h : a.toNat ≠ k) : ((a.toNat : Int) == z) = false ∧ ((a.toNat : Int) != z) = true ∧ ¬ (a.toNat : Int) = z := by
  subst hz
  exact ⟨(byte_ne h).1, (byte_ne h).2, by omega⟩
theorem St_place {l : List UInt8} {p lv n : Nat} {r : RV} (h : St l none p lv n r) (he : r.e = 0) (hlv : lv ≤ 17) (hn : n ≤ 512) : p < r.p ∧ r.p ≤ l.length ∧ r.n ≤ 512 ∧ n < r.n := by
  obtain ⟨h1, h2, h3, h4, h5, h6, h7⟩ := St_ok h he hlv hn
  have := nodes_pos r.v
  have hpos : 0 < r.v.form.length := by
    obtain ⟨c, t, e, _⟩ := form_head r.v []
    rw [List.append_nil] at e
    rw [e]; simp
  exact ⟨by omega, h3, h6, by omega⟩
theorem St_err {l : List UInt8} {m : Option (List Sx)} {p lv n : Nat} {r : RV} (h : St l m p lv n r) : r.e ≤ 5 ∧ (p ≤ l.length → r.p ≤ l.length) := by
  induction h with
  | short | bad | long => simp [RV.err]; try omega
  | @atom p lv n h1 h2 h3 h4 =>
    unfold rAtom
    split
    · obtain ⟨⟨b1, q1, e1⟩, hr1⟩ : ∃ x, x = rBytes l (p + 1) := ⟨_, rfl⟩
      have k1 := rBytes_err hr1.symm (by omega)
      simp only [← hr1]
      split
      · simp only [RV.err]; exact ⟨by omega, fun _ => k1.1⟩
      · split
        · simp [RV.err]
        · split
          · simp only [RV.err]; exact ⟨by omega, fun _ => k1.1⟩
          · obtain ⟨⟨b2, q2, e2⟩, hr2⟩ : ∃ x, x = rBytes l (q1 + 1) := ⟨_, rfl⟩
            have k2 := rBytes_err hr2.symm (by omega)
            simp only [← hr2]
            split
            · simp only [RV.err]; exact ⟨by omega, fun _ => k2.1⟩
            · exact ⟨by simp, fun _ => k2.1⟩
    · obtain ⟨⟨b1, q1, e1⟩, hr1⟩ : ∃ x, x = rBytes l p := ⟨_, rfl⟩
      have k1 := rBytes_err hr1.symm (by omega)
      simp only [← hr1]
      split
      · simp only [RV.err]; exact ⟨by omega, fun _ => k1.1⟩
      · exact ⟨by simp, fun _ => k1.1⟩
  | list h1 h2 h3 h4 _ ih => exact ⟨ih.1, fun _ => ih.2 (by omega)⟩
  | close h1 h2 => exact ⟨by simp, fun _ => by simp only []; omega⟩
  | fail _ _ _ ih => exact ih
  | more _ _ _ _ ih1 ih2 => exact ⟨ih2.1, fun h => ih2.2 (ih1.2 h)⟩

theorem Box.range {w : World} {g : Nat} {T : TypeId} {cs : Array Value} (h : Box w g T cs) (o : Nat) (xs : List Value) (hx : ∀ j u, xs[j]? = some u → cs[o + j]? = some u) : w.rangeAt g o xs := fun j u hu => h.cell (o + j) (hx j u hu)
theorem newsK_snoc (K : Nat → SV) (n : Nat) (v : SV) : newsK K n ++ newsK (fun _ => v) 1 = newsK (fun i => if i = n then v else K i) (n + 1) := by
  have e : newsK (fun i => if i = n then v else K i) n = newsK K n := newsK_congr fun i h => if_neg (by omega)
  show newsK K n ++ ([] ++ v.cells.toList) = newsK _ n ++ (if n = n then v else K n).cells.toList
  rw [e, if_pos rfl, List.nil_append]
theorem src_one (w : World) (v : SV) : Src Tryd.prog 5 25 (.slice (some ⟨w.heap.size, 0, none⟩) 1 1) 1 (newsK (fun _ => v) 1) (w.alloc (.cells v.cells 27)) := by
  refine Src.ofSlice _ Tryd.underlying25 _ 1 1 _ (newsK_len _ 1) (fun j u hu => ?_) (newsK_one _ 1)
  rw [Addr.add_mid]
  refine (Box.new w 27 v.cells).cell (0 + j) ?_
  rw [Nat.zero_add]
  simpa [newsK] using hu
theorem kids_more {ok : Nat → Prop} {g B G al : Nat} {own v' : Value} {u w2 : World} {K : Nat → SV} {acc : List Sx} {v : SV} {rv : Sx} (hal : al = acc.length)
    (hK : ∀ i (hi : i < acc.length), RdI (okK ok g own) u (K i) acc[i]) (hR : RdI (fun k => (ok k ∨ B ≤ k) ∧ k < G) u v rv)
    (hok : ∀ k, ok k → k < g) (hB : g < B) (hown : ∀ k, own.ownBlock = some k → g < k ∧ k < B)
    (hg : u.grownBy w2 own.ownBlock) (hw : ∀ k, v'.ownBlock = some k → own.ownBlock = some k ∨ u.heap.size ≤ k) (x : Value) :
    ∀ i (hi : i < (acc ++ [rv]).length), RdI (okK ok g v') (w2.setCell ⟨g, 4, none⟩ x) (if i = al then v else K i) (acc ++ [rv])[i] := by
  have key : ∀ {p : Nat → Prop} {v0 : SV} {s0 : Sx}, RdI p u v0 s0 → (∀ k, p k → (ok k ∨ g < k) ∧ own.ownBlock ≠ some k) → RdI (okK ok g v') (w2.setCell ⟨g, 4, none⟩ x) v0 s0 := by
    intro p v0 s0 h hp
    refine (h.there.keep (fun k hk => ?_)).mono (fun k hk => ⟨(hp k hk.1).1, fun e => ?_⟩)
    · obtain ⟨h1, h2⟩ := hp k hk.1
      have hne : k ≠ g := by
        rcases h1 with h1 | h1
        · exact Nat.ne_of_lt (hok k h1)
        · omega
      exact (heap_setCell_other _ _ _ _ hne).trans (hg.block k hk.2 (fun e => h2 e.symm))
    · rcases hw k e with e | e
      · exact (hp k hk.1).2 e
      · exact absurd hk.2 (by omega)
  intro i hi
  by_cases hia : i = al
  · rw [if_pos hia]
    have e : (acc ++ [rv])[i] = rv := by
      subst hia hal
      simp
    rw [e]
    refine key hR (fun k hk => ⟨hk.1.imp id (fun h => by omega), fun e => ?_⟩)
    have h1 := hown k e
    rcases hk.1 with h2 | h2
    · have := hok k h2; omega
    · omega
  · rw [if_neg hia]
    have hlt : i < acc.length := by simp at hi; omega
    rw [List.getElem_append_left hlt]
    exact key (hK i hlt) (fun k hk => hk)

end Go.Proofs.YtigopfeamjhdpaaDoor
namespace Go.Proofs.YtigopfeamjhdpaaDoor
open Go.RowKit
set_option linter.unusedSimpArgs false
set_option linter.unusedVariables false

/-- what Get answers: a value, a place, an error -/
def Got (l : List UInt8) (s : Sx) (p e : Nat) : Prop :=
  (4096 < l.length ∧ s = Sx.nil ∧ p = 4096 ∧ e = 4) ∨ (l.length ≤ 4096 ∧ ∃ r, St l none 0 1 0 r ∧ ((r.e ≠ 0 ∧ s = Sx.nil ∧ p = r.p ∧ e = r.e) ∨ (r.e = 0 ∧ r.p < l.length ∧ s = Sx.nil ∧ p = r.p ∧ e = 5) ∨ (r.e = 0 ∧ l.length ≤ r.p ∧ s = r.v ∧ p = 0 ∧ e = 0)))
theorem Got.det {l : List UInt8} {s s' : Sx} {p p' e e' : Nat} (h : Got l s p e) (h' : Got l s' p' e') : s = s' ∧ p = p' ∧ e = e' := by
  rcases h with ⟨h1, h2, h3, h4⟩ | ⟨h1, r, hr, h2⟩
  · rcases h' with ⟨_, h2', h3', h4'⟩ | ⟨h1', _⟩
    · exact ⟨h2.trans h2'.symm, h3.trans h3'.symm, h4.trans h4'.symm⟩
    · omega
  · rcases h' with ⟨h1', _⟩ | ⟨_, r', hr', h2'⟩
    · omega
    · obtain rfl := hr.det hr'
      rcases h2 with ⟨a, b, c, d⟩ | ⟨a, a', b, c, d⟩ | ⟨a, a', b, c, d⟩ <;> rcases h2' with ⟨a1, b1, c1, d1⟩ | ⟨a1, a2, b1, c1, d1⟩ | ⟨a1, a2, b1, c1, d1⟩ <;>
        first | exact ⟨b.trans b1.symm, c.trans c1.symm, d.trans d1.symm⟩ | (exfalso; omega)
def GetP (ok : Nat → Prop) (l : List UInt8) (w : World) (e : Ending) (w' : World) : Prop :=
  ∃ (v : SV) (s : Sx) (p x : Nat), Got l s p x ∧ e = .returned (.tuple #[.agg #[.bool v.l, .bool v.h, .slice v.a1 v.n1 v.c1, .slice v.a2 v.n2 v.c2, .slice v.a3 v.n3 v.c3], .int .i64 p, .int .i64 x]) ∧ RdI (fun k => ok k ∨ w.heap.size ≤ k) w' v s ∧ Below w.heap.size w w'
theorem box_result22 {P : Program} {fn : Func} {p q r : Tmp} {ty : TypeId} (h : fn.results = #[.cell p ty, .tmp q, .tmp r]) (tmps : Array Value) (w : World) {g : Nat} {T : TypeId} {cs : Array Value} {d : TypeDesc}
    (hp : tmps.getD p undef = .pointer (some ⟨g, 0, none⟩)) (hg : Box w g T cs) (hu : P.underlying ty = some d) (hd : (match d with | .struct _ | .array _ _ => true | _ => false) = true) (hi : (P.info? ty).map (·.size) = some cs.size) :
    (results fn tmps).run P w = .ok (.tuple #[.agg cs, tmps.getD q undef, tmps.getD r undef]) w := by
  have hp' : tmps[p]?.getD undef = .pointer (some ⟨g, 0, none⟩) := by simpa using hp
  simp [results, h, hp', asAddr, run_loadVar_row w g T ty cs (0, 0) d hg hu hd hi]

end Go.Proofs.YtigopfeamjhdpaaDoor

/- Rows of slices of bytes: sources and targets of appends; a row turned round. Dates: plain numbers. strings.Builder: what its writing methods do to a builder that the call itself has made. Dates: what the small functions compute. date.put, date.Put: what they compute. date.Clock, date.Get: what they compute. Dates: what a date's text says; texts stand as their numbers. date.Get: what it computes. the document's dates: two, Days, ahead: what they compute. the document's Clock and Get: what they compute. The document's May of principals and of windows. Windows and lists of canceled ones in plain words: the text of a date, the trees that are put, what the document reads. Windows put: the program's end, Put. Lists with a row of the call's own; what is canceled, put: the program's sums. Lists of canceled ones in plain words: the tree that is put, what the program takes out of a value, what the document reads. A list of canceled ones put: the program's crl.Put, crl.May. -/
import Derived.Test.YthmigigclmogiaaDoorSuG4
import Derived.Test.YthmigigclmogiaaDoorRows
import Derived.Test.YthmigigclmogiaaDoorShelf
import Derived.WalkKit
import Derived.Handy
import Derived.Lib.Hide
import Derived.Lib.Strings
import Derived.Lib.Builder
import Derived.Lib.AppendStr
import Derived.Laws.Externs
import Derived.Deep.QuietTactic
import Derived.BigQuiet
import Derived.WalkLawsBesides
import Derived.WalkSmall
import Derived.Laws.Strings
import Derived.Deep.CutRange
namespace Go.Proofs.YthmigigclmogiaaDoor
open Go.RowKit
set_option linter.unusedSimpArgs false
set_option linter.unusedVariables false

theorem infoSl : (Tryd.prog.info? 22).map (fun i => (i.zero, i.size, i.bytes)) = some (some (.slice none 0 0), 1, 24) := by kernel_rfl
/-- 'append(out, l...)' of slices of bytes -/
theorem wp_append_Z {o : Oper} {a : Act} {w : World} {B n : Nat} {v : Value} {xs : List Value} {K : Act → World → Prop} {Q : Exit → Act → World → Prop} (s x : Operand)
    (ho : o.op = .call { callee := .builtin .append, args := #[s, x], argTypes := #[25, 25] })
    (hs : a.eval s = v) (h : OwnG w B 1 v n xs) {m : Nat} {news : List Value} {xv : Value} (hx : a.eval x = xv) (hsrc : Src Tryd.prog 1 25 xv m news w) (hn : n + m ≤ 1000000) (hB : B ≤ w.heap.size)
    (hk : ∀ v' w', OwnG w' B 1 v' (n + m) (xs ++ news) → w.grownBy w' v.ownBlock → (∀ k, v'.ownBlock = some k → v.ownBlock = some k ∨ w.heap.size ≤ k) → K (a.put o.dst v') w') : o.wp Tryd.prog a w K Q := by
  obtain ⟨i0, hi, hi2⟩ := Option.map_eq_some_iff.1 infoSl
  simp only [Prod.mk.injEq] at hi2
  obtain ⟨hz0, hz1, hz2⟩ := hi2
  exact wp_append_G s x 25 25 ho 22 i0 (.slice none 0 0) 24 Tryd.underlying25 hi hz0 hz1 hz2 rfl (by decide) hs h _ hx m news hsrc (by unfold maxLen; omega) (by omega) hB hk

/-- m values of a row from the k-th on -/
def vZ (Z : Nat → S3) (k m : Nat) : List Value := (List.range m).map fun i => (Z (k + i)).val
theorem vZ_len (Z : Nat → S3) (k m : Nat) : (vZ Z k m).length = m := by simp [vZ]
theorem vZ_get (Z : Nat → S3) (k m i : Nat) (h : i < m) : (vZ Z k m)[i]? = some (Z (k + i)).val := by simp [vZ, h]
theorem RowS.src {w : World} {b o n c : Nat} {Z : Nat → S3} {ls : List (List UInt8)} (h : RowS w (some ⟨b, o, none⟩) n c Z ls) (k m cc : Nat) (hk : k + m ≤ n) : Src Tryd.prog 1 25 (.slice (some ⟨b, o + k, none⟩) m cc) m (vZ Z k m) w := by
  refine Src.ofSlice _ Tryd.underlying25 ⟨b, o + k, none⟩ m cc _ (by rw [vZ_len]; omega) (fun j u hu => ?_) (fun u hu => ?_)
  · have hj : j < m := by rw [← vZ_len Z k m]; exact (List.getElem?_eq_some_iff.1 hu).1
    rw [vZ_get Z k m j hj] at hu
    obtain rfl := Option.some.inj hu
    rw [Addr.add_mid]
    obtain ⟨b', o', e, hc⟩ := h.cell (i := k + j) (by omega)
    cases e
    rw [Nat.add_assoc]
    exact hc
  · obtain ⟨i, _, rfl⟩ := List.mem_map.1 hu
    rfl
theorem OwnG.rowS {w : World} {B n : Nat} {v : Value} {xs : List Value} (h : OwnG w B 1 v n xs) (Z : Nat → S3) (ls : List (List UInt8)) (hx : ∀ i, i < n → xs[i]? = some (Z i).val) (hn : n = ls.length)
    (hs : ∀ i (hi : i < ls.length), Sl w (Z i).a (Z i).n (Z i).c ls[i]) : ∃ a c, v = .slice a n c ∧ RowS w a n c Z ls := by
  rcases h.2 with ⟨rfl, rfl⟩ | ⟨g, o, cap, rfl, h3, h4, h5, h6, h7, h8⟩
  · exact ⟨none, 0, rfl, Nat.le_refl _, Nat.zero_le _, fun _ => rfl, hn, .inl rfl, hs⟩
  · exact ⟨_, _, rfl, h5, h6, (fun h => by cases h), hn, .inr ⟨g, o, rfl, fun i hi => h8 i _ (hx i hi)⟩, hs⟩

/-- the row turned by k, and its k-th value once more -/
def zT (Z : Nat → S3) (n k i : Nat) : S3 := if i < n - k then Z (k + i) else if i < n then Z (i - (n - k)) else Z k
def lT (ls : List (List UInt8)) (k : Nat) : List (List UInt8) := ls.drop k ++ (ls.take k ++ [ls.getD k []])
theorem xs_get (Z : Nat → S3) (n k : Nat) (hk : k < n) (i : Nat) (hi : i < n - k + k + 1) : (([] ++ vZ Z k (n - k)) ++ vZ Z 0 k ++ vZ Z k 1)[i]? = some (zT Z n k i).val := by
  rw [List.nil_append, List.append_assoc]
  unfold zT
  by_cases h1 : i < n - k
  · rw [List.getElem?_append_left (by rw [vZ_len]; exact h1), vZ_get _ _ _ _ h1, if_pos h1]
  · rw [List.getElem?_append_right (by rw [vZ_len]; omega), vZ_len, if_neg h1]
    by_cases h2 : i < n
    · rw [List.getElem?_append_left (by rw [vZ_len]; omega), vZ_get _ _ _ _ (by omega), if_pos h2, Nat.zero_add]
    · rw [List.getElem?_append_right (by rw [vZ_len]; omega), vZ_len, if_neg h2, vZ_get _ _ _ _ (by omega), show k + (i - (n - k) - k) = k by omega]
theorem lT_len (ls : List (List UInt8)) (k : Nat) (h : k < ls.length) : (lT ls k).length = ls.length - k + k + 1 := by
  simp [lT]
  omega
theorem lT_get (ls : List (List UInt8)) (k : Nat) (h : k < ls.length) (i : Nat) (hi : i < (lT ls k).length) : ∃ j, ∃ hj : j < ls.length, (lT ls k)[i] = ls[j] ∧ ∀ Z, zT Z ls.length k i = Z j := by
  have hlen := lT_len ls k h
  by_cases h1 : i < ls.length - k
  · refine ⟨k + i, by omega, ?_, fun Z => by unfold zT; rw [if_pos h1]⟩
    simp only [lT]
    rw [List.getElem_append_left (by simp; omega), List.getElem_drop]
  · by_cases h2 : i < ls.length
    · refine ⟨i - (ls.length - k), by omega, ?_, fun Z => by unfold zT; rw [if_neg h1, if_pos h2]⟩
      simp only [lT]
      rw [List.getElem_append_right (by simp; omega), List.getElem_append_left (by simp; omega), List.getElem_take]
      simp
    · refine ⟨k, h, ?_, fun Z => by unfold zT; rw [if_neg h1, if_neg h2]⟩
      simp only [lT]
      rw [List.getElem_append_right (by simp; omega), List.getElem_append_right (by simp; omega)]
      simp [List.getD, List.getElem?_eq_getElem h]
theorem lT_any (p : List UInt8 → Bool) (ls : List (List UInt8)) (k : Nat) (h : k < ls.length) : (lT ls k).any p = ls.any p := by
  have e : ls.getD k [] = ls[k] := by simp [List.getD, List.getElem?_eq_getElem h]
  unfold lT
  rw [e, Bool.eq_iff_iff]
  simp only [List.any_append, List.any_cons, List.any_nil, Bool.or_false, Bool.or_eq_true]
  constructor
  · rintro (h1 | h1 | h1)
    · obtain ⟨x, hx, hp⟩ := List.any_eq_true.1 h1
      exact List.any_eq_true.2 ⟨x, List.mem_of_mem_drop hx, hp⟩
    · obtain ⟨x, hx, hp⟩ := List.any_eq_true.1 h1
      exact List.any_eq_true.2 ⟨x, List.mem_of_mem_take hx, hp⟩
    · exact List.any_eq_true.2 ⟨_, List.getElem_mem h, h1⟩
  · intro h1
    rw [← List.take_append_drop k ls, List.any_append, Bool.or_eq_true] at h1
    rcases h1 with h1 | h1
    · exact .inr (.inl h1)
    · exact .inl h1
theorem RowS.turned {w : World} {B : Nat} {v : Value} {a : Option Addr} {n c : Nat} {Z : Nat → S3} {ls : List (List UInt8)} (hr : RowS w a n c Z ls) (k : Nat) (hk : k < n) (h : OwnG w B 1 v (0 + (n - k) + k + 1) (([] ++ vZ Z k (n - k)) ++ vZ Z 0 k ++ vZ Z k 1)) :
    ∃ a' c', v = .slice a' (0 + (n - k) + k + 1) c' ∧ RowS w a' (0 + (n - k) + k + 1) c' (zT Z n k) (lT ls k) := by
  obtain ⟨h1, h2, h3, h4, h5, h6⟩ := hr
  subst h4
  refine OwnG.rowS h (zT Z ls.length k) (lT ls k) (fun i hi => xs_get Z _ k hk i (by omega)) (by rw [lT_len ls k hk]; omega) (fun i hi => ?_)
  obtain ⟨j, hj, e1, e2⟩ := lT_get ls k hk i hi
  rw [e1, e2]
  exact h6 j hj
end Go.Proofs.YthmigigclmogiaaDoor
namespace Go.Proofs.YthmigigclmogiaaDoor

/-- is a year long? -/
def lpB (y : Int) : Bool := decide (y % 4 = 0 ∧ (y % 100 ≠ 0 ∨ y % 400 = 0))
def lp (y : Int) : Int := if lpB y then 1 else 0
/-- days of a month -/
def dim (y m : Int) : Int := if m = 2 then 28 + lp y else if m = 4 ∨ m = 6 ∨ m = 9 ∨ m = 11 then 30 else 31
/-- days ahead of a year -/
def dby (y : Int) : Int := 365 * y + (y + 3) / 4 - (y + 99) / 100 + (y + 399) / 400
/-- days ahead of a month -/
def cum (y : Int) : Nat → Int
  | 0 => 0
  | 1 => 0
  | m + 2 => cum y (m + 1) + dim y ((m : Int) + 1)

theorem lp_01 (y : Int) : 0 ≤ lp y ∧ lp y ≤ 1 := by unfold lp; split <;> omega
theorem dim_bd (y m : Int) : 28 ≤ dim y m ∧ dim y m ≤ 31 := by
  have := lp_01 y
  unfold dim; repeat' split
  all_goals omega
theorem lp_one (y : Int) (h : y % 4 = 0 ∧ (y % 100 ≠ 0 ∨ y % 400 = 0)) : lp y = 1 := by
  have : lpB y = true := decide_eq_true h
  simp [lp, this]
theorem lp_zero (y : Int) (h : ¬ (y % 4 = 0 ∧ (y % 100 ≠ 0 ∨ y % 400 = 0))) : lp y = 0 := by
  have : lpB y = false := decide_eq_false h
  simp [lp, this]
theorem dby_succ (y : Int) : dby (y + 1) = dby y + 365 + lp y := by
  by_cases h4 : y % 4 = 0 ∧ (y % 100 ≠ 0 ∨ y % 400 = 0)
  · rw [lp_one y h4]; unfold dby; omega
  · rw [lp_zero y h4]; unfold dby; omega
theorem dby_four (q : Int) : dby (400 * q) = 146097 * q := by unfold dby; omega
theorem dby_zero : dby 0 = 0 := by decide
theorem dby_bd (y : Int) (h : 0 ≤ y) (h2 : y ≤ 10001) : 0 ≤ dby y ∧ dby y ≤ 3652791 := by unfold dby; omega
theorem dby_max : dby 10000 = 3652425 := by decide
theorem dby_pos (y : Int) : dby y = y * 365 + ((y - 1) / 4 - (y - 1) / 100 + (y - 1) / 400 + 1) := by unfold dby; omega
theorem cum_succ (y : Int) (m : Nat) (h : 1 ≤ m) : cum y (m + 1) = cum y m + dim y m := by
  obtain ⟨k, rfl⟩ : ∃ k, m = k + 1 := ⟨m - 1, by omega⟩
  rw [cum]; simp
theorem cum_bd (y : Int) (m : Nat) : 0 ≤ cum y m ∧ cum y m ≤ 31 * m := by
  induction m with
  | zero => simp [cum]
  | succ k ih =>
    by_cases hk : 1 ≤ k
    · rw [cum_succ y k hk]; have := dim_bd y k; omega
    · obtain rfl : k = 0 := by omega
      simp [cum]
theorem cum_13 (y : Int) : cum y 13 = 365 + lp y := by
  simp [cum, dim]; omega

/-- a digit? -/
def isD_XDateMath (c : UInt8) : Bool := decide (48 ≤ c.toNat ∧ c.toNat ≤ 57)
def dg (c : UInt8) : Nat := c.toNat - 48
theorem isD_iff (c : UInt8) : isD_XDateMath c = true ↔ 48 ≤ c.toNat ∧ c.toNat ≤ 57 := by simp [isD_XDateMath]
theorem isD_not (c : UInt8) : isD_XDateMath c = false ↔ c.toNat < 48 ∨ 57 < c.toNat := by rw [← Bool.not_eq_true, isD_iff]; omega
def two2 (a b : UInt8) : Nat := 10 * dg a + dg b

/-- A text of a clock's time. -/
def clockOk : List UInt8 → Bool
  | [a, b, p, c, d, q, e, f] => isD_XDateMath a && isD_XDateMath b && (p == 58) && isD_XDateMath c && isD_XDateMath d && (q == 58) && isD_XDateMath e && isD_XDateMath f && decide (two2 a b ≤ 23 ∧ two2 c d ≤ 59 ∧ two2 e f ≤ 59)
  | _ => false
def clockN : List UInt8 → Int
  | [a, b, _, c, d, _, e, f] => 3600 * two2 a b + 60 * two2 c d + two2 e f
  | _ => 0
def clockV (l : List UInt8) : Int := if clockOk l then clockN l else 0
/-- A text of a date. -/
def dateOk : List UInt8 → Bool
  | y1 :: y2 :: y3 :: y4 :: p :: m1 :: m2 :: q :: d1 :: d2 :: r :: t => isD_XDateMath y1 && isD_XDateMath y2 && isD_XDateMath y3 && isD_XDateMath y4 && (p == 45) && isD_XDateMath m1 && isD_XDateMath m2 && (q == 45) && isD_XDateMath d1 && isD_XDateMath d2 && (r == 95) && clockOk t &&
      decide (1 ≤ two2 m1 m2 ∧ two2 m1 m2 ≤ 12 ∧ 1 ≤ two2 d1 d2 ∧ (two2 d1 d2 : Int) ≤ dim (100 * two2 y1 y2 + two2 y3 y4 : Nat) (two2 m1 m2 : Nat))
  | _ => false
def dateN : List UInt8 → Int
  | y1 :: y2 :: y3 :: y4 :: _ :: m1 :: m2 :: _ :: d1 :: d2 :: _ :: t => (dby (100 * two2 y1 y2 + two2 y3 y4 : Nat) + ((two2 d1 d2 : Nat) - 1 : Int) + cum (100 * two2 y1 y2 + two2 y3 y4 : Nat) (two2 m1 m2)) * 86400 + clockN t
  | _ => 0
def dateV (l : List UInt8) : Int := if dateOk l then dateN l else 0

/-- the value of digits -/
def digN (l : List UInt8) : Nat := l.foldl (fun n c => 10 * n + dg c) 0
theorem digN_snoc (l : List UInt8) (c : UInt8) : digN (l ++ [c]) = 10 * digN l + dg c := by simp [digN]

/-- does a text fit a form? noughts stand for digits -/
def fitsC (c f : UInt8) : Bool := if f = 48 then isD_XDateMath c else c == f
def fitsL : List UInt8 → List UInt8 → Bool
  | [], [] => true
  | c :: l, f :: r => fitsC c f && fitsL l r
  | _, _ => false
theorem fitsL_len (l r : List UInt8) (h : l.length ≠ r.length) : fitsL l r = false := by
  induction l generalizing r with
  | nil => cases r <;> simp_all [fitsL]
  | cons c l ih => cases r with
    | nil => rfl
    | cons f r => simp [fitsL, ih r (by simpa using h)]
theorem fitsL_drop (l r : List UInt8) (k : Nat) (h1 : k < l.length) (h2 : k < r.length) : fitsL (l.drop k) (r.drop k) = (fitsC (l.getD k 0) (r.getD k 0) && fitsL (l.drop (k + 1)) (r.drop (k + 1))) := by
  rw [List.drop_eq_getElem_cons h1, List.drop_eq_getElem_cons h2]
  simp [fitsL, List.getD_eq_getElem?_getD, h1, h2]
end Go.Proofs.YthmigigclmogiaaDoor
namespace Go.Proofs.YthmigigclmogiaaDoor
open Go.RowKit

theorem bldInfo5 : (Tryd.prog.info? 5).map (fun i => (i.zero, i.size, i.bytes)) = some (some (.int .u8 0), 1, 1) := by kernel_rfl
end Go.Proofs.YthmigigclmogiaaDoor
namespace Go.Proofs.YthmigigclmogiaaDoor
open Go.RowKit

theorem Sl_some_XDate1 {w : World} {a : Option Addr} {len cap : Nat} {l : List UInt8} (h : Sl w a len cap l) (hl : 0 < len) : ∃ b o, a = Option.some ⟨b, o, none⟩ ∧ (∀ i, i < len → w.cell? ⟨b, o + i, none⟩ = Option.some (.int .u8 ((l.getD i 0).toNat : Int))) ∧ b < w.heap.size := by
  have hlt := h.lt
  rcases h.2.2.2.2 with h4 | ⟨b, o, rfl, h4⟩
  · omega
  · exact ⟨b, o, rfl, h4, hlt b o (by omega) rfl⟩
theorem Sl.len_le {w : World} {a : Option Addr} {len cap : Nat} {l : List UInt8} (h : Sl w a len cap l) : l.length ≤ 9223372036854775807 := by
  have h1 := h.1
  have h2 := h.2.1
  have h3 := h.2.2.1
  unfold maxLen at h3
  omega
theorem Sl.sub {w : World} {b o len cap : Nat} {l : List UInt8} (h : Sl w (Option.some ⟨b, o, none⟩) len cap l) (i j : Nat) (hij : i ≤ j) (hj : j ≤ len) :
    Sl w (Option.some ⟨b, o + i, none⟩) (j - i) (cap - i) ((l.drop i).take (j - i)) := by
  obtain ⟨h1, h2, h3, h5, h4⟩ := h
  refine ⟨by simp; omega, by omega, by omega, (fun h => by cases h), ?_⟩
  by_cases h0 : j - i = 0
  · exact .inl h0
  · right
    rcases h4 with h4 | ⟨b', o', e, h4⟩
    · omega
    · obtain ⟨rfl, rfl⟩ : b = b' ∧ o = o' := by simpa using e
      refine ⟨b, o + i, rfl, fun k hk => ?_⟩
      rw [Nat.add_assoc, h4 (i + k) (by omega)]
      simp [List.getD_eq_getElem?_getD, hk]

end Go.Proofs.YthmigigclmogiaaDoor
namespace Go.Proofs.YthmigigclmogiaaDoor
open Go.RowKit

def digC (n s : Nat) : UInt8 := UInt8.ofNat (48 + n / 10 ^ s % 10)
def decTo (n w k : Nat) : List UInt8 := (List.range k).map fun i => digC n (w - 1 - i)
theorem decTo_succ (n w k : Nat) : decTo n w (k + 1) = decTo n w k ++ [digC n (w - 1 - k)] := by simp [decTo, List.range_succ]
theorem decTo_len (n w k : Nat) : (decTo n w k).length = k := by simp [decTo]
theorem strCells_eq (s : ByteArray) : Lib.strCells s = Lib.byteCells s.data.toList := by simp [Lib.strCells, Lib.byteCells]

/-- A date's text. -/
def fmtD (y m d r : Nat) : List UInt8 := decTo y 4 4 ++ [45] ++ decTo m 2 2 ++ [45] ++ decTo d 2 2 ++ [95] ++ decTo (r / 3600) 2 2 ++ [58] ++ decTo (r / 60 % 60) 2 2 ++ [58] ++ decTo (r % 60) 2 2
/-- What Put hands back. -/
def PutPost (n : Int) (B : Nat) (w : World) (e : Ending) (w' : World) : Prop :=
  ∃ y m d r : Nat, e = .returned (.tuple #[.string ⟨(fmtD y m d r).toArray⟩, .bool true]) ∧ y ≤ 9999 ∧ 1 ≤ m ∧ m ≤ 12 ∧ 1 ≤ d ∧ (d : Int) ≤ dim y m ∧ r < 86400 ∧
    n = (dby y + ((d : Int) - 1) + cum y m) * 86400 + r ∧ Below B w w'

theorem dby_366 (x : Int) (h : 0 ≤ x) : dby (x / 366) ≤ x := by unfold dby; omega
theorem dby_step (a : Int) : dby a + 365 ≤ dby (a + 1) := by have := dby_succ a; have := lp_01 a; omega
theorem dby_mono (a b : Int) (h : a ≤ b) : dby a ≤ dby b := by unfold dby; omega

end Go.Proofs.YthmigigclmogiaaDoor
namespace Go.Proofs.YthmigigclmogiaaDoor
open Go.RowKit

theorem Sl.drewN {w : World} {a : Option Addr} {len cap : Nat} {l : List UInt8} (h : Sl w a len cap l) (n : Nat) : Sl (w.drewN n) a len cap l := h

def clockF : List UInt8 := [48, 48, 58, 48, 48, 58, 48, 48]
def dateF : List UInt8 := [48, 48, 48, 48, 45, 48, 48, 45, 48, 48, 95, 48, 48, 58, 48, 48, 58, 48, 48]
theorem fitsL_length (l r : List UInt8) (h : fitsL l r = true) : l.length = r.length := by
  rcases Nat.decEq l.length r.length with hne | he
  · rw [fitsL_len l r hne] at h; cases h
  · exact he
theorem clockB : ((⟨#[48, 48, 48, 48, 45, 48, 48, 45, 48, 48, 95, 48, 48, 58, 48, 48, 58, 48, 48]⟩ : ByteArray).extract 11 19).data.toList = clockF := by decide
theorem dateB : (⟨#[48, 48, 48, 48, 45, 48, 48, 45, 48, 48, 95, 48, 48, 58, 48, 48, 58, 48, 48]⟩ : ByteArray).data.toList = dateF := rfl
theorem fits_clock (l : List UInt8) (h : fitsL l clockF = true) : ∃ a b c d e f, l = [a, b, 58, c, d, 58, e, f] ∧ isD_XDateMath a = true ∧ isD_XDateMath b = true ∧ isD_XDateMath c = true ∧ isD_XDateMath d = true ∧ isD_XDateMath e = true ∧ isD_XDateMath f = true := by
  have hl := fitsL_length l _ h
  unfold clockF at h hl
  match l, hl, h with
  | [a, b, p, c, d, q, e, f], _, h =>
    simp [fitsL, fitsC] at h
    obtain ⟨h1, h2, h3, h4, h5, h6, h7, h8⟩ := h
    subst h3 h6
    exact ⟨a, b, c, d, e, f, rfl, h1, h2, h4, h5, h7, h8⟩
theorem fits_clock_not (l : List UInt8) (h : fitsL l clockF = false) : clockOk l = false := by
  unfold clockF at h
  unfold clockOk
  split
  · rename_i a b p c d q e f
    simp [fitsL, fitsC] at h ⊢
    intro h1 h2 h3 h4 h5 h6 h7 h8
    have := h h1 h2 h3 h4 h5 h6 h7
    rw [h8] at this
    cases this
  · rfl
theorem fits_date (l : List UInt8) (h : fitsL l dateF = true) : ∃ y1 y2 y3 y4 m1 m2 d1 d2 t, l = y1 :: y2 :: y3 :: y4 :: 45 :: m1 :: m2 :: 45 :: d1 :: d2 :: 95 :: t ∧ isD_XDateMath y1 = true ∧ isD_XDateMath y2 = true ∧ isD_XDateMath y3 = true ∧ isD_XDateMath y4 = true ∧ isD_XDateMath m1 = true ∧ isD_XDateMath m2 = true ∧ isD_XDateMath d1 = true ∧ isD_XDateMath d2 = true ∧ fitsL t clockF = true := by
  have hl := fitsL_length l _ h
  unfold dateF at h hl
  match l, hl, h with
  | y1 :: y2 :: y3 :: y4 :: p :: m1 :: m2 :: q :: d1 :: d2 :: r :: t, _, h =>
    simp only [fitsL, Bool.and_eq_true] at h
    obtain ⟨h1, h2, h3, h4, h5, h6, h7, h8, h9, h10, h11, h12⟩ := h
    simp [fitsC] at h1 h2 h3 h4 h5 h6 h7 h8 h9 h10 h11
    subst h5 h8 h11
    exact ⟨y1, y2, y3, y4, m1, m2, d1, d2, t, rfl, h1, h2, h3, h4, h6, h7, h9, h10, h12⟩
theorem clockOk_fits (t : List UInt8) (h : clockOk t = true) : fitsL t clockF = true := by
  cases hf : fitsL t clockF with
  | true => rfl
  | false => rw [fits_clock_not t hf] at h; cases h
theorem fits_date_not (l : List UInt8) (h : fitsL l dateF = false) : dateOk l = false := by
  unfold dateF at h
  unfold dateOk
  split
  · rename_i y1 y2 y3 y4 p m1 m2 q d1 d2 r t
    cases hc : clockOk t with
    | false => simp
    | true =>
      have hf := clockOk_fits t hc
      unfold clockF at hf
      simp [fitsL, fitsC, hf] at h ⊢
      intro h1 h2 h3 h4 h5 h6 h7 h8 h9 h10 h11
      exact absurd h11 (h h1 h2 h3 h4 h5 h6 h7 h8 h9 h10)
  · rfl
theorem digN_two (a b : UInt8) : digN [a, b] = two2 a b := by simp [digN, two2]
theorem digN_four (a b c d : UInt8) : digN [a, b, c, d] = 100 * two2 a b + two2 c d := by simp [digN, two2]; omega
theorem two2_lt (a b : UInt8) (ha : isD_XDateMath a = true) (hb : isD_XDateMath b = true) : two2 a b ≤ 99 := by
  have h1 := (isD_iff a).1 ha
  have h2 := (isD_iff b).1 hb
  unfold two2 dg; omega

end Go.Proofs.YthmigigclmogiaaDoor
namespace Go.Proofs.YthmigigclmogiaaDoor

theorem digC_isD (n s : Nat) : isD_XDateMath (digC n s) = true := by
  rw [isD_iff]; unfold digC; simp; omega
theorem dg_digC (n s : Nat) : dg (digC n s) = n / 10 ^ s % 10 := by
  unfold dg digC; simp; omega
theorem digC_of (c : UInt8) (h : isD_XDateMath c = true) (n s : Nat) (hn : n / 10 ^ s % 10 = dg c) : digC n s = c := by
  have := (isD_iff c).1 h
  apply UInt8.toNat_inj.1
  unfold digC; rw [hn]; unfold dg; simp; omega
theorem fmtD_eq (y m d r : Nat) : fmtD y m d r = [digC y 3, digC y 2, digC y 1, digC y 0, 45, digC m 1, digC m 0, 45, digC d 1, digC d 0, 95, digC (r / 3600) 1, digC (r / 3600) 0, 58, digC (r / 60 % 60) 1, digC (r / 60 % 60) 0, 58, digC (r % 60) 1, digC (r % 60) 0] := rfl

/-- the fields of a date -/
def Fld (l : List UInt8) (y m d r : Nat) : Prop :=
  l = fmtD y m d r ∧ y ≤ 9999 ∧ 1 ≤ m ∧ m ≤ 12 ∧ 1 ≤ d ∧ (d : Int) ≤ dim y m ∧ r < 86400

theorem two2_dig2 (n : Nat) (h : n ≤ 99) : two2 (digC n 1) (digC n 0) = n := by unfold two2; rw [dg_digC, dg_digC]; simp; omega
theorem clock_fmt (r : Nat) (h : r < 86400) : clockOk [digC (r / 3600) 1, digC (r / 3600) 0, 58, digC (r / 60 % 60) 1, digC (r / 60 % 60) 0, 58, digC (r % 60) 1, digC (r % 60) 0] = true ∧
    clockN [digC (r / 3600) 1, digC (r / 3600) 0, 58, digC (r / 60 % 60) 1, digC (r / 60 % 60) 0, 58, digC (r % 60) 1, digC (r % 60) 0] = r := by
  have h1 := two2_dig2 (r / 3600) (by omega)
  have h2 := two2_dig2 (r / 60 % 60) (by omega)
  have h3 := two2_dig2 (r % 60) (by omega)
  constructor
  · simp only [clockOk, digC_isD, h1, h2, h3]; simp; omega
  · simp only [clockN, h1, h2, h3]; omega
theorem date_fmt (y m d r : Nat) (h : Fld (fmtD y m d r) y m d r) : dateOk (fmtD y m d r) = true ∧ dateN (fmtD y m d r) = (dby y + ((d : Int) - 1) + cum y m) * 86400 + r := by
  obtain ⟨_, hy, hm1, hm2, hd1, hd2, hr⟩ := h
  have dd := dim_bd y m
  obtain ⟨c1, c2⟩ := clock_fmt r hr
  have e1 : 100 * two2 (digC y 3) (digC y 2) + two2 (digC y 1) (digC y 0) = y := by
    unfold two2; simp only [dg_digC]; simp; omega
  have e2 := two2_dig2 m (by omega)
  have e3 := two2_dig2 d (by omega)
  rw [fmtD_eq]
  constructor
  · simp only [dateOk, digC_isD, e1, e2, e3, c1]; simp; omega
  · simp only [dateN, e1, e2, e3, c2]
theorem clock_of (t : List UInt8) (h : clockOk t = true) : ∃ r, r < 86400 ∧ t = [digC (r / 3600) 1, digC (r / 3600) 0, 58, digC (r / 60 % 60) 1, digC (r / 60 % 60) 0, 58, digC (r % 60) 1, digC (r % 60) 0] ∧ clockN t = r := by
  obtain ⟨a, b, c, d, e, f, rfl, i1, i2, i3, i4, i5, i6⟩ := fits_clock t (clockOk_fits t h)
  simp [clockOk] at h
  have d1 := (isD_iff a).1 i1
  have d2 := (isD_iff b).1 i2
  have d3 := (isD_iff c).1 i3
  have d4 := (isD_iff d).1 i4
  have d5 := (isD_iff e).1 i5
  have d6 := (isD_iff f).1 i6
  refine ⟨3600 * two2 a b + 60 * two2 c d + two2 e f, by omega, ?_, by simp [clockN]⟩
  have w1 : (3600 * two2 a b + 60 * two2 c d + two2 e f) / 3600 = two2 a b := by omega
  have w2 : (3600 * two2 a b + 60 * two2 c d + two2 e f) / 60 % 60 = two2 c d := by omega
  have w3 : (3600 * two2 a b + 60 * two2 c d + two2 e f) % 60 = two2 e f := by omega
  rw [w1, w2, w3]
  rw [digC_of a i1 _ _ (by unfold two2 dg; simp; omega), digC_of b i2 _ _ (by unfold two2 dg; simp; omega), digC_of c i3 _ _ (by unfold two2 dg; simp; omega), digC_of d i4 _ _ (by unfold two2 dg; simp; omega), digC_of e i5 _ _ (by unfold two2 dg; simp; omega), digC_of f i6 _ _ (by unfold two2 dg; simp; omega)]
theorem date_of (l : List UInt8) (h : dateOk l = true) : ∃ y m d r, Fld l y m d r ∧ dateV l = (dby (y : Nat) + ((d : Nat) - 1 : Int) + cum (y : Nat) m) * 86400 + (r : Nat) := by
  have hf : fitsL l dateF = true := by
    cases hf : fitsL l dateF with
    | true => rfl
    | false => rw [fits_date_not l hf] at h; cases h
  obtain ⟨y1, y2, y3, y4, m1, m2, d1, d2, t, rfl, i1, i2, i3, i4, i5, i6, i7, i8, _⟩ := fits_date l hf
  have hv : dateV (y1 :: y2 :: y3 :: y4 :: 45 :: m1 :: m2 :: 45 :: d1 :: d2 :: 95 :: t) = dateN (y1 :: y2 :: y3 :: y4 :: 45 :: m1 :: m2 :: 45 :: d1 :: d2 :: 95 :: t) := by unfold dateV; rw [if_pos h]
  simp [dateOk, i1, i2, i3, i4, i5, i6, i7, i8] at h
  obtain ⟨hc, h1, h2, h3, h4⟩ := h
  obtain ⟨r, hr, ht, hn⟩ := clock_of t hc
  have k1 := (isD_iff y1).1 i1
  have k2 := (isD_iff y2).1 i2
  have k3 := (isD_iff y3).1 i3
  have k4 := (isD_iff y4).1 i4
  have k5 := (isD_iff m1).1 i5
  have k6 := (isD_iff m2).1 i6
  have k7 := (isD_iff d1).1 i7
  have k8 := (isD_iff d2).1 i8
  refine ⟨100 * two2 y1 y2 + two2 y3 y4, two2 m1 m2, two2 d1 d2, r, ⟨?_, by unfold two2 dg; omega, h1, h2, h3, by simpa using h4, hr⟩, ?_⟩
  · rw [fmtD_eq, ht]
    rw [digC_of y1 i1 (100 * two2 y1 y2 + two2 y3 y4) 3 (by unfold two2 dg; simp; omega),
      digC_of y2 i2 (100 * two2 y1 y2 + two2 y3 y4) 2 (by unfold two2 dg; simp; omega),
      digC_of y3 i3 (100 * two2 y1 y2 + two2 y3 y4) 1 (by unfold two2 dg; simp; omega),
      digC_of y4 i4 (100 * two2 y1 y2 + two2 y3 y4) 0 (by unfold two2 dg; simp; omega),
      digC_of m1 i5 (two2 m1 m2) 1 (by unfold two2 dg; simp; omega),
      digC_of m2 i6 (two2 m1 m2) 0 (by unfold two2 dg; simp; omega),
      digC_of d1 i7 (two2 d1 d2) 1 (by unfold two2 dg; simp; omega),
      digC_of d2 i8 (two2 d1 d2) 0 (by unfold two2 dg; simp; omega)]
  · rw [hv]; simp only [dateN, hn]
def numD (y m d r : Nat) : Int := (dby y + ((d : Int) - 1) + cum y m) * 86400 + r
theorem cum_le (y : Int) (m : Nat) (h : m ≤ 13) : cum y m + (if m = 13 then 0 else dim y m) ≤ 365 + lp y ∨ m = 0 := by
  have c := cum_13 y
  rcases Nat.eq_zero_or_pos m with h0 | h0
  · exact .inr h0
  · left
    have key : ∀ k, k + m = 13 → cum y m + (if m = 13 then 0 else dim y m) ≤ cum y 13 := by
      intro k
      induction k generalizing m with
      | zero => intro hk; obtain rfl : m = 13 := by omega
                simp
      | succ k ih =>
        intro hk
        have hs := cum_succ y m h0
        rw [if_neg (by omega), ← hs]
        have := ih (m + 1) (by omega) (by omega) (by omega)
        have hd := dim_bd y (m + 1 : Nat)
        split at this <;> omega
    have := key (13 - m) (by omega)
    omega
theorem numD_year (y m d r y' m' d' r' : Nat) (hm2 : m ≤ 12) (hm : 1 ≤ m) (hd2 : (d : Int) ≤ dim y m) (hr : r < 86400) (hd' : 1 ≤ d') (h : y < y') : numD y m d r < numD y' m' d' r' := by
  have h1 := cum_le y m (by omega)
  rw [if_neg (by omega)] at h1
  have h2 := dby_succ y
  have h3 := dby_mono (y + 1) y' (by omega)
  have h4 := (cum_bd y' m').1
  unfold numD; omega
theorem cum_mono (y : Int) (m m' : Nat) (hm : 1 ≤ m) (h : m < m') : cum y m + dim y m ≤ cum y m' := by
  induction m' with
  | zero => omega
  | succ k ih =>
    rcases Nat.lt_or_ge m k with hk | hk
    · have := ih hk
      have hs := cum_succ y k (by omega)
      have hd := dim_bd y k
      omega
    · obtain rfl : m = k := by omega
      rw [cum_succ y m hm]; omega
theorem numD_month (y m d r m' d' r' : Nat) (hm : 1 ≤ m) (hd2 : (d : Int) ≤ dim y m) (hr : r < 86400) (hd' : 1 ≤ d') (h : m < m') : numD y m d r < numD y m' d' r' := by
  have h1 := cum_mono y m m' hm h
  unfold numD; omega
theorem numD_day (y m d r d' r' : Nat) (hr : r < 86400) (h : d < d') : numD y m d r < numD y m d' r' := by
  unfold numD; omega
theorem numD_inj (l l' : List UInt8) (y m d r y' m' d' r' : Nat) (h : Fld l y m d r) (h' : Fld l' y' m' d' r') (e : numD y m d r = numD y' m' d' r') : y = y' ∧ m = m' ∧ d = d' ∧ r = r' := by
  obtain ⟨_, a1, a2, a3, a4, a5, a6⟩ := h
  obtain ⟨_, b1, b2, b3, b4, b5, b6⟩ := h'
  rcases Nat.lt_trichotomy y y' with hy | rfl | hy
  · have := numD_year y m d r y' m' d' r' a3 a2 a5 a6 b4 hy; omega
  · rcases Nat.lt_trichotomy m m' with hm | rfl | hm
    · have := numD_month y m d r m' d' r' a2 a5 a6 b4 hm; omega
    · rcases Nat.lt_trichotomy d d' with hd | rfl | hd
      · have := numD_day y m d r d' r' a6 hd; omega
      · exact ⟨rfl, rfl, rfl, by unfold numD at e; omega⟩
      · have := numD_day y m d' r' d r b6 hd; omega
    · have := numD_month y m' d' r' m d r b2 b5 b6 a4 hm; omega
  · have := numD_year y' m' d' r' y m d r b3 b2 b5 b6 a4 hy; omega

theorem digC_nat (n s : Nat) : (digC n s).toNat = 48 + n / 10 ^ s % 10 := by unfold digC; simp; omega
theorem digC_lt (n s n' s' : Nat) : (decide (digC n s < digC n' s')) = decide (n / 10 ^ s % 10 < n' / 10 ^ s' % 10) := by
  rw [Bool.eq_iff_iff]; simp only [decide_eq_true_eq, UInt8.lt_iff_toNat_lt, digC_nat]; omega
theorem digC_beq (n s n' s' : Nat) : (digC n s == digC n' s') = decide (n / 10 ^ s % 10 = n' / 10 ^ s' % 10) := by
  rw [Bool.eq_iff_iff]; simp only [beq_iff_eq, decide_eq_true_eq, ← UInt8.toNat_inj, digC_nat]; omega
theorem less_two (n n' : Nat) (s s' : List UInt8) (h : n ≤ 99) (h' : n' ≤ 99) : Op.bytesLess (digC n 1 :: digC n 0 :: s) (digC n' 1 :: digC n' 0 :: s') = (decide (n < n') || (decide (n = n') && Op.bytesLess s s')) := by
  simp only [Op.bytesLess, digC_lt, digC_beq]
  cases Op.bytesLess s s' <;> (rw [Bool.eq_iff_iff]; simp; omega)
theorem less_four (n n' : Nat) (s s' : List UInt8) (h : n ≤ 9999) (h' : n' ≤ 9999) : Op.bytesLess (digC n 3 :: digC n 2 :: digC n 1 :: digC n 0 :: s) (digC n' 3 :: digC n' 2 :: digC n' 1 :: digC n' 0 :: s') = (decide (n < n') || (decide (n = n') && Op.bytesLess s s')) := by
  simp only [Op.bytesLess, digC_lt, digC_beq]
  obtain ⟨a, ha⟩ : ∃ a, a = n / 10 ^ 3 % 10 := ⟨_, rfl⟩
  obtain ⟨b, hb⟩ : ∃ a, a = n / 10 ^ 2 % 10 := ⟨_, rfl⟩
  obtain ⟨c, hc⟩ : ∃ a, a = n / 10 ^ 1 % 10 := ⟨_, rfl⟩
  obtain ⟨d, hd⟩ : ∃ a, a = n / 10 ^ 0 % 10 := ⟨_, rfl⟩
  obtain ⟨a', ha'⟩ : ∃ a, a = n' / 10 ^ 3 % 10 := ⟨_, rfl⟩
  obtain ⟨b', hb'⟩ : ∃ a, a = n' / 10 ^ 2 % 10 := ⟨_, rfl⟩
  obtain ⟨c', hc'⟩ : ∃ a, a = n' / 10 ^ 1 % 10 := ⟨_, rfl⟩
  obtain ⟨d', hd'⟩ : ∃ a, a = n' / 10 ^ 0 % 10 := ⟨_, rfl⟩
  rw [← ha, ← hb, ← hc, ← hd, ← ha', ← hb', ← hc', ← hd']
  have e : n = 1000 * a + 100 * b + 10 * c + d := by simp at ha hb hc hd; omega
  have e' : n' = 1000 * a' + 100 * b' + 10 * c' + d' := by simp at ha' hb' hc' hd'; omega
  have l1 : a ≤ 9 ∧ b ≤ 9 ∧ c ≤ 9 ∧ d ≤ 9 := by omega
  have l2 : a' ≤ 9 ∧ b' ≤ 9 ∧ c' ≤ 9 ∧ d' ≤ 9 := by omega
  clear ha hb hc hd ha' hb' hc' hd' h h'
  subst e e'
  cases Op.bytesLess s s' <;> (rw [Bool.eq_iff_iff]; simp; omega)
theorem less_same (c : UInt8) (s s' : List UInt8) : Op.bytesLess (c :: s) (c :: s') = Op.bytesLess s s' := by simp [Op.bytesLess]
theorem less_fmt (l l' : List UInt8) (y m d r y' m' d' r' : Nat) (h : Fld l y m d r) (h' : Fld l' y' m' d' r') : Op.bytesLess l l' = decide (numD y m d r < numD y' m' d' r') := by
  have HH := h
  have HH' := h'
  obtain ⟨rfl, a1, a2, a3, a4, a5, a6⟩ := h
  obtain ⟨rfl, b1, b2, b3, b4, b5, b6⟩ := h'
  have da := dim_bd y m
  have db := dim_bd y' m'
  rw [fmtD_eq, fmtD_eq, less_four _ _ _ _ a1 b1, less_same, less_two _ _ _ _ (by omega) (by omega), less_same, less_two _ _ _ _ (by omega) (by omega), less_same,
    less_two _ _ _ _ (by omega) (by omega), less_same, less_two _ _ _ _ (by omega) (by omega), less_same, less_two _ _ _ _ (by omega) (by omega)]
  have hnil : Op.bytesLess [] [] = false := rfl
  rw [hnil]
  have ht : (decide (r / 3600 < r' / 3600) || (decide (r / 3600 = r' / 3600) && (decide (r / 60 % 60 < r' / 60 % 60) || (decide (r / 60 % 60 = r' / 60 % 60) && (decide (r % 60 < r' % 60) || (decide (r % 60 = r' % 60) && false)))))) = decide (r < r') := by
    rw [Bool.eq_iff_iff]; simp; omega
  rw [ht]
  rw [Bool.eq_iff_iff]
  simp only [Bool.or_eq_true, Bool.and_eq_true, decide_eq_true_eq]
  rcases Nat.lt_trichotomy y y' with hy | rfl | hy
  · have := numD_year y m d r y' m' d' r' a3 a2 a5 a6 b4 hy
    simp [this, hy]
  · rcases Nat.lt_trichotomy m m' with hm | rfl | hm
    · have := numD_month y m d r m' d' r' a2 a5 a6 b4 hm
      simp [this, hm]
    · rcases Nat.lt_trichotomy d d' with hd | rfl | hd
      · have := numD_day y m d r d' r' a6 hd
        simp [this, hd]
      · have : numD y m d r < numD y m d r' ↔ r < r' := by unfold numD; omega
        simp [this]
      · have := numD_day y m d' r' d r b6 hd
        have h2 : ¬ numD y m d r < numD y m d' r' := by omega
        simp [h2]; omega
    · have := numD_month y m' d' r' m d r b2 b5 b6 a4 hm
      have h2 : ¬ numD y m d r < numD y m' d' r' := by omega
      simp [h2]; omega
  · have := numD_year y' m' d' r' y m d r b3 b2 b5 b6 a4 hy
    have h2 : ¬ numD y m d r < numD y' m' d' r' := by omega
    simp [h2]; omega
theorem drop_fmt (y m d r : Nat) : (fmtD y m d r).drop 11 = [digC (r / 3600) 1, digC (r / 3600) 0, 58, digC (r / 60 % 60) 1, digC (r / 60 % 60) 0, 58, digC (r % 60) 1, digC (r % 60) 0] := rfl
end Go.Proofs.YthmigigclmogiaaDoor
namespace Go.Proofs.YthmigigclmogiaaDoor
open Go.RowKit

end Go.Proofs.YthmigigclmogiaaDoor
namespace Go.Proofs.YthmigigclmogiaaDoor
open Go.RowKit

def twoB (a b : UInt8) : Bool := isD_XDateMath a && isD_XDateMath b
def twoV (a b : UInt8) : Int := if twoB a b then (two2 a b : Nat) else 0

end Go.Proofs.YthmigigclmogiaaDoor
namespace Go.Proofs.YthmigigclmogiaaDoor
open Go.RowKit

theorem clockOk_len (l : List UInt8) (h : l.length ≠ 8) : clockOk l = false := by
  unfold clockOk
  split
  · simp at h
  · rfl
theorem dateOk_len (l : List UInt8) (h : l.length ≠ 19) : dateOk l = false := by
  unfold dateOk
  split
  · rename_i t
    rw [clockOk_len t (by intro ht; apply h; simp [ht])]
    simp
  · rfl
theorem twoV_le (a b : UInt8) : 0 ≤ twoV a b ∧ twoV a b ≤ 99 := by
  unfold twoV
  cases h : twoB a b with
  | false => simp
  | true =>
    rw [if_pos rfl]
    have h1 : isD_XDateMath a = true ∧ isD_XDateMath b = true := by simpa [twoB] using h
    have := two2_lt a b h1.1 h1.2
    omega
theorem twoV_true (a b : UInt8) (h : twoB a b = true) : twoV a b = (two2 a b : Nat) := by unfold twoV; rw [if_pos h]

end Go.Proofs.YthmigigclmogiaaDoor
namespace Go.Proofs.YthmigigclmogiaaDoor
open Go.RowKit
set_option linter.unusedSimpArgs false
set_option linter.unusedVariables false

end Go.Proofs.YthmigigclmogiaaDoor
namespace Go.Proofs.YthmigigclmogiaaDoor
open Go.RowKit
set_option linter.unusedSimpArgs false
set_option linter.unusedVariables false

theorem year_of (t : Int) (h0 : 0 ≤ t) : ∃ y : Nat, dby y ≤ t ∧ t < dby ((y : Int) + 1) := by
  have : ∀ k : Nat, t < dby k → ∃ y : Nat, dby y ≤ t ∧ t < dby ((y : Int) + 1) := by
    intro k
    induction k with
    | zero => intro h; rw [show ((0 : Nat) : Int) = 0 from rfl, dby_zero] at h; omega
    | succ k ih =>
      intro h
      by_cases h' : t < dby k
      · exact ih h'
      · exact ⟨k, by omega, by simpa using h⟩
  refine this (t.toNat + 1) ?_
  unfold dby
  omega
theorem month_of (y x : Int) (h0 : 0 ≤ x) (h : x < cum y 13) : ∃ m : Nat, 1 ≤ m ∧ m ≤ 12 ∧ cum y m ≤ x ∧ x < cum y (m + 1) := by
  have : ∀ k : Nat, 1 ≤ k → k ≤ 13 → x < cum y k → ∃ m : Nat, 1 ≤ m ∧ m ≤ 12 ∧ cum y m ≤ x ∧ x < cum y (m + 1) := by
    intro k
    induction k with
    | zero => intro h; omega
    | succ k ih =>
      intro h1 h2 h3
      by_cases hk : k = 0
      · subst hk
        rw [show cum y (0 + 1) = 0 from rfl] at h3
        omega
      · by_cases h' : x < cum y k
        · exact ih (by omega) (by omega) h'
        · exact ⟨k, by omega, by omega, by omega, h3⟩
  exact this 13 (by omega) (by omega) h
/-- each number within the bounds has a date -/
theorem date_there (n : Int) (h0 : 0 ≤ n) (h1 : n < 315569520000) : ∃ l, dateOk l = true ∧ dateV l = n := by
  obtain ⟨y, hy1, hy2⟩ := year_of (n / 86400) (by omega)
  have hd := dby_succ y
  obtain ⟨m, hm1, hm2, hm3, hm4⟩ := month_of y (n / 86400 - dby y) (by omega) (by rw [cum_13]; omega)
  rw [cum_succ _ _ hm1] at hm4
  have hy : y ≤ 9999 := by
    by_cases h : y ≤ 9999
    · exact h
    · have := dby_mono 10000 y (by omega)
      rw [dby_max] at this
      omega
  have hF : Fld (fmtD y m (n / 86400 - dby y - cum y m + 1).toNat (n % 86400).toNat) y m (n / 86400 - dby y - cum y m + 1).toNat (n % 86400).toNat :=
    ⟨rfl, hy, hm1, hm2, by omega, by omega, by omega⟩
  obtain ⟨e1, e2⟩ := date_fmt _ _ _ _ hF
  refine ⟨_, e1, ?_⟩
  unfold dateV
  rw [if_pos e1, e2]
  omega
theorem date_one {l l' : List UInt8} (h : dateOk l = true) (h' : dateOk l' = true) (e : dateV l = dateV l') : l = l' := by
  obtain ⟨y, m, d, r, hF, e1⟩ := date_of l h
  obtain ⟨y', m', d', r', hF', e1'⟩ := date_of l' h'
  obtain ⟨rfl, rfl, rfl, rfl⟩ := numD_inj l l' y m d r y' m' d' r' hF hF' (by unfold numD; rw [← e1, ← e1', e])
  rw [hF.1, hF'.1]
theorem dateV_range {l : List UInt8} (h : dateOk l = true) : 0 ≤ dateV l ∧ dateV l < 315569520000 := by
  obtain ⟨y, m, d, r, hF, e1⟩ := date_of l h
  obtain ⟨_, h1, h2, h3, h4, h5, h6⟩ := hF
  have hb := dby_bd y (by omega) (by omega)
  have hc := cum_bd y m
  have hs := dby_succ y
  have hm := dby_mono ((y : Int) + 1) 10000 (by omega)
  rw [dby_max] at hm
  have h13 : cum y m + dim y m ≤ 365 + lp y := by
    rcases cum_le y m (by omega) with h | h
    · rw [if_neg (by omega)] at h
      exact h
    · omega
  omega
/-- the text of a number's date -/
noncomputable def dateL (n : Int) : List UInt8 := open Classical in if h : ∃ l, dateOk l = true ∧ dateV l = n then h.choose else []
theorem dateL_ok (n : Int) (h0 : 0 ≤ n) (h1 : n < 315569520000) : dateOk (dateL n) = true ∧ dateV (dateL n) = n := by
  have h := date_there n h0 h1
  unfold dateL
  rw [dif_pos h]
  exact h.choose_spec
theorem dateL_of {l : List UInt8} (h : dateOk l = true) : dateL (dateV l) = l := by
  have hr := dateV_range h
  have := dateL_ok (dateV l) hr.1 hr.2
  exact date_one this.1 h this.2
theorem dateL_len (n : Int) (h0 : 0 ≤ n) (h1 : n < 315569520000) : (dateL n).length = 19 := by
  have := (dateL_ok n h0 h1).1
  by_cases h : (dateL n).length = 19
  · exact h
  · rw [dateOk_len _ h] at this
    cases this

/-- an atom; a list -/
def at1 (l : List UInt8) : Sx := .mk false false [] l []
def li (ks : List Sx) : Sx := .mk true false [] [] ks
def atomB (k : Sx) (l : List UInt8) : Bool := !k.l && (!k.h && (k.da == l))
def headL (s : Sx) (l : List UInt8) : Bool := s.l && (match s.ks with | [] => false | k :: _ => atomB k l)
theorem headB_eq (s : Sx) (t : ByteArray) (l : List UInt8) (h : t.toList = l) : headB s t = headL s l := by
  subst h
  unfold headB headL
  cases s.ks <;> rfl
theorem isB_eq (s : Sx) (t : ByteArray) (l : List UInt8) (h : t.toList = l) : isB s t = atomB s l := by
  subst h
  rfl
theorem atomB_clean {k : Sx} {l : List UInt8} (hc : k.clean = true) (h : atomB k l = true) : k = at1 l := by
  obtain ⟨a, b, c, d, ks⟩ := k
  obtain ⟨h1, h2, h3⟩ := clean_parts hc
  simp only [atomB, Sx.l, Sx.h, Sx.da, Bool.and_eq_true, Bool.not_eq_true', beq_iff_eq] at h
  obtain ⟨rfl, rfl, rfl⟩ := h
  obtain ⟨rfl, h5⟩ := h2 rfl
  rw [h5 rfl]
  rfl
theorem headL_clean {s : Sx} {l : List UInt8} (hc : s.clean = true) (h : headL s l = true) : ∃ r, s = li (at1 l :: r) ∧ ∀ k ∈ r, k.clean = true := by
  obtain ⟨a, b, c, d, ks⟩ := s
  obtain ⟨h1, h2, h3⟩ := clean_parts hc
  cases ks with
  | nil => simp [headL, Sx.ks] at h
  | cons k r =>
    simp only [headL, Sx.l, Sx.ks, Bool.and_eq_true] at h
    obtain ⟨rfl, h⟩ := h
    obtain ⟨rfl, rfl, rfl⟩ := h1 rfl
    rw [atomB_clean (h3 k (by simp)) h]
    exact ⟨r, rfl, fun k hk => h3 k (by simp [hk])⟩
theorem headL_li (l : List UInt8) (r : List Sx) (l' : List UInt8) : headL (li (at1 l :: r)) l' = (l == l') := by simp [headL, li, at1, atomB, Sx.l, Sx.h, Sx.da, Sx.ks]
theorem atomB_at1 (l l' : List UInt8) : atomB (at1 l) l' = (l == l') := by simp [atomB, at1, Sx.l, Sx.h, Sx.da]

structure W4 where
  p : Bool
  f : Int
  q : Bool
  t : Int
def W4.may (x : W4) : Bool := winMay x.p x.f x.q x.t
def W4.nil : W4 := ⟨false, 0, false, 0⟩
def nbL : List UInt8 := [110, 111, 116, 45, 98, 101, 102, 111, 114, 101]
def naL : List UInt8 := [110, 111, 116, 45, 97, 102, 116, 101, 114]
def vaL : List UInt8 := [118, 97, 108, 105, 100]
noncomputable def endS (w : List UInt8) (n : Int) : Sx := li [at1 w, at1 (dateL n)]
noncomputable def winS (x : W4) : Sx := li (at1 vaL :: ((if x.p then [endS nbL x.f] else []) ++ (if x.q then [endS naL x.t] else [])))

/-- what the program takes for a window: each part of two values tells an end -/
def winStep (x : W4) (k : Sx) : W4 :=
  match k.ks with
  | [a, b] => if a.da = nbL then ⟨dateOk b.da, dateV b.da, x.q, x.t⟩ else if a.da = naL then ⟨x.p, x.f, dateOk b.da, dateV b.da⟩ else x
  | _ => x
def winFold (s : Sx) : W4 := s.ks.tail.foldl winStep W4.nil
noncomputable def winGet (s : Sx) : Option W4 := if (winFold s).may && (winS (winFold s)).same s then some (winFold s) else none

theorem winMay_iff (x : W4) : x.may = true ↔ ((x.p = true ∧ 0 ≤ x.f ∧ x.f < 315569520000) ∨ (x.p = false ∧ x.f = 0)) ∧ ((x.q = true ∧ 0 ≤ x.t ∧ x.t < 315569520000) ∨ (x.q = false ∧ x.t = 0)) := by
  obtain ⟨p, f, q, t⟩ := x
  unfold W4.may winMay sideB
  cases p <;> cases q <;> simp
theorem step_end_nb (x : W4) (n : Int) (h0 : 0 ≤ n) (h1 : n < 315569520000) : winStep x (endS nbL n) = ⟨true, n, x.q, x.t⟩ := by
  obtain ⟨e1, e2⟩ := dateL_ok n h0 h1
  simp only [winStep, endS, li, at1, Sx.ks, Sx.da, if_true, e1, e2]
theorem step_end_na (x : W4) (n : Int) (h0 : 0 ≤ n) (h1 : n < 315569520000) : winStep x (endS naL n) = ⟨x.p, x.f, true, n⟩ := by
  obtain ⟨e1, e2⟩ := dateL_ok n h0 h1
  simp only [winStep, endS, li, at1, Sx.ks, Sx.da, if_true, e1, e2]
  rw [if_neg (by decide)]
theorem winFold_winS (x : W4) (h : x.may = true) : winFold (winS x) = x := by
  have hm := (winMay_iff x).1 h
  obtain ⟨p, f, q, t⟩ := x
  dsimp only at hm
  unfold winFold winS
  simp only [li, Sx.ks, List.tail_cons]
  obtain ⟨h1, h2⟩ := hm
  rcases h1 with ⟨rfl, h1, h1'⟩ | ⟨rfl, rfl⟩ <;> rcases h2 with ⟨rfl, h2, h2'⟩ | ⟨rfl, rfl⟩ <;>
    simp [W4.nil, step_end_nb, step_end_na, *]
theorem winGet_iff (s : Sx) (x : W4) : winGet s = some x ↔ x.may = true ∧ s = winS x := by
  unfold winGet
  constructor
  · intro h
    split at h
    · rename_i hc
      rw [Bool.and_eq_true] at hc
      cases h
      exact ⟨hc.1, ((Sx.same_iff _ _).1 hc.2).symm⟩
    · cases h
  · rintro ⟨h1, rfl⟩
    rw [winFold_winS x h1, if_pos (by rw [h1, Sx.same_refl]; rfl)]
theorem winS_inj {x y : W4} (hx : x.may = true) (hy : y.may = true) (h : winS x = winS y) : x = y := by
  have h1 := (winGet_iff (winS x) x).2 ⟨hx, rfl⟩
  rw [(winGet_iff (winS x) y).2 ⟨hy, h⟩] at h1
  exact (Option.some.inj h1).symm

/-- an end, as the document reads it -/
def endB (k : Sx) (w : List UInt8) : Bool := headL k w && (match k.ks with | [_, x] => !x.l && (!x.h && dateOk x.da) | _ => false)
def endN (k : Sx) (w : List UInt8) : Int := if endB k w then (match k.ks with | [_, x] => dateV x.da | _ => 0) else 0
/-- an end that may stand ahead -/
def endTake (l : List Sx) (w : List UInt8) : Bool × Int × List Sx := match l with
  | [] => (false, 0, [])
  | k :: r => if endB k w then (true, endN k w, r) else (false, 0, k :: r)
def refWin (s : Sx) : Option W4 :=
  if headL s vaL then
    let x := endTake s.ks.tail nbL
    let y := endTake x.2.2 naL
    match y.2.2 with
    | [] => some ⟨x.1, x.2.1, y.1, y.2.1⟩
    | _ => none
  else none
theorem endB_clean {k : Sx} {w : List UInt8} (hc : k.clean = true) (h : endB k w = true) : k = endS w (endN k w) ∧ 0 ≤ endN k w ∧ endN k w < 315569520000 := by
  have h' := h
  unfold endB at h
  rw [Bool.and_eq_true] at h
  obtain ⟨r, rfl, hr⟩ := headL_clean hc h.1
  have h2 := h.2
  unfold endN
  rw [if_pos h']
  rcases r with _ | ⟨x, _ | ⟨y, r⟩⟩
  · simp [li, Sx.ks] at h2
  · simp only [li, Sx.ks, Bool.and_eq_true, Bool.not_eq_true'] at h2 ⊢
    obtain ⟨h3, h4, h5⟩ := h2
    have hx : x = at1 x.da := atomB_clean (hr x (by simp)) (by simp [atomB, h3, h4])
    refine ⟨?_, dateV_range h5⟩
    unfold endS
    rw [dateL_of h5, ← hx]
    rfl
  · simp [li, Sx.ks] at h2
theorem endB_endS (w : List UInt8) (n : Int) (h0 : 0 ≤ n) (h1 : n < 315569520000) : endB (endS w n) w = true ∧ endN (endS w n) w = n := by
  obtain ⟨e1, e2⟩ := dateL_ok n h0 h1
  have h : endB (endS w n) w = true := by
    unfold endB endS
    rw [headL_li]
    simp [li, at1, Sx.ks, Sx.l, Sx.h, Sx.da, e1]
  refine ⟨h, ?_⟩
  unfold endN
  rw [if_pos h]
  exact e2
theorem endB_not (n : Int) : endB (endS naL n) nbL = false := by
  unfold endB endS
  rw [headL_li]
  rfl
theorem refWin_iff (s : Sx) (hc : s.clean = true) (x : W4) : refWin s = some x ↔ x.may = true ∧ s = winS x := by
  constructor
  · intro h
    unfold refWin at h
    split at h
    · rename_i hh
      obtain ⟨r, rfl, hr⟩ := headL_clean hc hh
      simp only [li, Sx.ks, List.tail_cons] at h
      have key : ∀ (w : List UInt8) (l : List Sx), (∀ k ∈ l, k.clean = true) → l = (if (endTake l w).1 then [endS w (endTake l w).2.1] else []) ++ (endTake l w).2.2 ∧ (∀ k ∈ (endTake l w).2.2, k.clean = true) ∧
          (((endTake l w).1 = true ∧ 0 ≤ (endTake l w).2.1 ∧ (endTake l w).2.1 < 315569520000) ∨ ((endTake l w).1 = false ∧ (endTake l w).2.1 = 0)) := by
        intro w l hl
        cases l with
        | nil => exact ⟨rfl, (fun k hk => by cases hk), .inr ⟨rfl, rfl⟩⟩
        | cons k t =>
          unfold endTake
          by_cases hk : endB k w = true
          · obtain ⟨e1, e2, e3⟩ := endB_clean (hl k (by simp)) hk
            simp only [hk, if_true]
            exact ⟨by rw [← e1]; rfl, fun k hk => hl k (by simp [hk]), .inl ⟨by trivial, e2, e3⟩⟩
          · rw [Bool.not_eq_true] at hk
            simp only [hk, Bool.false_eq_true, if_false]
            exact ⟨rfl, hl, .inr ⟨by trivial, by trivial⟩⟩
      obtain ⟨k1, k2, k3⟩ := key nbL r hr
      obtain ⟨l1, l2, l3⟩ := key naL _ k2
      split at h
      · rename_i he
        cases h
        refine ⟨(winMay_iff _).2 ⟨k3, l3⟩, ?_⟩
        unfold winS
        dsimp only
        rw [he, List.append_nil] at l1
        rw [← l1, ← k1]
      · cases h
    · cases h
  · rintro ⟨h, rfl⟩
    have hm := (winMay_iff x).1 h
    obtain ⟨p, f, q, t⟩ := x
    dsimp only at hm
    unfold refWin
    rw [if_pos (by unfold winS; rw [headL_li]; rfl)]
    unfold winS
    simp only [li, Sx.ks, List.tail_cons]
    obtain ⟨h1, h2⟩ := hm
    rcases h1 with ⟨rfl, h1, h1'⟩ | ⟨rfl, rfl⟩ <;> rcases h2 with ⟨rfl, h2, h2'⟩ | ⟨rfl, rfl⟩
    · obtain ⟨e1, e2⟩ := endB_endS nbL f h1 h1'
      obtain ⟨e3, e4⟩ := endB_endS naL t h2 h2'
      simp [endTake, e1, e2, e3, e4]
    · obtain ⟨e1, e2⟩ := endB_endS nbL f h1 h1'
      simp [endTake, e1, e2]
    · obtain ⟨e3, e4⟩ := endB_endS naL t h2 h2'
      simp [endTake, e3, e4, endB_not]
    · rfl
/-- on values that are clean the program and the document read the same window -/
theorem win_agree (s : Sx) (hc : s.clean = true) : refWin s = winGet s := by
  cases h : refWin s with
  | none =>
    cases h' : winGet s with
    | none => rfl
    | some x => rw [(refWin_iff s hc x).2 ((winGet_iff s x).1 h')] at h; cases h
  | some x => rw [(winGet_iff s x).2 ((refWin_iff s hc x).1 h)]
end Go.Proofs.YthmigigclmogiaaDoor
namespace Go.Proofs.YthmigigclmogiaaDoor
open Go.RowKit
set_option linter.unusedSimpArgs false
set_option linter.unusedVariables false

/-- through blocks of the call's own, but not the row's -/
def okO (p : Nat → Prop) (v : Value) : Nat → Prop := fun b => p b ∧ v.ownBlock ≠ some b
theorem src1 (w : World) (v : SV) : Src Tryd.prog 5 31 (.slice (some ⟨w.heap.size, 0, none⟩) 1 1) 1 (newsK (fun _ => v) 1) (w.alloc (.cells v.cells 33)) := by
  refine Src.ofSlice _ Tryd.underlying31 _ 1 1 _ (newsK_len _ 1) (fun j u hu => ?_) (newsK_one _ 1)
  rw [Addr.add_mid]
  refine (Box.new w 33 v.cells).cell (0 + j) ?_
  rw [Nat.zero_add]
  simpa [newsK] using hu
theorem newsK_add (K : Nat → SV) (n : Nat) (v : SV) : newsK K n ++ newsK (fun _ => v) 1 = newsK (fun i => if i = n then v else K i) (n + 1) := by
  have e : newsK (fun i => if i = n then v else K i) n = newsK K n := newsK_congr fun i h => if_neg (by omega)
  show newsK K n ++ ([] ++ v.cells.toList) = newsK _ n ++ (if n = n then v else K n).cells.toList
  rw [e, if_pos rfl, List.nil_append]
theorem own1 (w : World) (B : Nat) (hB : B ≤ w.heap.size) (v : SV) : OwnG (w.alloc (.cells v.cells 33)) B 5 (.slice (some ⟨w.heap.size, 0, none⟩) 1 1) 1 (newsK (fun _ => v) 1) := by
  have := OwnG.new w B 5 hB v.cells 33 1 1 (Nat.le_refl _) (by unfold maxLen; omega) rfl
  rwa [show v.cells.toList.take (1 * 5) = newsK (fun _ => v) 1 from rfl] at this
theorem RdI.grew {p : Nat → Prop} {own v' : Value} {u w2 : World} {v : SV} {s : Sx} (h : RdI (okO p own) u v s) (hg : u.grownBy w2 own.ownBlock) (hw : ∀ k, v'.ownBlock = some k → own.ownBlock = some k ∨ u.heap.size ≤ k) : RdI (okO p v') w2 v s :=
  (h.there.keep (fun k hk => hg.block k hk.2 (fun e => hk.1.2 e.symm))).mono (fun k hk => ⟨hk.1.1, fun e => (hw k e).elim (fun e => hk.1.2 e) (fun e => by have := hk.2; omega)⟩)
theorem rows_more {p : Nat → Prop} {n : Nat} {own v' : Value} {u w2 : World} {K : Nat → SV} {acc : List Sx} {v : SV} {s : Sx} (hn : n = acc.length)
    (hK : ∀ i (hi : i < acc.length), RdI (okO p own) u (K i) acc[i]) (hR : RdI (okO p own) u v s)
    (hg : u.grownBy w2 own.ownBlock) (hw : ∀ k, v'.ownBlock = some k → own.ownBlock = some k ∨ u.heap.size ≤ k) :
    ∀ i (hi : i < (acc ++ [s]).length), RdI (okO p v') w2 (if i = n then v else K i) (acc ++ [s])[i] := by
  intro i hi
  by_cases hia : i = n
  · rw [if_pos hia]
    have e : (acc ++ [s])[i] = s := by
      subst hia hn
      simp
    rw [e]
    exact hR.grew hg hw
  · rw [if_neg hia]
    have hlt : i < acc.length := by simp at hi; omega
    rw [List.getElem_append_left hlt]
    exact (hK i hlt).grew hg hw

/-- what putting a window answers -/
def WinP (x : W4) (w : World) (e : Ending) (w' : World) : Prop :=
  (x.may = true ∧ PutQ (winS x) (.int .i64 0) w e w') ∨ (x.may = false ∧ e = .returned (.tuple #[.agg #[.bool false, .bool false, .slice none 0 0, .slice none 0 0, .slice none 0 0], .int .i64 11]) ∧ Below w.heap.size w w')

end Go.Proofs.YthmigigclmogiaaDoor
namespace Go.Proofs.YthmigigclmogiaaDoor
open Go.RowKit
set_option linter.unusedSimpArgs false
set_option linter.unusedVariables false

/-- a row of the call's own is handed back -/
def RowO (n : Nat) (K : Nat → SV) (w : World) (e : Ending) (w' : World) : Prop := ∃ a c, e = .returned (.slice a n c) ∧ OwnG w' w.heap.size 5 (.slice a n c) n (newsK K n) ∧ Below w.heap.size w w'

set_option maxHeartbeats 2000000 in
set_option maxRecDepth 100000 in
theorem cloneO_any (a : Option Addr) (n c : Nat) (K : Nat → SV) (w : World) (hr : RowAt w a n c K) (hn : n ≤ 1000) : Calls Tryd.prog 42 #[.slice a n c] w (RowO n K w) := by
  cases a with
  | none =>
    have hc := hr.2.2.1 rfl
    have hle := hr.1
    obtain rfl : n = 0 := by omega
    subst hc
    clear hle hn
    have hnn : ∀ W, (binOp .eql 31 (.slice none 0 0) (.slice none 0 0)).run Tryd.prog W = .ok (.bool true) W := fun _ => rfl
    go_enter Tryd.func42, Tryd.ntmps42
    go_wp2_with fail
    go_ret
    exact ⟨none, 0, rfl, OwnG.nil _ _ _, Below.refl _ _⟩
  | some ad =>
    have hnn : ∀ W, (binOp .eql 31 (.slice (some ad) n c) (.slice none 0 0)).run Tryd.prog W = .ok (.bool false) W := fun _ => rfl
    have hb0 : Below w.heap.size w (w.alloc (.cells #[] 33)) := (Below.refl _ _).alloc (Nat.le_refl _) _
    have ho0 : OwnG (w.alloc (.cells #[] 33)) w.heap.size 5 (.slice (some ⟨w.heap.size, 0, none⟩) 0 0) 0 [] := OwnG.new w w.heap.size 5 (Nat.le_refl _) #[] 33 0 0 (Nat.le_refl _) (Nat.zero_le _) rfl
    have hsrc : Src Tryd.prog 5 31 (.slice (some ad) n c) n (newsK K n) (w.alloc (.cells #[] 33)) := by
      refine Src.ofSlice _ Tryd.underlying31 ad n c _ (newsK_len K n) ?_ (newsK_one K n)
      have hr' := hr.after hb0
      rcases hr'.2.2.2 with h0 | ⟨b, o, e, h4⟩
      · subst h0
        intro j u hu
        simp [newsK] at hu
      · cases e
        exact newsK_cells hr'
    have HO := Lib.hid ho0
    have HS := Lib.hid hsrc
    clear ho0 hsrc hr
    go_enter Tryd.func42, Tryd.ntmps42
    go_wp2_with (refine wpList_append_K rfl _ _ rfl rfl HO.out rfl HS.out (by omega) (by simp) ?_; intro v2 w2 ho2 hg2 hw2)
    rw [Nat.zero_add, List.nil_append] at ho2
    obtain ⟨a', c', rfl, h5, h6⟩ := ho2.row
    have HO2 := Lib.hid ho2
    have hB := hb0.grown hg2 (by simp) (fun k hk => by cases hk; exact Nat.le_refl _)
    clear ho2 hg2 hw2
    go_ret
    exact ⟨a', c', rfl, HO2.out, hB⟩

/-- a list whose row is the call's own -/
def ListO (n : Nat) (K : Nat → SV) (w : World) (e : Ending) (w' : World) : Prop := ∃ a c, e = .returned (.agg #[.bool true, .bool false, .slice none 0 0, .slice none 0 0, .slice a n c]) ∧ OwnG w' (w.heap.size + 1) 5 (.slice a n c) n (newsK K n) ∧ Below w.heap.size w w'

set_option maxHeartbeats 2000000 in
set_option maxRecDepth 100000 in
theorem listO_any (a : Option Addr) (n c : Nat) (K : Nat → SV) (w : World) (hr : RowAt w a n c K) (hn : n ≤ 1000) : Calls Tryd.prog 30 #[.slice a n c] w (ListO n K w) := by
  have hb0 : Below w.heap.size w (w.alloc (.cells SV.nil.cells 33)) := (Below.refl _ _).alloc (Nat.le_refl _) _
  have X0 := Box.new w 33 SV.nil.cells
  have HR := Lib.hid hr
  clear hr
  go_enter Tryd.func30, Tryd.ntmps30
  go_upto_region 1 with fail
  change Code.wp _ _ _ _ (w.alloc (.cells SV.nil.cells 33))
  generalize w.alloc (.cells SV.nil.cells 33) = v0 at *
  go_wp2_with fail
  refine (cloneO_any a n c K v0 (HR.out.after hb0) hn).mono ?_
  rintro e v1 ⟨a', c', rfl, hrow, hb1⟩
  have X1 := Lib.hid (X0.after hb1)
  have HS := Lib.hid hrow
  have hB1 := hb0.trans (hb1.mono hb0.size)
  have hz := X0.lt
  have hsz := hb0.size
  clear X0 hrow hb1 hb0
  go_wp2_with (refine wpList_store_box (cells := (SV.mk true false none 0 0 none 0 0 a' n c').cells) rfl 33 _ _ rfl X1.out (by rfl) (by rfl) rfl (by kernel_rfl) (SV.one _) ?_; intro v2 X2 st2)
  have hB2 := st2.below w.heap.size w (Nat.le_refl _) hB1
  have ho2 : OwnG v2 (w.heap.size + 1) 5 (.slice a' n c') n (newsK K n) := (HS.out.keep (w' := v2) (Nat.le_of_eq st2.size.symm) (fun k hk => st2.other k (by have := (HS.out.lt k hk).1; omega))).le (by omega)
  exact bodyPost_ret (v := (SV.mk true false none 0 0 none 0 0 a' n c').val) (box_result rfl _ _ (by rfl) X2 Tryd.underlying33 rfl (by kernel_rfl)) rfl ⟨a', c', rfl, ho2, hB2⟩

def caL : List UInt8 := [99, 97, 110, 99, 101, 108, 101, 100]
def sumsOk (ls : List (List UInt8)) : Bool := decide (ls.length ≤ 16) && ls.all (fun l => keyMay true l.length)
def sumsK (ls : List (List UInt8)) : List Sx := at1 caL :: ls.map (keyS true)
def SumsP (ls : List (List UInt8)) (w : World) (e : Ending) (w' : World) : Prop :=
  (sumsOk ls = true ∧ PutQ (li (sumsK ls)) (.bool true) w e w') ∨ (sumsOk ls = false ∧ e = .returned (.tuple #[.agg #[.bool false, .bool false, .slice none 0 0, .slice none 0 0, .slice none 0 0], .bool false]) ∧ Below w.heap.size w w')
theorem sumsK_snoc (ls : List (List UInt8)) (k : Nat) (h : k < ls.length) : sumsK (ls.take (k + 1)) = sumsK (ls.take k) ++ [keyS true ls[k]] := by
  unfold sumsK
  rw [List.take_succ_eq_append_getElem h, List.map_append]
  rfl
theorem sumsK_len (ls : List (List UInt8)) (k : Nat) (h : k ≤ ls.length) : (sumsK (ls.take k)).length = k + 1 := by
  unfold sumsK
  simp
  omega
theorem all_snoc (p : List UInt8 → Bool) (ls : List (List UInt8)) (k : Nat) (h : k < ls.length) : (ls.take (k + 1)).all p = ((ls.take k).all p && p ls[k]) := by
  rw [List.take_succ_eq_append_getElem h, List.all_append]
  simp only [List.all_cons, List.all_nil, Bool.and_true]
theorem all_not (p : List UInt8 → Bool) (ls : List (List UInt8)) (k : Nat) (h : k < ls.length) (hp : p ls[k] = false) : ls.all p = false := by
  rw [List.all_eq_false]
  exact ⟨_, List.getElem_mem h, by rw [hp]; simp⟩
theorem RowS.cellS {w : World} {a : Option Addr} {n c : Nat} {Z : Nat → S3} {ls : List (List UInt8)} (h : RowS w a n c Z ls) {i : Nat} (hi : i < n) : ∃ b o, a = some ⟨b, o, none⟩ ∧ w.cell? ⟨b, o + i, none⟩ = some (.slice (Z i).a (Z i).n (Z i).c) := by
  rcases h.2.2.2.2.1 with h4 | ⟨b, o, rfl, h4⟩
  · omega
  · exact ⟨b, o, rfl, h4 i hi⟩

end Go.Proofs.YthmigigclmogiaaDoor
namespace Go.Proofs.YthmigigclmogiaaDoor
open Go.RowKit
set_option linter.unusedSimpArgs false
set_option linter.unusedVariables false

def haL : List UInt8 := [104, 97, 115, 104]
def shL : List UInt8 := [115, 104, 97, 53, 49, 50]
def pkL : List UInt8 := [112, 117, 98, 108, 105, 99, 45, 107, 101, 121]
def edL : List UInt8 := [101, 100, 50, 53, 53, 49, 57]
def crL : List UInt8 := [99, 114, 108]
def isL : List UInt8 := [105, 115, 115, 117, 101, 114]
theorem keyS_true (l : List UInt8) : keyS true l = li [at1 haL, at1 shL, at1 l] := rfl
theorem keyS_false (l : List UInt8) : keyS false l = li [at1 pkL, li [at1 edL, at1 l]] := rfl

/-- the principal that may stand in a value -/
def keyTry (k : Sx) : Option (Bool × List UInt8) :=
  match k.ks with
  | [_, _, x] => some (true, x.da)
  | [_, y] => (match y.ks with | [_, x] => some (false, x.da) | _ => none)
  | _ => none
def keyGet (k : Sx) : Option (Bool × List UInt8) :=
  match keyTry k with
  | some (s, l) => if keyMay s l.length && k.same (keyS s l) then some (s, l) else none
  | none => none
theorem keyTry_keyS (s : Bool) (l : List UInt8) : keyTry (keyS s l) = some (s, l) := by cases s <;> rfl
theorem keyGet_iff (k : Sx) (s : Bool) (l : List UInt8) : keyGet k = some (s, l) ↔ keyMay s l.length = true ∧ k = keyS s l := by
  constructor
  · intro h
    unfold keyGet at h
    split at h
    · rename_i s' l' e
      split at h
      · rename_i hc
        rw [Bool.and_eq_true] at hc
        cases h
        exact ⟨hc.1, (Sx.same_iff _ _).1 hc.2⟩
      · cases h
    · cases h
  · rintro ⟨h, rfl⟩
    unfold keyGet
    rw [keyTry_keyS]
    simp [h, Sx.same_refl]
def plainB (x : Sx) (n : Nat) : Bool := !x.l && (!x.h && (x.da.length == n))
def hashB (k : Sx) : Bool := match k.ks with | [_, y, z] => atomB y shL && plainB z 64 | _ => false
def lastB (y : Sx) : Bool := match y.ks with | [_, z] => plainB z 32 | _ => false
def pubB (k : Sx) : Bool := match k.ks with | [_, y] => headL y edL && lastB y | _ => false
/-- what the document reads as a principal -/
def refKey (k : Sx) : Option (Bool × List UInt8) :=
  if headL k haL && hashB k then some (true, (k.ks.getD 2 Sx.nil).da)
  else if headL k pkL && pubB k then some (false, ((k.ks.getD 1 Sx.nil).ks.getD 1 Sx.nil).da)
  else none
theorem plainB_clean {x : Sx} {n : Nat} (hc : x.clean = true) (h : plainB x n = true) : x = at1 x.da ∧ x.da.length = n := by
  simp only [plainB, Bool.and_eq_true, Bool.not_eq_true', beq_iff_eq] at h
  exact ⟨atomB_clean hc (by simp [atomB, h.1, h.2.1]), h.2.2⟩
theorem refKey_iff (k : Sx) (hc : k.clean = true) (s : Bool) (l : List UInt8) : refKey k = some (s, l) ↔ keyMay s l.length = true ∧ k = keyS s l := by
  constructor
  · intro h
    unfold refKey at h
    split at h
    · rename_i hh
      rw [Bool.and_eq_true] at hh
      obtain ⟨r, rfl, hr⟩ := headL_clean hc hh.1
      have h2 := hh.2
      rcases r with _ | ⟨y, _ | ⟨z, _ | ⟨u, r⟩⟩⟩ <;> simp only [hashB, li, Sx.ks, Bool.and_eq_true, Bool.false_eq_true] at h2
      obtain ⟨h3, h4⟩ := h2
      obtain rfl := atomB_clean (hr y (by simp)) h3
      obtain ⟨e1, e2⟩ := plainB_clean (hr z (by simp)) h4
      simp only [li, Sx.ks, List.getD_cons_succ, List.getD_cons_zero] at h
      cases h
      refine ⟨by simp [keyMay, e2], ?_⟩
      rw [keyS_true, ← e1]
    · split at h
      · rename_i hh
        rw [Bool.and_eq_true] at hh
        obtain ⟨r, rfl, hr⟩ := headL_clean hc hh.1
        have h2 := hh.2
        rcases r with _ | ⟨y, _ | ⟨z, r⟩⟩ <;> simp only [pubB, li, Sx.ks, Bool.and_eq_true, Bool.false_eq_true] at h2
        obtain ⟨h3, h4⟩ := h2
        obtain ⟨r2, rfl, hr2⟩ := headL_clean (hr y (by simp)) h3
        rcases r2 with _ | ⟨z, _ | ⟨u, r⟩⟩ <;> simp only [lastB, li, Sx.ks, Bool.false_eq_true] at h4
        obtain ⟨e1, e2⟩ := plainB_clean (hr2 z (by simp)) h4
        simp only [li, Sx.ks, List.getD_cons_succ, List.getD_cons_zero] at h
        cases h
        refine ⟨by simp [keyMay, e2], ?_⟩
        rw [keyS_false, ← e1]
      · cases h
  · rintro ⟨h, rfl⟩
    cases s
    · have h32 : (l.length == 32) = true := h
      unfold refKey
      rw [keyS_false, headL_li]
      rw [show (pkL == haL) = false from rfl, Bool.false_and]
      simp only [Bool.false_eq_true, if_false]
      rw [headL_li, if_pos (by
        simp only [pubB, lastB, li, Sx.ks]
        rw [show Sx.mk true false [] [] [at1 edL, at1 l] = li [at1 edL, at1 l] from rfl, headL_li]
        simp [plainB, at1, Sx.l, Sx.h, Sx.da, h32])]
      rfl
    · have h64 : (l.length == 64) = true := h
      unfold refKey
      rw [keyS_true, headL_li, if_pos (by
        simp only [hashB, li, Sx.ks, atomB_at1]
        simp [plainB, at1, Sx.l, Sx.h, Sx.da, h64])]
      rfl
theorem key_agree (k : Sx) (hc : k.clean = true) : refKey k = keyGet k := by
  cases h : refKey k with
  | none =>
    cases h' : keyGet k with
    | none => rfl
    | some x => rw [(refKey_iff k hc x.1 x.2).2 ((keyGet_iff k x.1 x.2).1 h')] at h; cases h
  | some x => rw [(keyGet_iff k x.1 x.2).2 ((refKey_iff k hc x.1 x.2).1 h)]

/-- a list of canceled ones -/
structure Cr where
  s : Bool
  l : List UInt8
  ls : List (List UInt8)
  x : W4
def Cr.may (c : Cr) : Bool := keyMay c.s c.l.length && (sumsOk c.ls && c.x.may)
noncomputable def Cr.tree (c : Cr) : Sx := li ([at1 crL, li [at1 isL, keyS c.s c.l], li (sumsK c.ls)] ++ if c.x.p || c.x.q then [winS c.x] else [])

theorem wideL_no {ks : List Sx} {m : Nat} (h : ∀ k ∈ ks, k.wide m = false) : Sx.wideL ks m = false := by
  induction ks with
  | nil => rfl
  | cons a r ih => simp only [Sx.wideL]; rw [h a (by simp), ih (fun k hk => h k (by simp [hk]))]; rfl
theorem wide_li {ks : List Sx} {m : Nat} (hm : m ≤ 60) (hl : ks.length ≤ 700) (h : ∀ k ∈ ks, k.wide (m + 1) = false) : (li ks).wide m = false := by
  unfold li
  rw [wide_def, wideL_no h, decide_eq_false (by omega), decide_eq_false (by omega)]
  rfl
theorem wide_at {l : List UInt8} {m : Nat} (hm : m ≤ 60) (hl : l.length ≤ 5000) : (at1 l).wide m = false := by
  unfold at1
  rw [wide_def, decide_eq_false (by omega), decide_eq_false (by simp), decide_eq_false (by simp), decide_eq_false (by omega)]
  rfl
theorem wide_keyS (s : Bool) (l : List UInt8) (m : Nat) (hm : m ≤ 50) (hl : l.length ≤ 5000) : (keyS s l).wide m = false := by
  cases s
  · rw [keyS_false]
    refine wide_li (by omega) (by simp) (fun k hk => ?_)
    simp only [List.mem_cons, List.not_mem_nil, or_false] at hk
    rcases hk with rfl | rfl
    · exact wide_at (by omega) (by decide)
    · refine wide_li (by omega) (by simp) (fun k hk => ?_)
      simp only [List.mem_cons, List.not_mem_nil, or_false] at hk
      rcases hk with rfl | rfl
      · exact wide_at (by omega) (by decide)
      · exact wide_at (by omega) hl
  · rw [keyS_true]
    refine wide_li (by omega) (by simp) (fun k hk => ?_)
    simp only [List.mem_cons, List.not_mem_nil, or_false] at hk
    rcases hk with rfl | rfl | rfl
    · exact wide_at (by omega) (by decide)
    · exact wide_at (by omega) (by decide)
    · exact wide_at (by omega) hl
/-- bounds of a tree: clean, at most n values, at most d deep, at most f bytes -/
structure Bd (t : Sx) (n d f : Nat) : Prop where
  clean : t.clean = true
  nodes : t.nodes ≤ n
  deep : t.deep ≤ d
  form : t.form.length ≤ f
structure BdL (ts : List Sx) (n d f : Nat) : Prop where
  clean : Sx.cleanL ts = true
  nodes : Sx.nodesL ts ≤ n
  deep : Sx.deepL ts ≤ d
  form : (Sx.formL ts).length ≤ f
theorem BdL.nil : BdL [] 0 0 0 := ⟨rfl, Nat.le_refl _, Nat.le_refl _, Nat.le_refl _⟩
theorem BdL.cons {t : Sx} {ts : List Sx} {n d f n2 d2 f2 : Nat} (h : Bd t n d f) (h2 : BdL ts n2 d2 f2) : BdL (t :: ts) (n + n2) (max d d2) (f + f2) := by
  refine ⟨?_, ?_, ?_, ?_⟩
  · simp [Sx.cleanL, h.clean, h2.clean]
  · simp only [Sx.nodesL]; have := h.nodes; have := h2.nodes; omega
  · simp only [Sx.deepL]; have := h.deep; have := h2.deep; omega
  · simp only [Sx.formL, List.length_append]; have := h.form; have := h2.form; omega
theorem BdL.append {ts us : List Sx} {n d f n2 d2 f2 : Nat} (h : BdL ts n d f) (h2 : BdL us n2 d2 f2) : BdL (ts ++ us) (n + n2) (max d d2) (f + f2) := by
  induction ts generalizing n d f with
  | nil => exact ⟨h2.clean, by have := h2.nodes; simp; omega, by have := h2.deep; simp; omega, by have := h2.form; simp; omega⟩
  | cons t ts ih =>
    have hc := h.clean
    have hn := h.nodes
    have hd := h.deep
    have hf := h.form
    simp only [Sx.cleanL, Bool.and_eq_true] at hc
    simp only [Sx.nodesL] at hn
    simp only [Sx.deepL] at hd
    simp only [Sx.formL, List.length_append] at hf
    have := ih (n := Sx.nodesL ts) (d := Sx.deepL ts) (f := (Sx.formL ts).length) ⟨hc.2, Nat.le_refl _, Nat.le_refl _, Nat.le_refl _⟩
    refine ⟨?_, ?_, ?_, ?_⟩
    · simp [Sx.cleanL, hc.1, this.clean]
    · have := this.nodes; simp only [List.cons_append, Sx.nodesL]; omega
    · have := this.deep; simp only [List.cons_append, Sx.deepL]; omega
    · have := this.form; simp only [List.cons_append, Sx.formL, List.length_append]; omega
theorem BdL.li {ts : List Sx} {n d f : Nat} (h : BdL ts n d f) : Bd (li ts) (n + 1) (d + 1) (f + 2) := by
  refine ⟨?_, ?_, ?_, ?_⟩
  · unfold Proofs.YthmigigclmogiaaDoor.li; rw [clean_def, h.clean]; rfl
  · have := h.nodes; unfold Proofs.YthmigigclmogiaaDoor.li; simp only [Sx.nodes]; omega
  · have := h.deep; unfold Proofs.YthmigigclmogiaaDoor.li; simp only [Sx.deep, if_true]; omega
  · have := h.form; unfold Proofs.YthmigigclmogiaaDoor.li; rw [form_def]; simp; omega
theorem bd_at (l : List UInt8) (h : l.length ≤ 100000) : Bd (at1 l) 1 0 (l.length + 20) := by
  refine ⟨by rfl, by simp [at1, Sx.nodes, Sx.nodesL], by simp [at1, Sx.deep], ?_⟩
  have := textL_len l (by omega)
  unfold at1
  rw [form_def]
  simpa using this
theorem Bd.mono {t : Sx} {n d f n2 d2 f2 : Nat} (h : Bd t n d f) (h1 : n ≤ n2) (h2 : d ≤ d2) (h3 : f ≤ f2) : Bd t n2 d2 f2 := ⟨h.clean, Nat.le_trans h.nodes h1, Nat.le_trans h.deep h2, Nat.le_trans h.form h3⟩
theorem BdL.mono {t : List Sx} {n d f n2 d2 f2 : Nat} (h : BdL t n d f) (h1 : n ≤ n2) (h2 : d ≤ d2) (h3 : f ≤ f2) : BdL t n2 d2 f2 := ⟨h.clean, Nat.le_trans h.nodes h1, Nat.le_trans h.deep h2, Nat.le_trans h.form h3⟩
theorem Bd.may {t : Sx} {n d f : Nat} (h : Bd t n d f) (h1 : n ≤ 512) (h2 : d ≤ 16) (h3 : f ≤ 4096) : t.may = true := by
  unfold Sx.may
  rw [h.clean, decide_eq_true (Nat.le_trans h.nodes h1), decide_eq_true (Nat.le_trans h.deep h2), decide_eq_true (Nat.le_trans h.form h3)]
  rfl
theorem bd_keyS (s : Bool) (l : List UInt8) (h : keyMay s l.length = true) : Bd (keyS s l) 5 2 150 := by
  cases s
  · have h32 : l.length = 32 := by simpa [keyMay] using h
    rw [keyS_false]
    exact ((BdL.cons (bd_at pkL (by decide)) (BdL.cons ((BdL.cons (bd_at edL (by decide)) (BdL.cons (bd_at l (by omega)) BdL.nil)).li) BdL.nil)).li).mono (by omega) (by omega) (by rw [h32]; decide)
  · have h64 : l.length = 64 := by simpa [keyMay] using h
    rw [keyS_true]
    exact ((BdL.cons (bd_at haL (by decide)) (BdL.cons (bd_at shL (by decide)) (BdL.cons (bd_at l (by omega)) BdL.nil))).li).mono (by omega) (by omega) (by rw [h64]; decide)
theorem bdL_sums (ls : List (List UInt8)) (h : ls.all (fun l => keyMay true l.length) = true) : BdL (ls.map (keyS true)) (5 * ls.length) 2 (150 * ls.length) := by
  induction ls with
  | nil => exact BdL.nil.mono (by simp) (by omega) (by simp)
  | cons l r ih =>
    simp only [List.all_cons, Bool.and_eq_true] at h
    exact (BdL.cons (bd_keyS true l h.1) (ih h.2)).mono (by simp; omega) (by omega) (by simp; omega)
theorem bd_end (w : List UInt8) (n : Int) (hw : w.length ≤ 20) (h0 : 0 ≤ n) (h1 : n < 315569520000) : Bd (endS w n) 3 1 90 := by
  have := dateL_len n h0 h1
  unfold endS
  exact ((BdL.cons (bd_at w (by omega)) (BdL.cons (bd_at (dateL n) (by omega)) BdL.nil)).li).mono (by omega) (by omega) (by omega)
theorem bd_win (x : W4) (h : x.may = true) : Bd (winS x) 8 2 220 := by
  have hm := (winMay_iff x).1 h
  obtain ⟨p, f, q, t⟩ := x
  dsimp only at hm
  obtain ⟨h1, h2⟩ := hm
  unfold winS
  have e1 : BdL (if p then [endS nbL f] else []) 3 1 90 := by
    rcases h1 with ⟨rfl, h1, h1'⟩ | ⟨rfl, rfl⟩
    · exact BdL.cons (bd_end nbL f (by decide) h1 h1') BdL.nil
    · exact BdL.nil.mono (by omega) (by omega) (by omega)
  have e2 : BdL (if q then [endS naL t] else []) 3 1 90 := by
    rcases h2 with ⟨rfl, h2, h2'⟩ | ⟨rfl, rfl⟩
    · exact BdL.cons (bd_end naL t (by decide) h2 h2') BdL.nil
    · exact BdL.nil.mono (by omega) (by omega) (by omega)
  exact ((BdL.cons (bd_at vaL (by decide)) (e1.append e2)).li).mono (by omega) (by omega) (by decide)
theorem wide_win (x : W4) (h : x.may = true) (m : Nat) (hm : m ≤ 50) : (winS x).wide m = false := by
  have hw := (winMay_iff x).1 h
  obtain ⟨p, f, q, t⟩ := x
  dsimp only at hw
  have hend : ∀ (w : List UInt8) (n : Int), w.length ≤ 20 → 0 ≤ n → n < 315569520000 → (endS w n).wide (m + 1) = false := by
    intro w n h0 h1 h2
    have := dateL_len n h1 h2
    unfold endS
    refine wide_li (by omega) (by simp) (fun k hk => ?_)
    simp only [List.mem_cons, List.not_mem_nil, or_false] at hk
    rcases hk with rfl | rfl
    · exact wide_at (by omega) (by omega)
    · exact wide_at (by omega) (by omega)
  unfold winS
  refine wide_li (by omega) (by cases p <;> cases q <;> simp) (fun k hk => ?_)
  simp only [List.mem_cons, List.mem_append] at hk
  rcases hk with rfl | hk | hk
  · exact wide_at (by omega) (by decide)
  · rcases hw.1 with ⟨rfl, h1, h2⟩ | ⟨rfl, rfl⟩
    · simp only [if_true, List.mem_cons, List.not_mem_nil, or_false] at hk
      rw [hk]
      exact hend _ _ (by decide) h1 h2
    · simp at hk
  · rcases hw.2 with ⟨rfl, h1, h2⟩ | ⟨rfl, rfl⟩
    · simp only [if_true, List.mem_cons, List.not_mem_nil, or_false] at hk
      rw [hk]
      exact hend _ _ (by decide) h1 h2
    · simp at hk
theorem sumsOk_iff (ls : List (List UInt8)) : sumsOk ls = true ↔ ls.length ≤ 16 ∧ ls.all (fun l => keyMay true l.length) = true := by
  unfold sumsOk
  rw [Bool.and_eq_true, decide_eq_true_eq]
theorem Cr.may_tree (c : Cr) (h : c.may = true) : c.tree.may = true ∧ c.tree.wide 0 = false := by
  obtain ⟨s, l, ls, x⟩ := c
  simp only [Cr.may, Bool.and_eq_true] at h
  obtain ⟨h1, h2, h3⟩ := h
  obtain ⟨h4, h5⟩ := (sumsOk_iff ls).1 h2
  have hlen : l.length ≤ 64 := by cases s <;> (simp [keyMay] at h1; omega)
  have hall : ∀ k ∈ ls, k.length = 64 := fun k hk => by have := List.all_eq_true.1 h5 k hk; simpa [keyMay] using this
  have e1 : BdL [at1 crL, li [at1 isL, keyS s l], li (sumsK ls)] (5 * ls.length + 10) 4 (150 * ls.length + 250) := by
    refine (BdL.cons (bd_at crL (by decide)) (BdL.cons ((BdL.cons (bd_at isL (by decide)) (BdL.cons (bd_keyS s l h1) BdL.nil)).li) (BdL.cons ((BdL.cons (bd_at caL (by decide)) (bdL_sums ls h5)).li) BdL.nil))).mono (by omega) (by omega) ?_
    have a1 : crL.length = 3 := rfl
    have a2 : isL.length = 6 := rfl
    have a3 : caL.length = 8 := rfl
    omega
  have e2 : BdL (if x.p || x.q then [winS x] else []) 8 2 220 := by
    split
    · exact BdL.cons (bd_win x h3) BdL.nil
    · exact BdL.nil.mono (by omega) (by omega) (by omega)
  refine ⟨((e1.append e2).li).may (by omega) (by omega) (by omega), ?_⟩
  unfold Cr.tree
  refine wide_li (by omega) (by dsimp only; split <;> simp) (fun k hk => ?_)
  simp only [List.mem_append, List.mem_cons, List.not_mem_nil, or_false] at hk
  rcases hk with (rfl | rfl | rfl) | hk
  · exact wide_at (by omega) (by decide)
  · refine wide_li (by omega) (by simp) (fun k hk => ?_)
    simp only [List.mem_cons, List.not_mem_nil, or_false] at hk
    rcases hk with rfl | rfl
    · exact wide_at (by omega) (by decide)
    · exact wide_keyS s l _ (by omega) (by omega)
  · refine wide_li (by omega) (by simp [sumsK]; omega) (fun k hk => ?_)
    simp only [sumsK, List.mem_cons, List.mem_map] at hk
    rcases hk with rfl | ⟨z, hz, rfl⟩
    · exact wide_at (by omega) (by decide)
    · exact wide_keyS true z _ (by omega) (by have := hall z hz; omega)
  · split at hk
    · simp only [List.mem_cons, List.not_mem_nil, or_false] at hk
      rw [hk]
      exact wide_win x h3 _ (by omega)
    · simp at hk
/-- what the program takes for a list of canceled ones -/
def keyOr (k : Sx) : Bool × List UInt8 := (keyGet k).getD (false, [])
noncomputable def crlTry (v : Sx) : Cr := ⟨(keyOr ((v.ks.getD 1 Sx.nil).ks.getD 1 Sx.nil)).1, (keyOr ((v.ks.getD 1 Sx.nil).ks.getD 1 Sx.nil)).2, (v.ks.getD 2 Sx.nil).ks.tail.map (fun k => (keyOr k).2), if 3 < v.ks.length then (winGet (v.ks.getD 3 Sx.nil)).getD W4.nil else W4.nil⟩
def crlShape (v : Sx) : Bool := decide (3 ≤ v.ks.length) && (decide ((v.ks.getD 1 Sx.nil).ks.length = 2) && (decide (0 < (v.ks.getD 2 Sx.nil).ks.length) && v.may))
noncomputable def crlGet (v : Sx) : Option Cr := if crlShape v && ((crlTry v).may && v.same (crlTry v).tree) then some (crlTry v) else none
theorem W4.ends_not (x : W4) (h : x.may = true) (h' : ¬ (x.p || x.q) = true) : x = W4.nil := by
  have := (winMay_iff x).1 h
  obtain ⟨p, f, q, t⟩ := x
  dsimp only at this h'
  cases p <;> cases q <;> simp at h'
  simp at this
  obtain ⟨rfl, rfl⟩ := this
  rfl
theorem crlTry_tree (c : Cr) (h : c.may = true) : crlShape c.tree = true ∧ crlTry c.tree = c := by
  have hm := (c.may_tree h).1
  obtain ⟨s, l, ls, x⟩ := c
  simp only [Cr.may, Bool.and_eq_true] at h
  obtain ⟨h1, h2, h3⟩ := h
  obtain ⟨h4, h5⟩ := (sumsOk_iff ls).1 h2
  have hk : keyOr (keyS s l) = (s, l) := by unfold keyOr; rw [(keyGet_iff _ _ _).2 ⟨h1, rfl⟩]; rfl
  have hs : ls.map ((fun k => (keyOr k).2) ∘ keyS true) = ls := by
    have : ls.map ((fun k => (keyOr k).2) ∘ keyS true) = ls.map id := List.map_congr_left fun z hz => by
      have hz' := List.all_eq_true.1 h5 z hz
      simp only [Function.comp, keyOr]
      rw [(keyGet_iff _ _ _).2 ⟨hz', rfl⟩]
      rfl
    rw [this, List.map_id]
  refine ⟨?_, ?_⟩
  · unfold crlShape
    rw [hm]
    unfold Cr.tree
    simp [li, Sx.ks, sumsK]
  · unfold crlTry Cr.tree
    by_cases hw : (x.p || x.q) = true
    · simp [li, Sx.ks, sumsK, hk, hs, hw, (winGet_iff (winS x) x).2 ⟨h3, rfl⟩]
    · have hx := x.ends_not h3 hw
      simp only [li, Sx.ks, sumsK, hw, if_false]
      simp [hk, hs, hx, Sx.ks]
theorem crlGet_iff (v : Sx) (c : Cr) : crlGet v = some c ↔ c.may = true ∧ v = c.tree := by
  unfold crlGet
  constructor
  · intro h
    split at h
    · rename_i hc
      simp only [Bool.and_eq_true] at hc
      cases h
      exact ⟨hc.2.1, (Sx.same_iff _ _).1 hc.2.2⟩
    · cases h
  · rintro ⟨h, rfl⟩
    obtain ⟨e1, e2⟩ := crlTry_tree c h
    rw [e2, if_pos (by rw [e1, h, Sx.same_refl]; rfl)]
theorem li_ks (r : List Sx) : (li r).ks = r := rfl
/-- what the document reads -/
def refEnds (l : List Sx) : Option W4 := match l with
  | [] => some W4.nil
  | [k] => (match refWin k with | some x => if x.p || x.q then some x else none | none => none)
  | _ => none
def refOf (k : Sx) (w : List UInt8) : Bool := headL k w && decide (k.ks.length = 2)
def refSums : List Sx → Option (List (List UInt8))
  | [] => some []
  | k :: r => match refKey k with
    | some (true, l) => (refSums r).map (l :: ·)
    | _ => none
def refCrl (v : Sx) : Option Cr :=
  if v.may && (headL v crL && decide (3 ≤ v.ks.length)) then
    if refOf (v.ks.getD 1 Sx.nil) isL then
      match refKey ((v.ks.getD 1 Sx.nil).ks.getD 1 Sx.nil), refEnds (v.ks.drop 3) with
      | some (s, l), some x => if headL (v.ks.getD 2 Sx.nil) caL && decide ((v.ks.getD 2 Sx.nil).ks.length ≤ 17) then (refSums (v.ks.getD 2 Sx.nil).ks.tail).map (fun ls => ⟨s, l, ls, x⟩) else none
      | _, _ => none
    else none
  else none
theorem refSums_iff (ks : List Sx) (hc : ∀ k ∈ ks, k.clean = true) (ls : List (List UInt8)) : refSums ks = some ls ↔ ls.all (fun l => keyMay true l.length) = true ∧ ks = ls.map (keyS true) := by
  induction ks generalizing ls with
  | nil => cases ls <;> simp [refSums]
  | cons k r ih =>
    have hk := refKey_iff k (hc k (by simp))
    have ih := ih (fun k hk => hc k (by simp [hk]))
    constructor
    · intro h
      simp only [refSums] at h
      split at h
      · rename_i l e
        obtain ⟨ls', e', rfl⟩ := Option.map_eq_some_iff.1 h
        obtain ⟨h1, h2⟩ := (ih ls').1 e'
        obtain ⟨h3, h4⟩ := (hk true l).1 e
        simp [h1, h3, ← h2, h4]
      · cases h
    · rintro ⟨h1, h2⟩
      cases ls with
      | nil => cases h2
      | cons l ls =>
        simp only [List.all_cons, Bool.and_eq_true] at h1
        simp only [List.map_cons, List.cons.injEq] at h2
        simp only [refSums]
        rw [(hk true l).2 ⟨h1.1, h2.1⟩, (ih ls).2 ⟨h1.2, h2.2⟩]
        rfl
theorem may_clean {v : Sx} (h : v.may = true) : v.clean = true := by
  unfold Sx.may at h
  simp only [Bool.and_eq_true] at h
  exact h.1.1.1
theorem refCrl_iff (v : Sx) (c : Cr) : refCrl v = some c ↔ c.may = true ∧ v = c.tree := by
  constructor
  · intro h
    unfold refCrl at h
    split at h
    · rename_i hh
      simp only [Bool.and_eq_true, decide_eq_true_eq] at hh
      obtain ⟨hm, hd, hl⟩ := hh
      obtain ⟨r, rfl, hr⟩ := headL_clean (may_clean hm) hd
      rcases r with _ | ⟨k1, _ | ⟨k2, r⟩⟩
      · simp [li_ks] at hl
      · simp [li_ks] at hl
      · simp only [li_ks, List.getD_cons_succ, List.getD_cons_zero, List.drop_succ_cons, List.drop_zero] at h
        split at h
        · rename_i ho
          unfold refOf at ho
          simp only [Bool.and_eq_true, decide_eq_true_eq] at ho
          obtain ⟨r1, rfl, hr1⟩ := headL_clean (hr k1 (by simp)) ho.1
          rcases r1 with _ | ⟨x1, _ | ⟨x2, r1⟩⟩
          · simp [li_ks] at ho
          · try simp only [li_ks, List.getD_cons_succ, List.getD_cons_zero] at h
            split at h
            · rename_i s l x e1 e2
              obtain ⟨g1, rfl⟩ := (refKey_iff x1 (hr1 x1 (by simp)) s l).1 e1
              split at h
              · rename_i hcn
                simp only [Bool.and_eq_true, decide_eq_true_eq] at hcn
                obtain ⟨r2, rfl, hr2⟩ := headL_clean (hr k2 (by simp)) hcn.1
                obtain ⟨ls, e3, rfl⟩ := Option.map_eq_some_iff.1 h
                simp only [li_ks, List.tail_cons] at e3
                obtain ⟨g2, rfl⟩ := (refSums_iff r2 hr2 ls).1 e3
                have g3 : ls.length ≤ 16 := by have := hcn.2; simp [li_ks] at this; omega
                have g4 : x.may = true ∧ r = if x.p || x.q then [winS x] else [] := by
                  rcases r with _ | ⟨k, _ | ⟨k', r⟩⟩
                  · simp only [refEnds] at e2
                    cases e2
                    exact ⟨rfl, rfl⟩
                  · simp only [refEnds] at e2
                    split at e2
                    · rename_i x' e4
                      split at e2
                      · rename_i hpq
                        cases e2
                        obtain ⟨g5, rfl⟩ := (refWin_iff k (hr k (by simp)) x).1 e4
                        rw [if_pos hpq]
                        exact ⟨g5, rfl⟩
                      · cases e2
                    · cases e2
                  · simp [refEnds] at e2
                refine ⟨?_, ?_⟩
                · simp only [Cr.may]
                  rw [g1, (sumsOk_iff ls).2 ⟨g3, g2⟩, g4.1]
                  rfl
                · unfold Cr.tree sumsK
                  rw [g4.2]
                  rfl
              · cases h
            · cases h
          · simp [li_ks] at ho
        · cases h
    · cases h
  · rintro ⟨h, rfl⟩
    have hm := (c.may_tree h).1
    have hcl := may_clean hm
    obtain ⟨s, l, ls, x⟩ := c
    simp only [Cr.may, Bool.and_eq_true] at h
    obtain ⟨h1, h2, h3⟩ := h
    obtain ⟨h4, h5⟩ := (sumsOk_iff ls).1 h2
    have hkc : (keyS s l).clean = true := (bd_keyS s l h1).clean
    have hsc : ∀ k ∈ ls.map (keyS true), k.clean = true := fun k hk => by
      obtain ⟨z, hz, rfl⟩ := List.mem_map.1 hk
      exact (bd_keyS true z (List.all_eq_true.1 h5 z hz)).clean
    have e1 := (refKey_iff (keyS s l) hkc s l).2 ⟨h1, rfl⟩
    have e3 := (refSums_iff (ls.map (keyS true)) hsc ls).2 ⟨h5, rfl⟩
    have e2 : refEnds (if x.p || x.q then [winS x] else []) = some x := by
      by_cases hw : (x.p || x.q) = true
      · rw [if_pos hw]
        simp only [refEnds]
        rw [(refWin_iff (winS x) (bd_win x h3).clean x).2 ⟨h3, rfl⟩]
        simp only [hw, if_true]
      · rw [if_neg hw, x.ends_not h3 hw]
        rfl
    unfold refCrl
    rw [if_pos (by rw [hm]; unfold Cr.tree; simp [headL_li, li, Sx.ks, headL, atomB, at1, Sx.l, Sx.h, Sx.da])]
    unfold Cr.tree
    simp only [li, Sx.ks, List.cons_append, List.nil_append, List.getD_cons_succ, List.getD_cons_zero, List.drop_succ_cons, List.drop_zero]
    rw [if_pos (by simp [refOf, headL, atomB, at1, Sx.l, Sx.h, Sx.da, Sx.ks])]
    simp only [e1, e2, sumsK, List.tail_cons, e3, Option.map_some]
    rw [if_pos (by simp [headL, atomB, at1, Sx.l, Sx.h, Sx.da, Sx.ks]; omega)]
theorem crl_agree (v : Sx) : refCrl v = crlGet v := by
  cases h : refCrl v with
  | none =>
    cases h' : crlGet v with
    | none => rfl
    | some x => rw [(refCrl_iff v x).2 ((crlGet_iff v x).1 h')] at h; cases h
  | some x => rw [(crlGet_iff v x).2 ((refCrl_iff v x).1 h)]
end Go.Proofs.YthmigigclmogiaaDoor
namespace Go.Proofs.YthmigigclmogiaaDoor
open Go.RowKit
set_option linter.unusedSimpArgs false
set_option linter.unusedVariables false

theorem or_zero {p : Bool} {f : Int} {A : Prop} (h : (p = true ∧ A) ∨ (p = false ∧ f = 0)) (hp : p = false) : f = 0 := h.elim (fun h => absurd (hp.symm.trans h.1) (by simp)) (fun h => h.2)
/-- a value that is there, or none -/
noncomputable def orNil (b : Bool) (s : Sx) : Sx := if b then s else Sx.nil
theorem KeyP.out {s : Bool} {l : List UInt8} {w w' : World} {e : Ending} (h : KeyP s l w e w') : ∃ (v : SV) (er : Int), e = .returned (.tuple #[.agg #[.bool v.l, .bool v.h, .slice v.a1 v.n1 v.c1, .slice v.a2 v.n2 v.c2, .slice v.a3 v.n3 v.c3], .int .i64 er]) ∧ RdI (fun b => w.heap.size ≤ b) w' v (orNil (keyMay s l.length) (keyS s l)) ∧ ((er = 0 ∧ keyMay s l.length = true) ∨ (er = 7 ∧ keyMay s l.length = false)) ∧ Below w.heap.size w w' := by
  rcases h with ⟨h1, v, rfl, h2, h3⟩ | ⟨h1, rfl, h3⟩
  · exact ⟨v, 0, rfl, by rw [h1]; exact h2, .inl ⟨rfl, h1⟩, h3⟩
  · exact ⟨SV.nil, 7, rfl, by rw [h1]; exact rd_nil _ _, .inr ⟨rfl, h1⟩, h3⟩
theorem SumsP.out {ls : List (List UInt8)} {w w' : World} {e : Ending} (h : SumsP ls w e w') : ∃ (v : SV), e = .returned (.tuple #[.agg #[.bool v.l, .bool v.h, .slice v.a1 v.n1 v.c1, .slice v.a2 v.n2 v.c2, .slice v.a3 v.n3 v.c3], .bool (sumsOk ls)]) ∧ RdI (fun b => w.heap.size ≤ b) w' v (orNil (sumsOk ls) (li (sumsK ls))) ∧ Below w.heap.size w w' := by
  rcases h with ⟨h1, v, rfl, h2, h3⟩ | ⟨h1, rfl, h3⟩
  · exact ⟨v, by rw [h1], by rw [h1]; exact h2, h3⟩
  · exact ⟨SV.nil, by rw [h1]; rfl, by rw [h1]; exact rd_nil _ _, h3⟩
theorem WinP.out {x : W4} {w w' : World} {e : Ending} (h : WinP x w e w') : ∃ (v : SV) (er : Int), e = .returned (.tuple #[.agg #[.bool v.l, .bool v.h, .slice v.a1 v.n1 v.c1, .slice v.a2 v.n2 v.c2, .slice v.a3 v.n3 v.c3], .int .i64 er]) ∧ RdI (fun b => w.heap.size ≤ b) w' v (orNil x.may (winS x)) ∧ ((er = 0 ∧ x.may = true) ∨ (er = 11 ∧ x.may = false)) ∧ Below w.heap.size w w' := by
  rcases h with ⟨h1, v, rfl, h2, h3⟩ | ⟨h1, rfl, h3⟩
  · exact ⟨v, 0, rfl, by rw [h1]; exact h2, .inl ⟨rfl, h1⟩, h3⟩
  · exact ⟨SV.nil, 11, rfl, by rw [h1]; exact rd_nil _ _, .inr ⟨rfl, h1⟩, h3⟩
/-- what putting a list answers -/
def CrlP (c : Cr) (w : World) (e : Ending) (w' : World) : Prop :=
  (c.may = true ∧ PutQ c.tree (.int .i64 0) w e w') ∨ (c.may = false ∧ e = .returned (.tuple #[.agg #[.bool false, .bool false, .slice none 0 0, .slice none 0 0, .slice none 0 0], .int .i64 3]) ∧ Below w.heap.size w w')
/-- the list's value, before the window -/
def CutC (w0 q : World) (B : Nat) (T : TypeId) (ts : List Sx) (v : Value) (w' : World) : Prop :=
  ∃ (g : Nat) (ta : Option Addr) (tc : Nat) (K : Nat → SV), v = .pointer (some ⟨g, 0, none⟩) ∧ q.heap.size ≤ g ∧ Box w' g T #[.bool true, .bool false, .slice none 0 0, .slice none 0 0, .slice ta 3 tc] ∧ OwnG w' B 5 (.slice ta 3 tc) 3 (newsK K 3) ∧
    (∀ b, (Value.slice ta 3 tc).ownBlock = some b → b ≠ g ∧ q.heap.size ≤ b) ∧ (∀ i (hi : i < ts.length), RdI (okO (fun b => (w0.heap.size ≤ b ∧ b ≠ w0.heap.size + 1) ∧ b ≠ g) (.slice ta 3 tc)) w' (K i) ts[i]) ∧ Below q.heap.size q w'

end Go.Proofs.YthmigigclmogiaaDoor

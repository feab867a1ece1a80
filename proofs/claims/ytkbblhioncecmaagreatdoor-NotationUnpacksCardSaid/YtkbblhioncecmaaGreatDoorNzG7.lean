/- Advanced forms in plain words: what the document reads at a place of a text. The program's reader of advanced forms: wrong, is, peek, skip, sign. The program's reader of advanced forms: until. Unhex, Unbase64: what it computes, and that what it hands back is its own. The program's reader of advanced forms: base64, length, digits, what is escaped and quoted. The program's reader of advanced forms: what is escaped, what is quoted, bytes with their length. -/
import Derived.Test.YtkbblhioncecmaaGreatDoorNzG6
import Derived.Recover
import Derived.Deep.QuietTactic
namespace Go.Proofs.YtkbblhioncecmaaGreatDoor
open Go.RowKit
set_option linter.unusedSimpArgs false
set_option linter.unusedVariables false

/-- blanks, digits, a token's signs -/
def blankB (c : UInt8) : Bool := c == 32 || (decide (9 ≤ c.toNat) && decide (c.toNat ≤ 13))
def letterB (c : UInt8) : Bool := (decide (97 ≤ c.toNat) && decide (c.toNat ≤ 122)) || (decide (65 ≤ c.toNat) && decide (c.toNat ≤ 90))
def numB (c : UInt8) : Bool := decide (48 ≤ c.toNat) && decide (c.toNat ≤ 57)
def signB (c : UInt8) : Bool := letterB c || numB c || c == 46 || c == 47 || c == 95 || c == 58 || c == 42 || c == 43 || c == 61 || c == 45
def hexC (c : UInt8) : Bool := (hval c.toNat).isSome
def b64C (c : UInt8) : Bool := letterB c || numB c || c == 43 || c == 47 || c == 61
def blankL : List UInt8 := [32, 9, 10, 11, 12, 13]
def signL : List UInt8 := [65, 66, 67, 68, 69, 70, 71, 72, 73, 74, 75, 76, 77, 78, 79, 80, 81, 82, 83, 84, 85, 86, 87, 88, 89, 90, 97, 98, 99, 100, 101, 102, 103, 104, 105, 106, 107, 108, 109, 110, 111, 112, 113, 114, 115, 116, 117, 118, 119, 120, 121, 122, 48, 49, 50, 51, 52, 53, 54, 55, 56, 57, 46, 47, 95, 58, 42, 43, 61, 45]
def numsL : List UInt8 := [48, 49, 50, 51, 52, 53, 54, 55, 56, 57]
def hexsL : List UInt8 := [48, 49, 50, 51, 52, 53, 54, 55, 56, 57, 97, 98, 99, 100, 101, 102, 65, 66, 67, 68, 69, 70]
def b64sL : List UInt8 := [65, 66, 67, 68, 69, 70, 71, 72, 73, 74, 75, 76, 77, 78, 79, 80, 81, 82, 83, 84, 85, 86, 87, 88, 89, 90, 97, 98, 99, 100, 101, 102, 103, 104, 105, 106, 107, 108, 109, 110, 111, 112, 113, 114, 115, 116, 117, 118, 119, 120, 121, 122, 48, 49, 50, 51, 52, 53, 54, 55, 56, 57, 43, 47, 61]
def isIn (l : List UInt8) (c : UInt8) : Bool := decide (0 ≤ Lib.indexByte l c)
theorem isIn_blank : ∀ n : Fin 256, isIn blankL (n.val.toUInt8) = blankB (n.val.toUInt8) := by decide +kernel
theorem isIn_sign : ∀ n : Fin 256, isIn signL (n.val.toUInt8) = signB (n.val.toUInt8) := by decide +kernel
theorem isIn_num : ∀ n : Fin 256, isIn numsL (n.val.toUInt8) = numB (n.val.toUInt8) := by decide +kernel
theorem isIn_hex : ∀ n : Fin 256, isIn hexsL (n.val.toUInt8) = hexC (n.val.toUInt8) := by decide +kernel
theorem isIn_b64 : ∀ n : Fin 256, isIn b64sL (n.val.toUInt8) = b64C (n.val.toUInt8) := by decide +kernel
theorem byte_fin (c : UInt8) : (⟨c.toNat, c.toNat_lt⟩ : Fin 256).val.toUInt8 = c := by simp

/-- the place behind blanks -/
def skipN (l : List UInt8) (p : Nat) : Nat := p + ((l.drop p).takeWhile blankB).length
theorem skipN_end {l : List UInt8} {p : Nat} (h : l.length ≤ p) : skipN l p = p := by unfold skipN; rw [List.drop_eq_nil_of_le h]; rfl
theorem skipN_blank {l : List UInt8} {p : Nat} (h : p < l.length) (hb : blankB l[p] = true) : skipN l p = skipN l (p + 1) := by
  unfold skipN
  rw [List.drop_eq_getElem_cons h, List.takeWhile_cons_of_pos hb, List.length_cons]
  omega
theorem skipN_other {l : List UInt8} {p : Nat} (h : p < l.length) (hb : blankB l[p] = false) : skipN l p = p := by
  unfold skipN
  rw [List.drop_eq_getElem_cons h, List.takeWhile_cons_of_neg (by rw [hb]; simp)]
  rfl
theorem skipN_le {l : List UInt8} {p : Nat} (h : p ≤ l.length) : p ≤ skipN l p ∧ skipN l p ≤ l.length := by
  unfold skipN
  have := (List.takeWhile_sublist (l := l.drop p) blankB).length_le
  simp at this
  omega

/-- bytes that were read, the place behind them; or an error's number, and its place -/
structure BR where
  b : List UInt8
  p : Nat
  e : Nat
def BR.err (p e : Nat) : BR := ⟨[], p, e⟩
def nLen (l : List UInt8) (p : Nat) : BR :=
  let r := lenR l p 4096
  if r.2.2 ≠ 0 then BR.err p r.2.2.toNat else
  if l.length ≤ r.2.1.toNat then BR.err l.length 2 else if l.getD r.2.1.toNat 0 ≠ 58 then BR.err r.2.1.toNat 3 else
  if l.length - r.2.1.toNat - 1 < r.1.toNat then BR.err l.length 2 else ⟨(l.drop (r.2.1.toNat + 1)).take r.1.toNat, r.2.1.toNat + 1 + r.1.toNat, 0⟩
/-- signs of a kind, and blanks, up to an end: what was there, its place -/
def nSome (good : UInt8 → Bool) (en : UInt8) : List UInt8 → Nat → BR
  | [], p => BR.err p 2
  | c :: r, p => if c = en then ⟨[], p, 0⟩ else if !good c && !blankB c then BR.err p 3 else
    let x := nSome good en r (p + 1)
    if x.e = 0 then ⟨if good c then c :: x.b else x.b, x.p, 0⟩ else x
def nB64 (l : List UInt8) (p : Nat) (en : UInt8) : BR :=
  let x := nSome b64C en (l.drop p) p
  if x.e ≠ 0 then BR.err x.p x.e else match unb64 x.b with
  | some b => ⟨b, x.p + 1, 0⟩
  | none => BR.err x.p 3
def nHex (l : List UInt8) (p : Nat) : BR :=
  let x := nSome hexC 35 (l.drop p) p
  if x.e ≠ 0 then BR.err x.p x.e else match unhex x.b with
  | some b => ⟨b, x.p + 1, 0⟩
  | none => BR.err x.p 3

/-- so many digits of a base, the first one at most so high -/
def nDigs (base : Nat) (l : List UInt8) : Nat → Nat → Nat → Nat → BR
  | 0, _, p, x => ⟨[UInt8.ofNat x], p, 0⟩
  | k + 1, first, p, x => if l.length ≤ p then BR.err l.length 2 else match hval (l.getD p 0).toNat with
    | some d => if d < base ∧ d ≤ first then nDigs base l k base (p + 1) (x * base + d) else BR.err p 3
    | none => BR.err p 3
def escL : List UInt8 := [98, 116, 118, 110, 102, 114, 34, 39, 92]
def escTo : List UInt8 := [8, 9, 11, 10, 12, 13, 34, 39, 92]
/-- what stands behind a backslash -/
def nEsc (l : List UInt8) (p : Nat) : BR :=
  if l.length ≤ p then BR.err l.length 2 else
  if 48 ≤ (l.getD p 0).toNat ∧ (l.getD p 0).toNat ≤ 55 then nDigs 8 l 3 3 p 0 else
  if l.getD p 0 = 120 then nDigs 16 l 2 15 (p + 1) 0 else
  match escL.idxOf? (l.getD p 0) with
  | some i => ⟨[escTo.getD i 0], p + 1, 0⟩
  | none => BR.err p 3
def BR.pre (y : List UInt8) (x : BR) : BR := if x.e = 0 then ⟨y ++ x.b, x.p, 0⟩ else x
/-- what stands in quotes -/
def nQuo (l : List UInt8) : Nat → Nat → BR
  | 0, _ => BR.err l.length 2
  | f + 1, p => if l.length ≤ p then BR.err l.length 2 else
    if l.getD p 0 = 34 then ⟨[], p + 1, 0⟩ else
    if l.getD p 0 ≠ 92 then (nQuo l f (p + 1)).pre [l.getD p 0] else
    if (nEsc l (p + 1)).e ≠ 0 then nEsc l (p + 1) else (nQuo l f (nEsc l (p + 1)).p).pre (nEsc l (p + 1)).b
theorem nDigs_place (base : Nat) (l : List UInt8) : ∀ k first p x, p ≤ l.length → (nDigs base l k first p x).p ≤ l.length ∧ p ≤ (nDigs base l k first p x).p
  | 0, _, p, x, h => ⟨h, Nat.le_refl _⟩
  | k + 1, first, p, x, h => by
    unfold nDigs
    split
    · exact ⟨Nat.le_refl _, h⟩
    · split
      · rename_i d _
        split
        · have := nDigs_place base l k base (p + 1) (x * base + d) (by omega)
          exact ⟨this.1, by omega⟩
        · exact ⟨h, Nat.le_refl _⟩
      · exact ⟨h, Nat.le_refl _⟩
theorem nEsc_place (l : List UInt8) (p : Nat) (h : p ≤ l.length) : (nEsc l p).p ≤ l.length ∧ p ≤ (nEsc l p).p := by
  unfold nEsc
  split
  · exact ⟨Nat.le_refl _, h⟩
  · split
    · exact nDigs_place 8 l 3 3 p 0 h
    · split
      · have := nDigs_place 16 l 2 15 (p + 1) 0 (by omega)
        exact ⟨this.1, by omega⟩
      · split
        · exact ⟨by show p + 1 ≤ l.length; omega, Nat.le_succ _⟩
        · exact ⟨h, Nat.le_refl _⟩
theorem nQuo_fuel (l : List UInt8) : ∀ f g p, l.length < p + f → l.length < p + g → nQuo l f p = nQuo l g p
  | 0, 0, _, _, _ => rfl
  | 0, g + 1, p, h, _ => by unfold nQuo; rw [if_pos (by omega)]
  | f + 1, 0, p, _, h => by unfold nQuo; rw [if_pos (by omega)]
  | f + 1, g + 1, p, h, h' => by
    unfold nQuo
    split
    · rfl
    · rename_i hp
      rw [nQuo_fuel l f g (p + 1) (by omega) (by omega)]
      have := (nEsc_place l (p + 1) (by omega)).2
      rw [nQuo_fuel l f g (nEsc l (p + 1)).p (by omega) (by omega)]
def nQuote (l : List UInt8) (p : Nat) : BR := nQuo l (l.length + 1) p
theorem nQuote_end {l : List UInt8} {p : Nat} (h : l.length ≤ p) : nQuote l p = BR.err l.length 2 := by unfold nQuote nQuo; rw [if_pos h]
theorem nQuote_step {l : List UInt8} {p : Nat} (h : p < l.length) : nQuote l p = if l.getD p 0 = 34 then ⟨[], p + 1, 0⟩ else
    if l.getD p 0 ≠ 92 then (nQuote l (p + 1)).pre [l.getD p 0] else
    if (nEsc l (p + 1)).e ≠ 0 then nEsc l (p + 1) else (nQuote l (nEsc l (p + 1)).p).pre (nEsc l (p + 1)).b := by
  have h1 := nQuo_fuel l l.length (l.length + 1) (p + 1) (by omega) (by omega)
  have h2 := nQuo_fuel l l.length (l.length + 1) (nEsc l (p + 1)).p (by have := (nEsc_place l (p + 1) (by omega)).2; omega) (by omega)
  unfold nQuote
  rw [← h1, ← h2]
  rw [show nQuo l (l.length + 1) p = _ from by rw [nQuo]]
  rw [if_neg (by omega)]
/-- a plain atom -/
def nPlain (l : List UInt8) (p : Nat) : BR :=
  if l.length ≤ p then BR.err l.length 2 else
  if numB (l.getD p 0) then nLen l p else
  if l.getD p 0 = 34 then nQuote l (p + 1) else
  if l.getD p 0 = 35 then nHex l (p + 1) else
  if l.getD p 0 = 124 then nB64 l (p + 1) 124 else
  if signB (l.getD p 0) then ⟨(l.drop p).takeWhile signB, p + ((l.drop p).takeWhile signB).length, 0⟩ else BR.err p 3
/-- an atom, or a hint and one -/
def nHint (l : List UInt8) (p n : Nat) : RV :=
  let h := nPlain l (skipN l p)
  if h.e ≠ 0 then RV.err h.p h.e else
  if l.length ≤ skipN l h.p then RV.err l.length 2 else if l.getD (skipN l h.p) 0 ≠ 93 then RV.err (skipN l h.p) 3 else
  let d := nPlain l (skipN l (skipN l h.p + 1))
  if d.e ≠ 0 then RV.err d.p d.e else ⟨.mk false true h.b d.b [], d.p, n, 0⟩
def nAtom (l : List UInt8) (p n : Nat) : RV :=
  let d := nPlain l p
  if d.e ≠ 0 then RV.err d.p d.e else ⟨.mk false false [] d.b [], d.p, n, 0⟩
def begB (c : UInt8) : Bool := c == 40 || c == 91 || c == 34 || c == 35 || c == 124 || signB c
/-- a value at a place, so deep, behind so many (none); the rest of a list (some of what was read) -/
inductive Nt (l : List UInt8) : Option (List Sx) → Nat → Nat → Nat → RV → Prop
  | short {p lv n : Nat} : l.length ≤ skipN l p → Nt l none p lv n (RV.err l.length 2)
  | bad {p lv n : Nat} : skipN l p < l.length → begB (l.getD (skipN l p) 0) = false → Nt l none p lv n (RV.err (skipN l p) 3)
  | long {p lv n : Nat} : skipN l p < l.length → begB (l.getD (skipN l p) 0) = true → (512 < n + 1 ∨ l.getD (skipN l p) 0 = 40 ∧ 16 < lv) → Nt l none p lv n (RV.err (skipN l p) 4)
  | hint {p lv n : Nat} : skipN l p < l.length → l.getD (skipN l p) 0 = 91 → n + 1 ≤ 512 → Nt l none p lv n (nHint l (skipN l p + 1) (n + 1))
  | atom {p lv n : Nat} : skipN l p < l.length → begB (l.getD (skipN l p) 0) = true → l.getD (skipN l p) 0 ≠ 40 → l.getD (skipN l p) 0 ≠ 91 → n + 1 ≤ 512 → Nt l none p lv n (nAtom l (skipN l p) (n + 1))
  | list {p lv n : Nat} {r : RV} : skipN l p < l.length → l.getD (skipN l p) 0 = 40 → n + 1 ≤ 512 → lv ≤ 16 → Nt l (some []) (skipN l p + 1) lv (n + 1) r → Nt l none p lv n r
  | close {p lv n : Nat} {acc : List Sx} : skipN l p < l.length → l.getD (skipN l p) 0 = 41 → Nt l (some acc) p lv n ⟨.mk true false [] [] acc, skipN l p + 1, n, 0⟩
  | fail {p lv n : Nat} {acc : List Sx} {r : RV} : (skipN l p < l.length → l.getD (skipN l p) 0 ≠ 41) → Nt l none (skipN l p) (lv + 1) n r → r.e ≠ 0 → Nt l (some acc) p lv n r
  | more {p lv n : Nat} {acc : List Sx} {r r2 : RV} : skipN l p < l.length → l.getD (skipN l p) 0 ≠ 41 → Nt l none (skipN l p) (lv + 1) n r → r.e = 0 → Nt l (some (acc ++ [r.v])) r.p lv r.n r2 → Nt l (some acc) p lv n r2
theorem Nt.det {l : List UInt8} {m : Option (List Sx)} {p lv n : Nat} {r r' : RV} (h : Nt l m p lv n r) (h' : Nt l m p lv n r') : r = r' := by
  induction h generalizing r' with
  | short h1 => cases h' <;> first | rfl | omega
  | bad h1 h2 => cases h' <;> first | rfl | omega | simp_all [begB]
  | long h1 h2 h3 => cases h' <;> first | rfl | omega | simp_all [begB] <;> omega
  | hint h1 h2 h3 => cases h' <;> first | rfl | omega | simp_all [begB] <;> omega
  | atom h1 h2 h3 h4 h5 => cases h' <;> first | rfl | omega | simp_all [begB] <;> omega
  | list h1 h2 h3 h4 h5 ih =>
    cases h' with
    | list _ _ _ _ h6 => exact ih h6
    | short h6 => omega
    | bad h6 h7 => simp_all [begB]
    | long h6 h7 h8 => simp_all [begB]; omega
    | hint h6 h7 h8 => simp_all
    | atom h6 h7 h8 => simp_all
  | close h1 h2 =>
    cases h' with
    | close => rfl
    | fail h3 => exact absurd h2 (h3 h1)
    | more _ h3 => exact absurd h2 h3
  | fail h1 h2 h3 ih =>
    cases h' with
    | close h4 h5 => exact absurd h5 (h1 h4)
    | fail _ h5 _ => exact ih h5
    | more h4 h5 h6 h7 h8 => rw [ih h6] at h3; exact absurd h7 h3
  | more h1 h2 h3 h4 h5 ih1 ih2 =>
    cases h' with
    | close h6 h7 => exact absurd h7 h2
    | fail h6 h7 h8 => rw [ih1 h7] at h4; exact absurd h4 h8
    | more h6 h7 h8 h9 h10 => rw [← ih1 h8] at h10; exact ih2 h10
end Go.Proofs.YtkbblhioncecmaaGreatDoor
namespace Go.Proofs.YtkbblhioncecmaaGreatDoor
open Go.RowKit
set_option linter.unusedSimpArgs false
set_option linter.unusedVariables false

/-- the reader's cells -/
abbrev RdN (s : ByteArray) (p m : Nat) : Array Value := #[.string s, .int .i64 p, .int .i64 m]
/-- a fault is thrown -/
def FaultN (p e : Nat) : Ending := .panicked [{ v := .iface 56 (.agg #[.int .i64 p, .int .i64 e]), recovered := false }]

set_option maxRecDepth 100000 in
theorem wrong_any (p e : Nat) (w : World) : Calls Tryz.prog 22 #[.int .i64 p, .int .i64 e] w fun x w' => x = FaultN p e ∧ w' = w := by
  go_enter Tryz.func22, Tryz.ntmps22
  go_wp2_with fail
  unfold FaultN
  exact ⟨rfl, rfl, rfl⟩

set_option maxRecDepth 100000 in
theorem is_any (S : ByteArray) (c : UInt8) (w : World) : Calls Tryz.prog 34 #[.string S, .int .u8 (c.toNat : Int)] w fun x w' => x = .returned (.bool (isIn S.data.toList c)) ∧ w' = w := by
  go_enter Tryz.func34, Tryz.ntmps34
  go_wp2_with fail
  refine (Tryz.strings_IndexByte S (c.toNat : Int) w).mono ?_
  rintro e w1 ⟨rfl, rfl⟩
  go_wp2_with fail
  go_ret
  exact ⟨by unfold isIn; simp, rfl⟩
theorem getD_byte (s : ByteArray) (p : Nat) (h : p < s.size) : s[p] = s.data.toList.getD p 0 := by
  rw [List.getD_eq_getElem?_getD, List.getElem?_eq_getElem (by simpa using h)]
  simp only [Option.getD_some, Array.getElem_toList]
  rfl
theorem below_drewN {B : Nat} {w0 w : World} (h : Below B w0 w) (n : Nat) : Below B w0 (w.drewN n) := ⟨h.os, h.tape, h.output, h.size, h.block⟩
/-- peek: a fault, or the byte that stands next -/
def PeekP (s : ByteArray) (p : Nat) (w : World) (e : Ending) (w' : World) : Prop :=
  Below w.heap.size w w' ∧ ((s.size ≤ p ∧ e = FaultN s.size 2) ∨ (p < s.size ∧ e = .returned (.int .u8 ((s.data.toList.getD p 0).toNat : Int))))

set_option maxHeartbeats 4000000 in
set_option maxRecDepth 100000 in
theorem peek_any (g : Nat) (s : ByteArray) (p m : Nat) (w : World) (hX : Box w g 59 (RdN s p m)) (hs : s.size ≤ 1000000) : Calls Tryz.prog 33 #[.pointer (some ⟨g, 0, none⟩)] w (PeekP s p w) := by
  have x0 : w.cell? ⟨g, 0, none⟩ = some (.string s) := hX.cell 0 rfl
  have x1 : w.cell? ⟨g, 1, none⟩ = some (.int .i64 p) := hX.cell 1 rfl
  clear hX
  by_cases h : s.size ≤ p
  · have h' : (s.size : Int) ≤ (p : Int) := by omega
    go_enter Tryz.func33, Tryz.ntmps33
    go_wp2_with fail
    go_quiet (fail)
    go_wp2_with fail
    refine (wrong_any s.size 2 _).mono ?_
    rintro e w1 ⟨rfl, rfl⟩
    unfold FaultN
    go_wp2_with fail
    exact ⟨rfl, below_drewN (Below.refl _ _) _, .inl ⟨h, rfl⟩⟩
  · have h' : ¬ (s.size : Int) ≤ (p : Int) := by omega
    have hp0 : (0 : Int) ≤ p := by omega
    have hp1 : (p : Int) < s.size := by omega
    have hlt : p < s.size := by omega
    have HB := Lib.hid (getD_byte s p hlt)
    go_enter Tryz.func33, Tryz.ntmps33
    go_wp2_with fail
    go_quiet (fail)
    go_wp2_with fail
    go_quiet (fail)
    go_wp2_with fail
    go_ret
    exact ⟨below_drewN (below_drewN (Below.refl _ _) _) _, .inr ⟨hlt, by rw [← HB.out]; rfl⟩⟩

theorem byteNe {x y : UInt8} (h : x ≠ y) : ((x.toNat : Int) == (y.toNat : Int)) = false ∧ ((x.toNat : Int) != (y.toNat : Int)) = true := by
  have h1 : ((x.toNat : Int) == (y.toNat : Int)) = false := beq_eq_false_iff_ne.2 (fun e => h (UInt8.toNat_inj.1 (Int.ofNat.inj e)))
  exact ⟨h1, by rw [bne, h1]; rfl⟩
/-- sign: either a fault or a step -/
def SignN (g : Nat) (s : ByteArray) (p m : Nat) (ch : UInt8) (w : World) (e : Ending) (w' : World) : Prop :=
  But (fun k => k = g) w w' ∧ ((s.size ≤ p ∧ e = FaultN s.size 2) ∨ (p < s.size ∧ s.data.toList.getD p 0 ≠ ch ∧ e = FaultN p 3) ∨
    (p < s.size ∧ s.data.toList.getD p 0 = ch ∧ e = .returned (.tuple #[]) ∧ Box w' g 59 (RdN s (p + 1) m)))

set_option maxHeartbeats 4000000 in
set_option maxRecDepth 100000 in
theorem signN_any (g : Nat) (s : ByteArray) (p m : Nat) (ch : UInt8) (w : World) (hX : Box w g 59 (RdN s p m)) (hs : s.size ≤ 1000000) : Calls Tryz.prog 25 #[.pointer (some ⟨g, 0, none⟩), .int .u8 (ch.toNat : Int)] w (SignN g s p m ch w) := by
  have HX := Lib.hid hX
  clear hX
  go_enter Tryz.func25, Tryz.ntmps25
  go_wp2_with fail
  refine (peek_any g s p m w HX.out hs).mono ?_
  rintro e w1 ⟨hb1, hP⟩
  have X1 := HX.out.after hb1
  have x1 : w1.cell? ⟨g, 1, none⟩ = some (.int .i64 p) := X1.cell 1 rfl
  have f1 := X1.frozen 1
  have HX1 := Lib.hid X1
  have HB1 := Lib.hid hb1
  clear X1 hb1 HX
  rcases hP with ⟨h1, rfl⟩ | ⟨h1, rfl⟩
  · unfold FaultN
    go_wp2_with fail
    exact ⟨rfl, But.ofBelow HB1.out, .inl ⟨h1, rfl⟩⟩
  · obtain ⟨x, hx⟩ : ∃ x, x = s.data.toList.getD p 0 := ⟨_, rfl⟩
    rw [← hx]
    have HXX := Lib.hid hx
    clear hx
    have hp6 : (p : Int) ≤ 1000000 := by omega
    by_cases he : x = ch
    · subst he
      have e1 : ((x.toNat : Int) != (x.toNat : Int)) = false := by simp
      go_wp2_with fail
      exact bodyPost_ret (results_none rfl _ _ _) rfl ⟨(But.ofBelow (S := fun k => k = g) HB1.out).setCell (p := ⟨g, 1, none⟩) (.inl rfl) _, .inr (.inr ⟨h1, HXX.out.symm, rfl, HX1.out.set 1 _⟩)⟩
    · obtain ⟨z1, z2⟩ := byteNe he
      have HE := Lib.hid he
      clear he
      go_wp2_with fail
      refine (wrong_any p 3 _).mono ?_
      rintro e w2 ⟨rfl, rfl⟩
      unfold FaultN
      go_wp2_with fail
      exact ⟨rfl, But.ofBelow HB1.out, .inr (.inl ⟨h1, by rw [← HXX.out]; exact HE.out, rfl⟩)⟩

/-- skip: behind blanks -/
def SkipN (g : Nat) (s : ByteArray) (p m : Nat) (w : World) (e : Ending) (w' : World) : Prop :=
  e = .returned (.tuple #[]) ∧ Box w' g 59 (RdN s (skipN s.data.toList p) m) ∧ But (fun k => k = g) w w'

set_option maxHeartbeats 4000000 in
set_option maxRecDepth 100000 in
theorem skipN_any (g : Nat) (s : ByteArray) (p m : Nat) (w : World) (hX : Box w g 59 (RdN s p m)) (hs : s.size ≤ 1000000) (hp : p ≤ s.size) : Calls Tryz.prog 24 #[.pointer (some ⟨g, 0, none⟩)] w (SkipN g s p m w) := by
  have HX := Lib.hid hX
  have HSK := Lib.hid (show skipN s.data.toList p = skipN s.data.toList p from rfl)
  clear hX
  go_enter Tryz.func24, Tryz.ntmps24
  go_wp2_with fail
  go_loopw [2] (fun r wr => ∃ k : Nat, k ≤ s.size ∧ Hid (skipN s.data.toList k = skipN s.data.toList p) ∧ Box wr g 59 (RdN s k m) ∧ But (fun k => k = g) w wr) (fun r wr => s.size - (match wr.cell? ⟨g, 1, none⟩ with | some (.int _ z) => z.toNat | _ => 0))
  case atStart => exact ⟨p, hp, Lib.hid rfl, HX.out, But.refl _ _⟩
  case round =>
    obtain ⟨k, hk, hsk, hX2, hbut⟩ := hrel
    clear HX
    have HX := Lib.hid hX2
    have HMS : Hid ((match wr.cell? ⟨g, 1, none⟩ with | some (.int _ z) => z.toNat | _ => 0) = k) := Lib.hid (by rw [hX2.cell 1 rfl]; simp)
    clear hX2
    have hl : s.data.toList.length = s.size := by simp
    by_cases hlt : k < s.size
    · have hk0 : (0 : Int) ≤ k := by omega
      have hk1 : (k : Int) < s.size := by omega
      obtain ⟨c, hc⟩ : ∃ c, c = s.data.toList.getD k 0 := ⟨_, rfl⟩
      have HCH := Lib.hid hc
      clear hc
      have hgk : s.data.toList[k]'(by omega) = c := by rw [HCH.out, List.getD_eq_getElem?_getD, List.getElem?_eq_getElem (by omega)]; rfl
      have HGK := Lib.hid hgk
      clear hgk
      have hib : isIn blankL c = blankB c := by have := isIn_blank ⟨c.toNat, c.toNat_lt⟩; rwa [byte_fin] at this
      cases hbb : blankB c with
      | true =>
        rw [hbb] at hib
        have HBL := Lib.hid hib
        have HBB := Lib.hid hbb
        clear hib hbb
        go_upto_region 0 with fail
        refine wp_region_made wr.heap.size wr rfl (by kernel_rfl) (Below.refl _ _) ?_
        refine wpQ_run rfl (.pointer (some ⟨g, 0, none⟩)) (fun w' hw => by simp [go_sem]) ?_
        simp only [Act.put, List.setIfInBounds_toArray, List.set_cons_zero, List.set_cons_succ]
        refine wpQ_run rfl (.pointer (some ⟨g, 0, none⟩)) (fun w' hw => by simp [go_sem]) ?_
        simp only [Act.put, List.setIfInBounds_toArray, List.set_cons_zero, List.set_cons_succ]
        refine wpQ_run rfl (.pointer (some ⟨g, 1, none⟩)) (fun w' hw => by simp [go_sem]) ?_
        simp only [Act.put, List.setIfInBounds_toArray, List.set_cons_zero, List.set_cons_succ]
        refine wpQ_run rfl (.int .i64 k) (fun w' hw => by have := (HX.out.after hw).cell 1 rfl; simp [go_sem, this]) ?_
        simp only [Act.put, List.setIfInBounds_toArray, List.set_cons_zero, List.set_cons_succ]
        refine wpQ_run rfl (.pointer (some ⟨g, 0, none⟩)) (fun w' hw => by simp [go_sem]) ?_
        simp only [Act.put, List.setIfInBounds_toArray, List.set_cons_zero, List.set_cons_succ]
        refine wpQ_run rfl (.pointer (some ⟨g, 0, none⟩)) (fun w' hw => by simp [go_sem]) ?_
        simp only [Act.put, List.setIfInBounds_toArray, List.set_cons_zero, List.set_cons_succ]
        refine wpQ_run rfl (.pointer (some ⟨g, 0, none⟩)) (fun w' hw => by simp [go_sem]) ?_
        simp only [Act.put, List.setIfInBounds_toArray, List.set_cons_zero, List.set_cons_succ]
        refine wpQ_run rfl (.string s) (fun w' hw => by have := (HX.out.after hw).cell 0 rfl; simp [go_sem, this]) ?_
        simp only [Act.put, List.setIfInBounds_toArray, List.set_cons_zero, List.set_cons_succ]
        refine wpQ_run rfl (.int .i64 s.size) (fun w' hw => by simp [go_sem]) ?_
        simp only [Act.put, List.setIfInBounds_toArray, List.set_cons_zero, List.set_cons_succ]
        refine wpQ_run rfl (.bool true) (fun w' hw => by simp [go_sem]; omega) ?_
        simp only [Act.put, List.setIfInBounds_toArray, List.set_cons_zero, List.set_cons_succ]
        refine wpQ_run rfl (.bool true) (fun w' hw => by simp [go_sem]) ?_
        simp only [Act.put, List.setIfInBounds_toArray, List.set_cons_zero, List.set_cons_succ]
        refine wpQ_run rfl (.pointer (some ⟨g, 0, none⟩)) (fun w' hw => by simp [go_sem]) ?_
        simp only [Act.put, List.setIfInBounds_toArray, List.set_cons_zero, List.set_cons_succ]
        refine wpQ_run rfl (.pointer (some ⟨g, 0, none⟩)) (fun w' hw => by simp [go_sem]) ?_
        simp only [Act.put, List.setIfInBounds_toArray, List.set_cons_zero, List.set_cons_succ]
        refine wpQ_run rfl (.pointer (some ⟨g, 0, none⟩)) (fun w' hw => by simp [go_sem]) ?_
        simp only [Act.put, List.setIfInBounds_toArray, List.set_cons_zero, List.set_cons_succ]
        refine wpQ_run rfl (.string s) (fun w' hw => by have := (HX.out.after hw).cell 0 rfl; simp [go_sem, this]) ?_
        simp only [Act.put, List.setIfInBounds_toArray, List.set_cons_zero, List.set_cons_succ]
        refine wpQ_run rfl (.pointer (some ⟨g, 0, none⟩)) (fun w' hw => by simp [go_sem]) ?_
        simp only [Act.put, List.setIfInBounds_toArray, List.set_cons_zero, List.set_cons_succ]
        refine wpQ_run rfl (.pointer (some ⟨g, 0, none⟩)) (fun w' hw => by simp [go_sem]) ?_
        simp only [Act.put, List.setIfInBounds_toArray, List.set_cons_zero, List.set_cons_succ]
        refine wpQ_run rfl (.pointer (some ⟨g, 1, none⟩)) (fun w' hw => by simp [go_sem]) ?_
        simp only [Act.put, List.setIfInBounds_toArray, List.set_cons_zero, List.set_cons_succ]
        refine wpQ_run rfl (.int .i64 k) (fun w' hw => by have := (HX.out.after hw).cell 1 rfl; simp [go_sem, this]) ?_
        simp only [Act.put, List.setIfInBounds_toArray, List.set_cons_zero, List.set_cons_succ]
        refine wpQ_run rfl (.int .u8 (c.toNat : Int)) (fun w' hw => by rw [HCH.out, ← getD_byte s k hlt]; simp [go_sem, hlt, hk0, hk1]) ?_
        simp only [Act.put, List.setIfInBounds_toArray, List.set_cons_zero, List.set_cons_succ]
        refine wpQ_call rfl 34 #[.string ⟨#[32, 9, 10, 11, 12, 13]⟩, .int .u8 (c.toNat : Int)] (fun w' => by simp [go_sem]) (.bool true) (Nat.le_refl _) (fun w' => (is_any _ c w').mono (fun e w2 h => by obtain ⟨rfl, rfl⟩ := h; exact ⟨by show Ending.returned (.bool (isIn blankL c)) = _; rw [HBL.out], Below.refl _ _⟩)) ?_
        simp only [Act.put, List.setIfInBounds_toArray, List.set_cons_zero, List.set_cons_succ]
        refine wpQ_run rfl (.bool true) (fun w' hw => by simp [go_sem]) ?_
        simp only [Act.put, List.setIfInBounds_toArray, List.set_cons_zero, List.set_cons_succ]
        intro w1 hb1
        have HX1 := Lib.hid (HX.out.after hb1)
        have HB1 := Lib.hid (hbut.trans (But.ofBelow (S := fun _ => False) hb1) (fun _ h => h.elim))
        clear hb1
        have x1 := HX1.out.cell 1 rfl
        have f1 := HX1.out.frozen 1
        have hk6 : (k : Int) ≤ 1000000 := by omega
        go_wp2_with fail
        go_roundw
        case rel => exact ⟨k + 1, by omega, Lib.hid (by rw [← hsk.out]; exact (skipN_blank (by omega) (by rw [HGK.out]; exact HBB.out)).symm), HX1.out.set 1 _, HB1.out.setCell (p := ⟨g, 1, none⟩) (.inl rfl) _⟩
        case measure => rw [HMS.out, ((HX1.out.set 1 (.int .i64 (k + 1))).cell 1 rfl)]; exact Nat.sub_lt_sub_left hlt (by simp)
      | false =>
        rw [hbb] at hib
        have HBL := Lib.hid hib
        have HBB := Lib.hid hbb
        clear hib hbb
        go_upto_region 0 with fail
        refine wp_region_made wr.heap.size wr rfl (by kernel_rfl) (Below.refl _ _) ?_
        refine wpQ_run rfl (.pointer (some ⟨g, 0, none⟩)) (fun w' hw => by simp [go_sem]) ?_
        simp only [Act.put, List.setIfInBounds_toArray, List.set_cons_zero, List.set_cons_succ]
        refine wpQ_run rfl (.pointer (some ⟨g, 0, none⟩)) (fun w' hw => by simp [go_sem]) ?_
        simp only [Act.put, List.setIfInBounds_toArray, List.set_cons_zero, List.set_cons_succ]
        refine wpQ_run rfl (.pointer (some ⟨g, 1, none⟩)) (fun w' hw => by simp [go_sem]) ?_
        simp only [Act.put, List.setIfInBounds_toArray, List.set_cons_zero, List.set_cons_succ]
        refine wpQ_run rfl (.int .i64 k) (fun w' hw => by have := (HX.out.after hw).cell 1 rfl; simp [go_sem, this]) ?_
        simp only [Act.put, List.setIfInBounds_toArray, List.set_cons_zero, List.set_cons_succ]
        refine wpQ_run rfl (.pointer (some ⟨g, 0, none⟩)) (fun w' hw => by simp [go_sem]) ?_
        simp only [Act.put, List.setIfInBounds_toArray, List.set_cons_zero, List.set_cons_succ]
        refine wpQ_run rfl (.pointer (some ⟨g, 0, none⟩)) (fun w' hw => by simp [go_sem]) ?_
        simp only [Act.put, List.setIfInBounds_toArray, List.set_cons_zero, List.set_cons_succ]
        refine wpQ_run rfl (.pointer (some ⟨g, 0, none⟩)) (fun w' hw => by simp [go_sem]) ?_
        simp only [Act.put, List.setIfInBounds_toArray, List.set_cons_zero, List.set_cons_succ]
        refine wpQ_run rfl (.string s) (fun w' hw => by have := (HX.out.after hw).cell 0 rfl; simp [go_sem, this]) ?_
        simp only [Act.put, List.setIfInBounds_toArray, List.set_cons_zero, List.set_cons_succ]
        refine wpQ_run rfl (.int .i64 s.size) (fun w' hw => by simp [go_sem]) ?_
        simp only [Act.put, List.setIfInBounds_toArray, List.set_cons_zero, List.set_cons_succ]
        refine wpQ_run rfl (.bool true) (fun w' hw => by simp [go_sem]; omega) ?_
        simp only [Act.put, List.setIfInBounds_toArray, List.set_cons_zero, List.set_cons_succ]
        refine wpQ_run rfl (.bool true) (fun w' hw => by simp [go_sem]) ?_
        simp only [Act.put, List.setIfInBounds_toArray, List.set_cons_zero, List.set_cons_succ]
        refine wpQ_run rfl (.pointer (some ⟨g, 0, none⟩)) (fun w' hw => by simp [go_sem]) ?_
        simp only [Act.put, List.setIfInBounds_toArray, List.set_cons_zero, List.set_cons_succ]
        refine wpQ_run rfl (.pointer (some ⟨g, 0, none⟩)) (fun w' hw => by simp [go_sem]) ?_
        simp only [Act.put, List.setIfInBounds_toArray, List.set_cons_zero, List.set_cons_succ]
        refine wpQ_run rfl (.pointer (some ⟨g, 0, none⟩)) (fun w' hw => by simp [go_sem]) ?_
        simp only [Act.put, List.setIfInBounds_toArray, List.set_cons_zero, List.set_cons_succ]
        refine wpQ_run rfl (.string s) (fun w' hw => by have := (HX.out.after hw).cell 0 rfl; simp [go_sem, this]) ?_
        simp only [Act.put, List.setIfInBounds_toArray, List.set_cons_zero, List.set_cons_succ]
        refine wpQ_run rfl (.pointer (some ⟨g, 0, none⟩)) (fun w' hw => by simp [go_sem]) ?_
        simp only [Act.put, List.setIfInBounds_toArray, List.set_cons_zero, List.set_cons_succ]
        refine wpQ_run rfl (.pointer (some ⟨g, 0, none⟩)) (fun w' hw => by simp [go_sem]) ?_
        simp only [Act.put, List.setIfInBounds_toArray, List.set_cons_zero, List.set_cons_succ]
        refine wpQ_run rfl (.pointer (some ⟨g, 1, none⟩)) (fun w' hw => by simp [go_sem]) ?_
        simp only [Act.put, List.setIfInBounds_toArray, List.set_cons_zero, List.set_cons_succ]
        refine wpQ_run rfl (.int .i64 k) (fun w' hw => by have := (HX.out.after hw).cell 1 rfl; simp [go_sem, this]) ?_
        simp only [Act.put, List.setIfInBounds_toArray, List.set_cons_zero, List.set_cons_succ]
        refine wpQ_run rfl (.int .u8 (c.toNat : Int)) (fun w' hw => by rw [HCH.out, ← getD_byte s k hlt]; simp [go_sem, hlt, hk0, hk1]) ?_
        simp only [Act.put, List.setIfInBounds_toArray, List.set_cons_zero, List.set_cons_succ]
        refine wpQ_call rfl 34 #[.string ⟨#[32, 9, 10, 11, 12, 13]⟩, .int .u8 (c.toNat : Int)] (fun w' => by simp [go_sem]) (.bool false) (Nat.le_refl _) (fun w' => (is_any _ c w').mono (fun e w2 h => by obtain ⟨rfl, rfl⟩ := h; exact ⟨by show Ending.returned (.bool (isIn blankL c)) = _; rw [HBL.out], Below.refl _ _⟩)) ?_
        simp only [Act.put, List.setIfInBounds_toArray, List.set_cons_zero, List.set_cons_succ]
        refine wpQ_run rfl (.bool false) (fun w' hw => by simp [go_sem]) ?_
        simp only [Act.put, List.setIfInBounds_toArray, List.set_cons_zero, List.set_cons_succ]
        intro w1 hb1
        have HX1 := Lib.hid (HX.out.after hb1)
        have HB1 := Lib.hid (hbut.trans (But.ofBelow (S := fun _ => False) hb1) (fun _ h => h.elim))
        clear hb1
        go_wp2_with fail
        exact bodyPost_ret (results_none rfl _ _ _) rfl ⟨rfl, by rw [← hsk.out, skipN_other (by omega) (by rw [HGK.out]; exact HBB.out)]; exact HX1.out, HB1.out⟩
    · have hk1 : ¬ (k : Int) < s.size := by omega
      have x0 := HX.out.cell 0 rfl
      have x1 := HX.out.cell 1 rfl
      go_upto_region 0 with fail
      go_quiet (fail)
      go_wp2_with fail
      exact bodyPost_ret (results_none rfl _ _ _) rfl ⟨rfl, by rw [← hsk.out, skipN_end (by omega)]; exact HX.out.drewN _, hbut.drewN _⟩

end Go.Proofs.YtkbblhioncecmaaGreatDoor
namespace Go.Proofs.YtkbblhioncecmaaGreatDoor
open Go.RowKit
set_option linter.unusedSimpArgs false
set_option linter.unusedVariables false

theorem bld_keep {T e : TypeId} {B b : Nat} {bs : List Value} {w w' : World} (h : Lib.IsBuilder T e B b bs w) (hk : ∀ k, B ≤ k → k < w.heap.size → w'.heap[k]? = w.heap[k]?) : Lib.IsBuilder T e B b bs w' := by
  have one : ∀ p, Lib.BuilderAt T e B b p bs w → Lib.BuilderAt T e B b p bs w' := by
    rintro p ⟨hB, v, hb, hown, hne⟩
    have hlt : ∀ k o, w.heap[k]? = some o → k < w.heap.size := fun k o h => by
      rcases Nat.lt_or_ge k w.heap.size with h' | h'
      · exact h'
      · rw [Array.getElem?_eq_none h'] at h; cases h
    refine ⟨hB, v, (hk b hB (hlt b _ hb)).trans hb, ⟨hown.1, ?_⟩, hne⟩
    rcases hown.2 with h2 | ⟨g, cap, cur, h2, h3, h4, h5⟩
    · exact .inl h2
    · exact .inr ⟨g, cap, cur, h2, h3, (hk g h3 (hlt g _ h4)).trans h4, h5⟩
  exact h.imp (one _) (one _)
theorem bld_after {T e : TypeId} {B b : Nat} {bs : List Value} {w w' : World} (h : Lib.IsBuilder T e B b bs w) (hb : Below w.heap.size w w') : Lib.IsBuilder T e B b bs w' := bld_keep h fun k _ hk => hb.block k hk
theorem bld_set {T e : TypeId} {B b : Nat} {bs : List Value} {w : World} (h : Lib.IsBuilder T e B b bs w) {a : Addr} (ha : a.block < B) (v : Value) : Lib.IsBuilder T e B b bs (w.setCell a v) := bld_keep h fun k hk _ => Below.heap_setCell w a v k (fun e => by omega)

theorem but_below {S : Nat → Prop} {w w1 w2 : World} (h : But S w w1) (hb : Below w.heap.size w1 w2) : But S w w2 :=
  ⟨hb.os.trans h.os, hb.tape.trans h.tape, hb.output.trans h.output, Nat.le_trans h.size hb.size, fun k hk hS => (hb.block k hk).trans (h.block k hk hS)⟩
theorem pre_pre (a b : List UInt8) (R : BR) : (R.pre b).pre a = R.pre (a ++ b) := by
  unfold BR.pre
  by_cases h : R.e = 0
  · simp [h]
  · simp [h]
theorem pre_nil (R : BR) : R.pre [] = R := by
  unfold BR.pre
  split
  · rename_i h
    obtain ⟨b, p, e⟩ := R
    simp at h ⊢
    exact h.symm
  · rfl
theorem nSome_end {good : UInt8 → Bool} {en : UInt8} {l : List UInt8} {k : Nat} (h : l.length ≤ k) : nSome good en (l.drop k) k = BR.err k 2 := by rw [List.drop_eq_nil_of_le h]; rfl
theorem nSome_step {good : UInt8 → Bool} {en : UInt8} {l : List UInt8} {k : Nat} (h : k < l.length) : nSome good en (l.drop k) k = if l.getD k 0 = en then ⟨[], k, 0⟩ else if !good (l.getD k 0) && !blankB (l.getD k 0) then BR.err k 3 else
    (nSome good en (l.drop (k + 1)) (k + 1)).pre (if good (l.getD k 0) then [l.getD k 0] else []) := by
  rw [List.drop_eq_getElem_cons h]
  have e : l.getD k 0 = l[k] := by rw [List.getD_eq_getElem?_getD, List.getElem?_eq_getElem h]; rfl
  rw [e, nSome]
  split
  · rfl
  · split
    · rfl
    · unfold BR.pre
      generalize nSome good en (l.drop (k + 1)) (k + 1) = x
      by_cases hx : x.e = 0
      · simp only [hx, if_true]
        cases good l[k] <;> simp
      · simp only [hx, if_false]
/-- where the reader stands -/
def atN (w : World) (g : Nat) : Nat := match w.cell? ⟨g, 1, none⟩ with | some (.int _ z) => z.toNat | _ => 0
theorem atN_eq {w : World} {g : Nat} {s : ByteArray} {p m : Nat} (h : Box w g 59 (RdN s p m)) : atN w g = p := by
  unfold atN
  rw [h.cell 1 rfl]
  simp
/-- until: a fault, or what is read; the reader stands at the end -/
def UntilP (g : Nat) (s : ByteArray) (m : Nat) (R : BR) (w : World) (e : Ending) (w' : World) : Prop :=
  But (fun k => k = g) w w' ∧ ((R.e ≠ 0 ∧ e = FaultN R.p R.e) ∨ (R.e = 0 ∧ e = .returned (.string ⟨R.b.toArray⟩) ∧ Box w' g 59 (RdN s R.p m)))
theorem un_no {g : Nat} {s : ByteArray} {m p e : Nat} {R : BR} (h : R = BR.err p e) (he : e ≠ 0) {w w' : World} (hb : But (fun k => k = g) w w') : UntilP g s m R w (FaultN p e) w' := by
  subst h
  exact ⟨hb, .inl ⟨he, rfl⟩⟩
theorem un_yes {g : Nat} {s : ByteArray} {m p : Nat} {b : List UInt8} {R : BR} (h : R = ⟨b, p, 0⟩) {w w' : World} (hb : But (fun k => k = g) w w') (hX : Box w' g 59 (RdN s p m)) : UntilP g s m R w (.returned (.string ⟨b.toArray⟩)) w' := by
  subst h
  exact ⟨hb, .inr ⟨rfl, rfl, hX⟩⟩

set_option maxHeartbeats 8000000 in
set_option maxRecDepth 100000 in
theorem untilN_any (good : UInt8 → Bool) (en : UInt8) (S : ByteArray) (hgood : ∀ c, isIn S.data.toList c = good c) (g : Nat) (s : ByteArray) (p m : Nat) (w : World) (hX : Box w g 59 (RdN s p m)) (hs : s.size ≤ 1000000) (hp : p ≤ s.size) :
    Calls Tryz.prog 41 #[.pointer (some ⟨g, 0, none⟩), .string S, .int .u8 (en.toNat : Int)] w (UntilP g s m (nSome good en (s.data.toList.drop p) p) w) := by
  have HG := Lib.hid hgood
  obtain ⟨R, hR⟩ : ∃ R, R = nSome good en (s.data.toList.drop p) p := ⟨_, rfl⟩
  rw [← hR]
  have HR := Lib.hid hR
  have hgw := hX.lt
  have HX := Lib.hid hX
  have HL : Hid (s.data.toList.length = s.size) := Lib.hid (by simp)
  clear hgood hR hX
  go_enter Tryz.func41, Tryz.ntmps41
  go_wp2_with fail
  go_loopw [] (fun wr => ∃ (k : Nat) (d : List UInt8), k ≤ s.size ∧ d.length ≤ k ∧ Hid (R = (nSome good en (s.data.toList.drop k) k).pre d) ∧ Box wr g 59 (RdN s k m) ∧ Lib.IsBuilder 52 5 w.heap.size w.heap.size (Lib.byteCells d) wr ∧ But (fun k => k = g) w wr) (fun wr => s.size + 1 - atN wr g)
  case atStart => exact ⟨p, [], hp, Nat.zero_le _, Lib.hid (by rw [HR.out, pre_nil]), HX.out.after ((Below.refl _ _).alloc (Nat.le_refl _) _), Lib.fresh_isBuilder _ _ _, But.ofBelow ((Below.refl _ _).alloc (Nat.le_refl _) _)⟩
  case round =>
    obtain ⟨k, d, hk, hd, HRK, hX2, hbl, hbut⟩ := hrel
    clear HX HR
    have HAT := Lib.hid (atN_eq hX2)
    have HX := Lib.hid hX2
    have HBL := Lib.hid hbl
    have HBU := Lib.hid hbut
    clear hX2 hbl hbut
    go_wp2_with fail
    refine (peek_any g s k m wr HX.out hs).mono ?_
    rintro e w1 ⟨hb1, ⟨h1, rfl⟩ | ⟨h1, rfl⟩⟩
    · unfold FaultN
      go_wp2_with fail
      exact ⟨rfl, un_no (by rw [HRK.out, nSome_end (by rw [HL.out]; exact h1), show k = s.size by omega]; rfl) (by decide) (HBU.out.trans (But.ofBelow (S := fun _ => False) hb1) (fun _ h => h.elim))⟩
    · obtain ⟨x, hx⟩ : ∃ x, x = s.data.toList.getD k 0 := ⟨_, rfl⟩
      rw [← hx]
      have HST := Lib.hid (nSome_step (good := good) (en := en) (l := s.data.toList) (k := k) (by rw [HL.out]; exact h1))
      rw [← hx] at HST
      have X1 := Lib.hid (HX.out.after hb1)
      have L1 := Lib.hid (bld_after HBL.out hb1)
      have U1 := Lib.hid (HBU.out.trans (But.ofBelow (S := fun _ => False) hb1) (fun _ h => h.elim))
      clear hx hb1 HX HBL HBU
      by_cases he : x = en
      · have e1 : ((x.toNat : Int) == (en.toNat : Int)) = true := by rw [he]; simp
        have HE := Lib.hid he
        clear he
        go_wp2_with fail
        refine (bldOut _ _ _ _ L1.out U1.out.size).mono ?_
        rintro e w2 ⟨rfl, hb2⟩
        have HB2 := Lib.hid hb2
        clear hb2
        go_wp2_with fail
        go_ret
        exact un_yes (by rw [HRK.out, HST.out, if_pos HE.out]; simp [BR.pre]) (but_below U1.out HB2.out) (X1.out.below HB2.out hgw)
      · obtain ⟨z1, z2⟩ := byteNe he
        have HE := Lib.hid he
        clear he
        cases hgd : good x with
        | true =>
          have HGD := Lib.hid hgd
          clear hgd
          go_wp2_with fail
          refine (is_any S x _).mono ?_
          rintro e w2 ⟨rfl, rfl⟩
          rw [HG.out x, HGD.out]
          go_wp2_with fail
          refine (bldByte _ _ _ _ _ L1.out (by rw [byteCells_length]; omega) U1.out.size).mono ?_
          rintro e w3 ⟨rfl, hB3, hb3⟩
          rw [byteCells_snoc] at hB3
          have X3 := X1.out.below hb3 hgw
          have x1 := X3.cell 1 rfl
          have f1 := X3.frozen 1
          have HX3 := Lib.hid X3
          have L3 := Lib.hid hB3
          have U3 := Lib.hid (but_below U1.out hb3)
          clear hB3 hb3 X3
          have hk6 : (k : Int) ≤ 1000000 := by omega
          go_wp2_with fail
          have X4 : Box (w3.setCell ⟨g, 1, none⟩ (.int .i64 ((k : Int) + 1))) g 59 (RdN s (k + 1) m) := HX3.out.set 1 _
          have e4 := atN_eq X4
          go_roundw
          case rel => exact ⟨k + 1, d ++ [x], by omega, by simp; omega, Lib.hid (by rw [HRK.out, HST.out, if_neg HE.out, HGD.out]; simp [pre_pre]), X4, bld_set L3.out (a := ⟨g, 1, none⟩) hgw _, U3.out.setCell (p := ⟨g, 1, none⟩) (.inl rfl) _⟩
          case measure => rw [HAT.out, e4]; omega
        | false =>
          have HGD := Lib.hid hgd
          clear hgd
          go_wp2_with fail
          refine (is_any S x _).mono ?_
          rintro e w2 ⟨rfl, rfl⟩
          rw [HG.out x, HGD.out]
          have hib : isIn blankL x = blankB x := by have := isIn_blank ⟨x.toNat, x.toNat_lt⟩; rwa [byte_fin] at this
          cases hbb : blankB x with
          | true =>
            have HBB := Lib.hid hbb
            rw [hbb] at hib
            have HIB := Lib.hid hib
            clear hbb hib
            go_wp2_with fail
            refine (is_any _ x _).mono ?_
            rintro e w3 ⟨rfl, rfl⟩
            have hz : isIn (ByteArray.mk #[32, 9, 10, 11, 12, 13]).data.toList x = true := HIB.out
            rw [hz]
            clear hz
            have x1 := X1.out.cell 1 rfl
            have f1 := X1.out.frozen 1
            have hk6 : (k : Int) ≤ 1000000 := by omega
            go_wp2_with fail
            have X4 : Box (w3.setCell ⟨g, 1, none⟩ (.int .i64 ((k : Int) + 1))) g 59 (RdN s (k + 1) m) := X1.out.set 1 _
            have e4 := atN_eq X4
            go_roundw
            case rel => exact ⟨k + 1, d, by omega, by omega, Lib.hid (by rw [HRK.out, HST.out, if_neg HE.out, HGD.out, HBB.out]; simp [pre_nil]), X4, bld_set L1.out (a := ⟨g, 1, none⟩) hgw _, U1.out.setCell (p := ⟨g, 1, none⟩) (.inl rfl) _⟩
            case measure => rw [HAT.out, e4]; omega
          | false =>
            have HBB := Lib.hid hbb
            rw [hbb] at hib
            have HIB := Lib.hid hib
            clear hbb hib
            go_wp2_with fail
            refine (is_any _ x _).mono ?_
            rintro e w3 ⟨rfl, rfl⟩
            have hz : isIn (ByteArray.mk #[32, 9, 10, 11, 12, 13]).data.toList x = false := HIB.out
            rw [hz]
            clear hz
            have x1 := X1.out.cell 1 rfl
            go_wp2_with fail
            refine (wrong_any k 3 _).mono ?_
            rintro e w4 ⟨rfl, rfl⟩
            unfold FaultN
            go_wp2_with fail
            exact ⟨rfl, un_no (by rw [HRK.out, HST.out, if_neg HE.out, HGD.out, HBB.out]; rfl) (by decide) U1.out⟩

end Go.Proofs.YtkbblhioncecmaaGreatDoor
namespace Go.Proofs.YtkbblhioncecmaaGreatDoor
open Go.RowKit
set_option linter.unusedSimpArgs false
set_option linter.unusedVariables false

/-- bytes handed back, the call's own, or none -/
def GaveO (o : Option (List UInt8)) (v : Value) (B : Nat) (w : World) (e : Ending) (w' : World) : Prop :=
  ∃ a n c, e = .returned (.tuple #[.slice a n c, v]) ∧ Sl w' a n c (o.getD []) ∧ InB (fun k => B ≤ k) a n ∧ Below B w w'
set_option maxHeartbeats 1000000 in
set_option maxRecDepth 100000 in
theorem unhexO_any (s : ByteArray) (w : World) (hs : s.size ≤ 1000000000) :
    Calls Tryz.prog 57 #[.string s] w (GaveO (unhex s.data.toList) (.int .i64 (errForm (unhex s.data.toList))) w.heap.size w) := by
  obtain ⟨R, hR⟩ : ∃ R, R = unhex s.data.toList := ⟨_, rfl⟩
  rw [← hR]
  have HR := Lib.hid hR
  clear hR
  by_cases ho : s.size % 2 = 1
  · have hodd : R = none := by rw [HR.out]; exact unhex_odd _ (by simpa using ho)
    subst hodd
    have h1 : (0 : Int) < (s.size : Int) % 2 := by omega
    go_enter Tryz.func57, Tryz.ntmps57
    go_wp2_with fail
    go_ret2
    exact ⟨none, 0, 0, rfl, sl_nil w, .inl rfl, Below.refl _ _⟩
  · have h1 : ((s.size : Int) % 2) ≤ 0 := by omega
    have h2 : s.size % 2 = 0 := by omega
    have H2 := Lib.hid h2
    clear ho h2
    obtain ⟨i0, hi, hz0, hz1, hz2⟩ := info_parts bldInfo5
    go_enter Tryz.func57, Tryz.ntmps57
    go_wp2_with fail
    clear h1
    go_loopw [4, 5] (fun out i wr => ∃ (k : Nat) (d : List UInt8), k ≤ s.size ∧ Hid (k % 2 = 0) ∧ i = .int .i64 k ∧ wr.ownsRow w.heap.size 5 1 out d.length (Lib.byteCells d) ∧ Hid (R = (unhex (s.data.toList.drop k)).map (d ++ ·)) ∧ d.length ≤ k ∧ Below w.heap.size w wr)
      (fun _ i _ => s.size - (intOf i).toNat)
    case atStart => exact ⟨0, [], Nat.zero_le _, Lib.hid rfl, rfl, World.ownsRow_nil _ _ _ _, Lib.hid (by rw [HR.out]; simp), Nat.le_refl _, Below.refl _ _⟩
    case round =>
      obtain ⟨k, d, hk, HK, rfl, hown, HD, hdl, hW⟩ := hrel
      by_cases hlt : k < s.size
      · have hk1 : k + 1 < s.size := by have := HK.out; have := H2.out; omega
        have HU := Lib.hid (unhex_drop s k hk1)
        obtain ⟨c1, hc1⟩ : ∃ c1, c1 = s[k]'hlt := ⟨_, rfl⟩
        obtain ⟨c2, hc2⟩ : ∃ c2, c2 = s[k + 1]'hk1 := ⟨_, rfl⟩
        have HU' : Hid (unhex (s.data.toList.drop k) = match hval c1.toNat, hval c2.toNat with
            | some x, some y => (unhex (s.data.toList.drop (k + 2))).map (UInt8.ofNat (16 * x + y) :: ·)
            | _, _ => none) := by rw [hc1, hc2]; exact HU
        clear HU
        have e1 := hc1.symm
        have e2 := hc2.symm
        clear hc1 hc2
        cases h1 : hval c1.toNat with
        | none =>
          have q1 := hvalI_none c1 h1
          have HV := Lib.hid (show R = none by
            have := HD.out; rw [HU'.out, h1] at this; simpa using this)
          clear h1 HU' HD
          go_wp2_with fail
          go_quiet ((go_at_call 75; exact Calls.quiet_of_same (digit_any _ _)))
          go_wp2_with fail
          go_ret2
          exact ⟨none, 0, 0, by rw [HV.out]; rfl, by rw [HV.out]; exact sl_nil _, .inl rfl, below_drewN hW _⟩
        | some x =>
          cases h2 : hval c2.toNat with
          | none =>
            have q1 := hvalI_some c1 x h1
            have q2 := hvalI_none c2 h2
            have HV := Lib.hid (show R = none by
              have := HD.out; rw [HU'.out, h1, h2] at this; simpa using this)
            clear h1 h2 HU' HD
            go_wp2_with fail
            go_quiet ((go_at_call 75; exact Calls.quiet_of_same (digit_any _ _)))
            go_wp2_with fail
            go_ret2
            exact ⟨none, 0, 0, by rw [HV.out]; rfl, by rw [HV.out]; exact sl_nil _, .inl rfl, below_drewN hW _⟩
          | some y =>
            have q1 := hvalI_some c1 x h1
            have q2 := hvalI_some c2 y h2
            have lx := hval_lt _ _ h1
            have ly := hval_lt _ _ h2
            obtain ⟨z, hz⟩ : ∃ z : Nat, z = 16 * x + y := ⟨_, rfl⟩
            have q3 := i64_join x y lx ly
            rw [← hz] at q3
            have lz : z < 256 := by omega
            have HV := Lib.hid (show R = (unhex (s.data.toList.drop (k + 2))).map ((d ++ [UInt8.ofNat z]) ++ ·) by
              have := HD.out; rw [HU'.out, h1, h2] at this; rw [this, hz]; simp [Function.comp_def])
            clear h1 h2 HU' HD hz
            go_wp2_with fail
            go_quiet ((go_at_call 75; exact Calls.quiet_of_same (digit_any _ _)))
            have hownq : (wr.drewN nq).ownsRow w.heap.size 5 1 _ d.length (Lib.byteCells d) := hown
            go_wp2_with (at_builtin; go_loud (refine wpList_append_sl rfl (.tmp 33) (.tmp 39) 23 rfl w.heap.size 5 i0 Tryz.underlying23 hi hz0 hz1 hz2 _ d.length d rfl (hownq.alloc _) (some ⟨wr.heap.size, 0, none⟩) 1 1 [UInt8.ofNat z] rfl (sl_cell_nat _ _ z lz (cell_new _ _ _ rfl)) (by omega) (by have := hW.size; simp; omega) ?_); intro v1 w1 hown1 hg1)
            have hW1 := ((below_drewN hW nq).alloc (by have := hW.size; simp; omega) _).grown hg1 (by have := hW.size; simp; omega) (fun k hk => (hownq.lt k hk).1)
            go_wp2_with fail
            go_roundw
            case rel => exact ⟨k + 2, d ++ [UInt8.ofNat z], by omega, Lib.hid (by have := HK.out; omega), by go_num, by simpa using hown1, HV, by simp; omega, hW1⟩
            case measure => simp [intOf]; omega
      · obtain rfl : k = s.size := by omega
        have HV := Lib.hid (show R = some d by
          have := HD.out; rw [List.drop_of_length_le (by simp)] at this; simpa [unhex] using this)
        clear HD
        go_wp2_with fail
        obtain ⟨a, c, rfl, hsl⟩ := Sl.ofOwns hown
        go_ret2
        exact ⟨a, d.length, c, by rw [HV.out]; rfl, by rw [HV.out]; exact hsl, .inr (fun b o s e => (hown.lt b (by rw [e]; rfl)).1), hW⟩
set_option maxHeartbeats 8000000 in
set_option maxRecDepth 100000 in
theorem unbO_any (s : ByteArray) (w : World) (hs : s.size ≤ 100000) :
    Calls Tryz.prog 40 #[.string s] w (GaveO (unb64 s.data.toList) (.int .i64 (errForm (unb64 s.data.toList))) w.heap.size w) := by
  obtain ⟨R, hR⟩ : ∃ R, R = unb64 s.data.toList := ⟨_, rfl⟩
  rw [← hR]
  have HR := Lib.hid hR
  have HSL := Lib.hid (show s.toList = s.data.toList from Lib.toList_data s)
  clear hR
  obtain ⟨i0, hi, hz0, hz1, hz2⟩ := info_parts bldInfo5
  go_enter Tryz.func40, Tryz.ntmps40
  go_wp2_with fail
  go_loopw [4, 5] (fun out rest wr => ∃ (r : ByteArray) (d : List UInt8), rest = .string r ∧ wr.ownsRow w.heap.size 5 1 out d.length (Lib.byteCells d) ∧ Hid (unb s.data.toList = d ++ unb r.data.toList) ∧ d.length + r.size ≤ s.size ∧ Below w.heap.size w wr) (fun _ rest _ => strLen rest)
  case atStart => exact ⟨s, [], rfl, World.ownsRow_nil _ _ _ _, Lib.hid (by simp), by simp, Below.refl _ _⟩
  case round =>
    obtain ⟨wa, rfl⟩ : ∃ wa : World, wa = wr := ⟨_, rfl⟩
    obtain ⟨r, d, rfl, hown, HD, hdl, hW⟩ := hrel
    by_cases hlt : 4 ≤ r.size
    · have hlt' : (4 : Int) ≤ (r.size : Int) := by omega
      have HU := Lib.hid (unb_drop r hlt)
      have hex : (r.extract 4 r.size).size = r.size - 4 := by simp
      obtain ⟨r', hr'⟩ : ∃ r', r' = r.extract 4 r.size := ⟨_, rfl⟩
      rw [← hr'] at HU hex
      have HEX := Lib.hid hex
      have er := hr'.symm
      obtain ⟨c0, hc0⟩ : ∃ c, c = r[0]'(by omega) := ⟨_, rfl⟩
      obtain ⟨c1, hc1⟩ : ∃ c, c = r[1]'(by omega) := ⟨_, rfl⟩
      obtain ⟨c2, hc2⟩ : ∃ c, c = r[2]'(by omega) := ⟨_, rfl⟩
      obtain ⟨c3, hc3⟩ : ∃ c, c = r[3]'(by omega) := ⟨_, rfl⟩
      rw [← hc0, ← hc1, ← hc2, ← hc3] at HU
      have e0 := hc0.symm
      have e1 := hc1.symm
      have e2 := hc2.symm
      have e3 := hc3.symm
      clear hc0 hc1 hc2 hc3 hr' hex
      cases h0 : sval c0.toNat with
      | none =>
        have q0 := svI_none c0 h0
        have HV := Lib.hid (show dec4 c0 c1 c2 c3 = [] by simp only [dec4, h0])
        have HT := Lib.hid (show unb s.data.toList = d ++ unb r'.data.toList by rw [HD.out, HU.out, HV.out]; simp)
        clear h0 HU HD
        go_wp2_with fail
        refine wp_loop_rounds 5 ?_
        rw [rounds_succ]
        go_wp2_with fail
        refine (idx_any _ _).mono ?_
        rintro e wx ⟨rfl, rfl⟩
        go_wp2_with fail
        refine wp_loop_rounds 4 ?_
        rw [rounds_succ]
        go_wp2_with fail
        go_roundw
        case rel => exact ⟨r', d, rfl, by simpa using hown, HT, by have := HEX.out; simp; omega, hW⟩
        case measure => have := HEX.out; simp [strLen]; omega
      | some k0 =>
        cases h1 : sval c1.toNat with
        | none =>
          have q0 := svI_some c0 k0 h0
          have l0 : k0 < 64 := sval_lt ⟨c0.toNat, c0.toNat_lt⟩ k0 h0
          have q1 := svI_none c1 h1
          obtain ⟨X0, hX0⟩ : ∃ X : Nat, X = k0 * 262144 := ⟨_, rfl⟩
          have f0 := u32_first k0 262144 (by omega)
          rw [← hX0] at f0
          simp at f0
          have HV := Lib.hid (show dec4 c0 c1 c2 c3 = [] by simp only [dec4, h0, h1])
          have HT := Lib.hid (show unb s.data.toList = d ++ unb r'.data.toList by rw [HD.out, HU.out, HV.out]; simp)
          have bX0 : X0 < 16777216 := by omega
          clear h0 h1 hX0 HU HD
          go_wp2_with fail
          refine wp_loop_rounds 5 ?_
          rw [rounds_succ]
          go_wp2_with fail
          refine (idx_any _ _).mono ?_
          rintro e wx ⟨rfl, rfl⟩
          go_wp2_with fail
          rw [rounds_succ]
          go_wp2_with fail
          refine (idx_any _ _).mono ?_
          rintro e wx ⟨rfl, rfl⟩
          go_wp2_with fail
          refine wp_loop_rounds 4 ?_
          rw [rounds_succ]
          go_wp2_with fail
          go_roundw
          case rel => exact ⟨r', d, rfl, by simpa using hown, HT, by have := HEX.out; simp; omega, hW⟩
          case measure => have := HEX.out; simp [strLen]; omega
        | some k1 =>
          cases h2 : sval c2.toNat with
          | none =>
            have q0 := svI_some c0 k0 h0
            have l0 : k0 < 64 := sval_lt ⟨c0.toNat, c0.toNat_lt⟩ k0 h0
            have q1 := svI_some c1 k1 h1
            have l1 : k1 < 64 := sval_lt ⟨c1.toNat, c1.toNat_lt⟩ k1 h1
            have q2 := svI_none c2 h2
            obtain ⟨X0, hX0⟩ : ∃ X : Nat, X = k0 * 262144 := ⟨_, rfl⟩
            have f0 := u32_first k0 262144 (by omega)
            rw [← hX0] at f0
            simp at f0
            obtain ⟨X1, hX1⟩ : ∃ X : Nat, X = k0 * 262144 + k1 * 4096 := ⟨_, rfl⟩
            have f1 := u32_next X0 k1 4096 18 (by omega) (by omega) (by omega) (by omega)
            rw [show X0 + k1 * 4096 = X1 by omega] at f1
            simp at f1
            obtain ⟨z0, hz0'⟩ : ∃ z : Nat, z = X1 / 65536 % 256 := ⟨_, rfl⟩
            have HV := Lib.hid (show dec4 c0 c1 c2 c3 = [UInt8.ofNat z0] by
              simp only [dec4, h0, h1, h2]
              rw [show k0 * 262144 + k1 * 4096 = X1 from hX1.symm, hz0', ofNat_256])
            have g0 : (X1 : Int) / 65536 = (z0 : Int) := by omega
            have lz0 : z0 < 256 := by omega
            have HT := Lib.hid (show unb s.data.toList = (d ++ [UInt8.ofNat z0]) ++ unb r'.data.toList by rw [HD.out, HU.out, HV.out]; simp)
            have bX0 : X0 < 16777216 := by omega
            have bX1 : X1 < 16777216 := by omega
            clear h0 h1 h2 hX0 hX1 hz0' HU HD
            go_wp2_with fail
            refine wp_loop_rounds 5 ?_
            rw [rounds_succ]
            go_wp2_with fail
            refine (idx_any _ _).mono ?_
            rintro e wx ⟨rfl, rfl⟩
            go_wp2_with fail
            rw [rounds_succ]
            go_wp2_with fail
            refine (idx_any _ _).mono ?_
            rintro e wx ⟨rfl, rfl⟩
            go_wp2_with fail
            rw [rounds_succ]
            go_wp2_with fail
            refine (idx_any _ _).mono ?_
            rintro e wx ⟨rfl, rfl⟩
            go_wp2_with fail
            refine wp_loop_rounds 4 ?_
            rw [rounds_succ]
            go_wp2_with (at_builtin; go_loud (refine wpList_append_sl rfl (.tmp 42) (.tmp 49) 23 rfl w.heap.size 5 i0 Tryz.underlying23 hi hz0 hz1 hz2 _ (d.length) (d) rfl (hown.alloc _) _ 1 1 [UInt8.ofNat z0] rfl (sl_cell_nat _ _ z0 lz0 (cell_new _ _ _ rfl)) (by omega) (by have := hW.size; simp; omega) ?_); intro v1 w1 hown1 hg1)
            have hW1 := (hW.alloc hW.size _).grown hg1 (by have := hW.size; simp; omega) (fun t ht => (hown.lt t ht).1)
            rw [rounds_succ]
            go_wp2_with fail
            go_roundw
            case rel => exact ⟨r', d ++ [UInt8.ofNat z0], rfl, by simpa using hown1, HT, by have := HEX.out; simp; omega, hW1⟩
            case measure => have := HEX.out; simp [strLen]; omega
          | some k2 =>
            cases h3 : sval c3.toNat with
            | none =>
              have q0 := svI_some c0 k0 h0
              have l0 : k0 < 64 := sval_lt ⟨c0.toNat, c0.toNat_lt⟩ k0 h0
              have q1 := svI_some c1 k1 h1
              have l1 : k1 < 64 := sval_lt ⟨c1.toNat, c1.toNat_lt⟩ k1 h1
              have q2 := svI_some c2 k2 h2
              have l2 : k2 < 64 := sval_lt ⟨c2.toNat, c2.toNat_lt⟩ k2 h2
              have q3 := svI_none c3 h3
              obtain ⟨X0, hX0⟩ : ∃ X : Nat, X = k0 * 262144 := ⟨_, rfl⟩
              have f0 := u32_first k0 262144 (by omega)
              rw [← hX0] at f0
              simp at f0
              obtain ⟨X1, hX1⟩ : ∃ X : Nat, X = k0 * 262144 + k1 * 4096 := ⟨_, rfl⟩
              have f1 := u32_next X0 k1 4096 18 (by omega) (by omega) (by omega) (by omega)
              rw [show X0 + k1 * 4096 = X1 by omega] at f1
              simp at f1
              obtain ⟨X2, hX2⟩ : ∃ X : Nat, X = k0 * 262144 + k1 * 4096 + k2 * 64 := ⟨_, rfl⟩
              have f2 := u32_next X1 k2 64 12 (by omega) (by omega) (by omega) (by omega)
              rw [show X1 + k2 * 64 = X2 by omega] at f2
              simp at f2
              obtain ⟨z0, hz0'⟩ : ∃ z : Nat, z = X2 / 65536 % 256 := ⟨_, rfl⟩
              obtain ⟨z1, hz1'⟩ : ∃ z : Nat, z = X2 / 256 % 256 := ⟨_, rfl⟩
              have HV := Lib.hid (show dec4 c0 c1 c2 c3 = [UInt8.ofNat z0, UInt8.ofNat z1] by
                simp only [dec4, h0, h1, h2, h3]
                rw [show k0 * 262144 + k1 * 4096 + k2 * 64 = X2 from hX2.symm, hz0', hz1', ofNat_256, ofNat_256])
              have g0 : (X2 : Int) / 65536 = (z0 : Int) := by omega
              have lz0 : z0 < 256 := by omega
              have g1 : (X2 : Int) / 256 % 256 = (z1 : Int) := by omega
              have lz1 : z1 < 256 := by omega
              have HT := Lib.hid (show unb s.data.toList = (d ++ [UInt8.ofNat z0, UInt8.ofNat z1]) ++ unb r'.data.toList by rw [HD.out, HU.out, HV.out]; simp)
              have bX0 : X0 < 16777216 := by omega
              have bX1 : X1 < 16777216 := by omega
              have bX2 : X2 < 16777216 := by omega
              clear h0 h1 h2 h3 hX0 hX1 hX2 hz0' hz1' HU HD
              go_wp2_with fail
              refine wp_loop_rounds 5 ?_
              rw [rounds_succ]
              go_wp2_with fail
              refine (idx_any _ _).mono ?_
              rintro e wx ⟨rfl, rfl⟩
              go_wp2_with fail
              rw [rounds_succ]
              go_wp2_with fail
              refine (idx_any _ _).mono ?_
              rintro e wx ⟨rfl, rfl⟩
              go_wp2_with fail
              rw [rounds_succ]
              go_wp2_with fail
              refine (idx_any _ _).mono ?_
              rintro e wx ⟨rfl, rfl⟩
              go_wp2_with fail
              rw [rounds_succ]
              go_wp2_with fail
              refine (idx_any _ _).mono ?_
              rintro e wx ⟨rfl, rfl⟩
              go_wp2_with fail
              refine wp_loop_rounds 4 ?_
              rw [rounds_succ]
              go_wp2_with (at_builtin; go_loud (refine wpList_append_sl rfl (.tmp 42) (.tmp 49) 23 rfl w.heap.size 5 i0 Tryz.underlying23 hi hz0 hz1 hz2 _ (d.length) (d) rfl (hown.alloc _) _ 1 1 [UInt8.ofNat z0] rfl (sl_cell_nat _ _ z0 lz0 (cell_new _ _ _ rfl)) (by omega) (by have := hW.size; simp; omega) ?_); intro v1 w1 hown1 hg1)
              have hW1 := (hW.alloc hW.size _).grown hg1 (by have := hW.size; simp; omega) (fun t ht => (hown.lt t ht).1)
              rw [rounds_succ]
              go_wp2_with (at_builtin; go_loud (refine wpList_append_sl rfl (.tmp 42) (.tmp 49) 23 rfl w.heap.size 5 i0 Tryz.underlying23 hi hz0 hz1 hz2 _ (d.length + 1) (d ++ [UInt8.ofNat z0]) rfl (hown1.alloc _) _ 1 1 [UInt8.ofNat z1] rfl (sl_cell_nat _ _ z1 lz1 (cell_new _ _ _ rfl)) (by omega) (by have := hW1.size; simp; omega) ?_); intro v2 w2 hown2 hg2)
              have hW2 := (hW1.alloc hW1.size _).grown hg2 (by have := hW1.size; simp; omega) (fun t ht => (hown1.lt t ht).1)
              rw [rounds_succ]
              go_wp2_with fail
              go_roundw
              case rel => exact ⟨r', d ++ [UInt8.ofNat z0, UInt8.ofNat z1], rfl, by simpa using hown2, HT, by have := HEX.out; simp; omega, hW2⟩
              case measure => have := HEX.out; simp [strLen]; omega
            | some k3 =>
              have q0 := svI_some c0 k0 h0
              have l0 : k0 < 64 := sval_lt ⟨c0.toNat, c0.toNat_lt⟩ k0 h0
              have q1 := svI_some c1 k1 h1
              have l1 : k1 < 64 := sval_lt ⟨c1.toNat, c1.toNat_lt⟩ k1 h1
              have q2 := svI_some c2 k2 h2
              have l2 : k2 < 64 := sval_lt ⟨c2.toNat, c2.toNat_lt⟩ k2 h2
              have q3 := svI_some c3 k3 h3
              have l3 : k3 < 64 := sval_lt ⟨c3.toNat, c3.toNat_lt⟩ k3 h3
              obtain ⟨X0, hX0⟩ : ∃ X : Nat, X = k0 * 262144 := ⟨_, rfl⟩
              have f0 := u32_first k0 262144 (by omega)
              rw [← hX0] at f0
              simp at f0
              obtain ⟨X1, hX1⟩ : ∃ X : Nat, X = k0 * 262144 + k1 * 4096 := ⟨_, rfl⟩
              have f1 := u32_next X0 k1 4096 18 (by omega) (by omega) (by omega) (by omega)
              rw [show X0 + k1 * 4096 = X1 by omega] at f1
              simp at f1
              obtain ⟨X2, hX2⟩ : ∃ X : Nat, X = k0 * 262144 + k1 * 4096 + k2 * 64 := ⟨_, rfl⟩
              have f2 := u32_next X1 k2 64 12 (by omega) (by omega) (by omega) (by omega)
              rw [show X1 + k2 * 64 = X2 by omega] at f2
              simp at f2
              obtain ⟨X3, hX3⟩ : ∃ X : Nat, X = k0 * 262144 + k1 * 4096 + k2 * 64 + k3 := ⟨_, rfl⟩
              have f3 := u32_next X2 k3 1 6 (by omega) (by omega) (by omega) (by omega)
              rw [show X2 + k3 * 1 = X3 by omega] at f3
              simp at f3
              obtain ⟨z0, hz0'⟩ : ∃ z : Nat, z = X3 / 65536 % 256 := ⟨_, rfl⟩
              obtain ⟨z1, hz1'⟩ : ∃ z : Nat, z = X3 / 256 % 256 := ⟨_, rfl⟩
              obtain ⟨z2, hz2'⟩ : ∃ z : Nat, z = X3 % 256 := ⟨_, rfl⟩
              have HV := Lib.hid (show dec4 c0 c1 c2 c3 = [UInt8.ofNat z0, UInt8.ofNat z1, UInt8.ofNat z2] by
                simp only [dec4, h0, h1, h2, h3]
                rw [show k0 * 262144 + k1 * 4096 + k2 * 64 + k3 = X3 from hX3.symm, hz0', hz1', hz2', ofNat_256, ofNat_256, ofNat_256])
              have g0 : (X3 : Int) / 65536 = (z0 : Int) := by omega
              have lz0 : z0 < 256 := by omega
              have g1 : (X3 : Int) / 256 % 256 = (z1 : Int) := by omega
              have lz1 : z1 < 256 := by omega
              have g2 : (X3 : Int) % 256 = (z2 : Int) := by omega
              have lz2 : z2 < 256 := by omega
              have HT := Lib.hid (show unb s.data.toList = (d ++ [UInt8.ofNat z0, UInt8.ofNat z1, UInt8.ofNat z2]) ++ unb r'.data.toList by rw [HD.out, HU.out, HV.out]; simp)
              have bX0 : X0 < 16777216 := by omega
              have bX1 : X1 < 16777216 := by omega
              have bX2 : X2 < 16777216 := by omega
              have bX3 : X3 < 16777216 := by omega
              clear h0 h1 h2 h3 hX0 hX1 hX2 hX3 hz0' hz1' hz2' HU HD
              go_wp2_with fail
              refine wp_loop_rounds 5 ?_
              rw [rounds_succ]
              go_wp2_with fail
              refine (idx_any _ _).mono ?_
              rintro e wx ⟨rfl, rfl⟩
              go_wp2_with fail
              rw [rounds_succ]
              go_wp2_with fail
              refine (idx_any _ _).mono ?_
              rintro e wx ⟨rfl, rfl⟩
              go_wp2_with fail
              rw [rounds_succ]
              go_wp2_with fail
              refine (idx_any _ _).mono ?_
              rintro e wx ⟨rfl, rfl⟩
              go_wp2_with fail
              rw [rounds_succ]
              go_wp2_with fail
              refine (idx_any _ _).mono ?_
              rintro e wx ⟨rfl, rfl⟩
              go_wp2_with fail
              rw [rounds_succ]
              go_wp2_with fail
              refine wp_loop_rounds 4 ?_
              rw [rounds_succ]
              go_wp2_with (at_builtin; go_loud (refine wpList_append_sl rfl (.tmp 42) (.tmp 49) 23 rfl w.heap.size 5 i0 Tryz.underlying23 hi hz0 hz1 hz2 _ (d.length) (d) rfl (hown.alloc _) _ 1 1 [UInt8.ofNat z0] rfl (sl_cell_nat _ _ z0 lz0 (cell_new _ _ _ rfl)) (by omega) (by have := hW.size; simp; omega) ?_); intro v1 w1 hown1 hg1)
              have hW1 := (hW.alloc hW.size _).grown hg1 (by have := hW.size; simp; omega) (fun t ht => (hown.lt t ht).1)
              rw [rounds_succ]
              go_wp2_with (at_builtin; go_loud (refine wpList_append_sl rfl (.tmp 42) (.tmp 49) 23 rfl w.heap.size 5 i0 Tryz.underlying23 hi hz0 hz1 hz2 _ (d.length + 1) (d ++ [UInt8.ofNat z0]) rfl (hown1.alloc _) _ 1 1 [UInt8.ofNat z1] rfl (sl_cell_nat _ _ z1 lz1 (cell_new _ _ _ rfl)) (by omega) (by have := hW1.size; simp; omega) ?_); intro v2 w2 hown2 hg2)
              have hW2 := (hW1.alloc hW1.size _).grown hg2 (by have := hW1.size; simp; omega) (fun t ht => (hown1.lt t ht).1)
              rw [rounds_succ]
              go_wp2_with (at_builtin; go_loud (refine wpList_append_sl rfl (.tmp 42) (.tmp 49) 23 rfl w.heap.size 5 i0 Tryz.underlying23 hi hz0 hz1 hz2 _ (d.length + 1 + 1) (d ++ [UInt8.ofNat z0] ++ [UInt8.ofNat z1]) rfl (hown2.alloc _) _ 1 1 [UInt8.ofNat z2] rfl (sl_cell_nat _ _ z2 lz2 (cell_new _ _ _ rfl)) (by omega) (by have := hW2.size; simp; omega) ?_); intro v3 w3 hown3 hg3)
              have hW3 := (hW2.alloc hW2.size _).grown hg3 (by have := hW2.size; simp; omega) (fun t ht => (hown2.lt t ht).1)
              rw [rounds_succ]
              go_wp2_with fail
              go_roundw
              case rel => exact ⟨r', d ++ [UInt8.ofNat z0, UInt8.ofNat z1, UInt8.ofNat z2], rfl, by simpa using hown3, HT, by have := HEX.out; simp; omega, hW3⟩
              case measure => have := HEX.out; simp [strLen]; omega
    · have hlt' : (r.size : Int) < 4 := by omega
      have HX := Lib.hid (show unb s.data.toList = d by rw [HD.out, unb_short r (by omega)]; simp)
      clear HD
      obtain ⟨a1, c1, rfl, hS⟩ := Sl.ofOwns hown
      have HOWN : Hid (InB (fun k => w.heap.size ≤ k) a1 d.length) := Lib.hid (.inr (fun b o s e => (hown.lt b (by rw [e]; rfl)).1))
      go_wp2_with fail
      refine (base64_any _ _ _ _ _ hS (by omega)).mono ?_
      rintro e wz ⟨rfl, hbz⟩
      have hWz := hW.trans (hbz.mono hW.size)
      by_cases hq : b64 d = s.toList
      · have HR2 := Lib.hid (show R = some d by rw [HR.out, unb64, HX.out, if_pos (by rw [hq]; exact HSL.out)])
        go_wp2_with fail
        go_ret2
        exact ⟨a1, _, c1, by rw [HR2.out]; rfl, by rw [HR2.out]; exact hS.after hbz, HOWN.out, hWz⟩
      · have HR2 := Lib.hid (show R = none by rw [HR.out, unb64, HX.out, if_neg (by intro hh; exact hq (hh.trans HSL.out.symm))])
        replace hq : (b64 d == s.toList) = false := by simpa using hq
        go_wp2_with fail
        go_ret2
        exact ⟨none, 0, 0, by rw [HR2.out]; rfl, by rw [HR2.out]; exact sl_nil _, .inl rfl, hWz⟩
end Go.Proofs.YtkbblhioncecmaaGreatDoor
namespace Go.Proofs.YtkbblhioncecmaaGreatDoor
open Go.RowKit
set_option linter.unusedSimpArgs false
set_option linter.unusedVariables false

theorem isIn_of {L : List UInt8} {f : UInt8 → Bool} (h : ∀ n : Fin 256, isIn L (n.val.toUInt8) = f (n.val.toUInt8)) (c : UInt8) : isIn L c = f c := by have := h ⟨c.toNat, c.toNat_lt⟩; rwa [byte_fin] at this
theorem good64 (c : UInt8) : isIn (ByteArray.mk b64sL.toArray).data.toList c = b64C c := isIn_of isIn_b64 c
theorem good16 (c : UInt8) : isIn (ByteArray.mk hexsL.toArray).data.toList c = hexC c := isIn_of isIn_hex c
theorem nSome_len (good : UInt8 → Bool) (en : UInt8) : ∀ (l : List UInt8) (p : Nat), (nSome good en l p).b.length ≤ l.length ∧ (nSome good en l p).p ≤ p + l.length ∧ ((nSome good en l p).e = 0 → (nSome good en l p).p < p + l.length) ∧ p ≤ (nSome good en l p).p ∧ (nSome good en l p).e ≤ 3
  | [], p => by simp [nSome, BR.err]
  | c :: r, p => by
    have ih := nSome_len good en r (p + 1)
    unfold nSome
    split
    · simp
    · split
      · simp [BR.err]
      · dsimp only
        split
        · rename_i h0
          have := ih.2.2.1 h0
          refine ⟨?_, by simp only [List.length_cons]; omega, fun _ => by simp only [List.length_cons]; omega, by dsimp only; omega, by simp⟩
          simp only [List.length_cons]
          split
          · simp only [List.length_cons]; omega
          · omega
        · rename_i h0
          refine ⟨by simp only [List.length_cons]; omega, by simp only [List.length_cons]; omega, fun h => absurd h h0, by omega, ih.2.2.2.2⟩
/-- bytes that were read: a fault, or they, the call's own -/
def BytesN (g : Nat) (s : ByteArray) (m : Nat) (R : BR) (w : World) (e : Ending) (w' : World) : Prop :=
  But (fun k => k = g) w w' ∧ ((R.e ≠ 0 ∧ e = FaultN R.p R.e) ∨ (R.e = 0 ∧ ∃ a n c, e = .returned (.slice a n c) ∧ Sl w' a n c R.b ∧ InB (fun k => w.heap.size ≤ k) a n ∧ Box w' g 59 (RdN s R.p m)))
theorem bn_no {g : Nat} {s : ByteArray} {m p e : Nat} {R : BR} (h : R = BR.err p e) (he : e ≠ 0) {w w' : World} (hb : But (fun k => k = g) w w') : BytesN g s m R w (FaultN p e) w' := by
  subst h
  exact ⟨hb, .inl ⟨he, rfl⟩⟩
theorem bn_yes {g : Nat} {s : ByteArray} {m p : Nat} {b : List UInt8} {R : BR} (h : R = ⟨b, p, 0⟩) {w w' : World} (hb : But (fun k => k = g) w w') {a : Option Addr} {n c : Nat} (hs : Sl w' a n c b) (hi : InB (fun k => w.heap.size ≤ k) a n) (hX : Box w' g 59 (RdN s p m)) : BytesN g s m R w (.returned (.slice a n c)) w' := by
  subst h
  exact ⟨hb, .inr ⟨rfl, a, n, c, rfl, hs, hi, hX⟩⟩
theorem errForm_some (b : List UInt8) : errForm (some b) = 0 := rfl
theorem errForm_none : errForm (none : Option (List UInt8)) = 3 := rfl

set_option maxHeartbeats 8000000 in
set_option maxRecDepth 100000 in
theorem base64N_any (en : UInt8) (g : Nat) (s : ByteArray) (p m : Nat) (w : World) (hX : Box w g 59 (RdN s p m)) (hs : s.size ≤ 100000) (hp : p ≤ s.size) :
    Calls Tryz.prog 26 #[.pointer (some ⟨g, 0, none⟩), .int .u8 (en.toNat : Int)] w (BytesN g s m (nB64 s.data.toList p en) w) := by
  have HL : Hid (s.data.toList.length = s.size) := Lib.hid (by simp)
  obtain ⟨R, hR⟩ : ∃ R, R = nB64 s.data.toList p en := ⟨_, rfl⟩
  rw [← hR]
  have HR := Lib.hid hR
  have hgw := hX.lt
  have HX := Lib.hid hX
  clear hR hX
  have hln : (nSome b64C en (s.data.toList.drop p) p).b.length ≤ 100000 ∧ (nSome b64C en (s.data.toList.drop p) p).p ≤ 100000 := by
    have := nSome_len b64C en (s.data.toList.drop p) p
    rw [List.length_drop, HL.out] at this
    exact ⟨by omega, by omega⟩
  go_enter Tryz.func26, Tryz.ntmps26
  go_wp2_with fail
  refine (untilN_any b64C en ⟨b64sL.toArray⟩ good64 g s p m w HX.out (by omega) hp).mono ?_
  rintro e w1 ⟨b1, ⟨h1, rfl⟩ | ⟨h1, rfl, X1⟩⟩
  · unfold FaultN
    go_wp2_with fail
    exact ⟨rfl, bn_no (by rw [HR.out]; unfold nB64; dsimp only; rw [if_pos h1]) h1 b1⟩
  · have HX1 := Lib.hid X1
    have HB1 := Lib.hid b1
    have H1 := Lib.hid h1
    have HLN := Lib.hid hln
    clear X1 b1 h1 hln
    obtain ⟨x, hx⟩ : ∃ x, x = nSome b64C en (s.data.toList.drop p) p := ⟨_, rfl⟩
    rw [← hx] at HX1 H1 HLN ⊢
    have HXX := Lib.hid hx
    clear hx
    go_wp2_with fail
    refine (unbO_any ⟨x.b.toArray⟩ w1 (by have := HLN.out; show x.b.toArray.size ≤ _; simp; omega)).mono ?_
    rintro e w2 ⟨a, n, c, rfl, s2, i2, b2⟩
    have hdl : (ByteArray.mk x.b.toArray).data.toList = x.b := by simp
    rw [hdl] at s2 ⊢
    have X2 := HX1.out.after b2
    have x1 := X2.cell 1 rfl
    have f1 := X2.frozen 1
    have HX2 := Lib.hid X2
    have HS2 := Lib.hid s2
    have HI2 := Lib.hid i2
    have HB2 := Lib.hid (HB1.out.trans (But.ofBelow (S := fun _ => False) b2) (fun _ h => h.elim))
    have hz12 := HB1.out.size
    have hxp : (x.p : Int) ≤ 1000000 := by have := HLN.out.2; omega
    clear X2 s2 i2 b2 hdl
    cases hu : unb64 x.b with
    | none =>
      rw [errForm_none]
      have HU := Lib.hid hu
      clear hu
      go_wp2_with fail
      refine (wrong_any x.p 3 _).mono ?_
      rintro e w3 ⟨rfl, rfl⟩
      unfold FaultN
      go_wp2_with fail
      exact ⟨rfl, bn_no (by rw [HR.out]; unfold nB64; dsimp only; rw [← HXX.out, if_neg (by rw [H1.out]; simp), HU.out]) (by decide) HB2.out⟩
    | some b =>
      rw [errForm_some]
      have HU := Lib.hid hu
      rw [hu] at HS2
      clear hu
      go_wp2_with fail
      have e4 : But (fun k => k = g) w2 (w2.setCell ⟨g, 1, none⟩ (.int .i64 ((x.p : Int) + 1))) := (But.refl (fun k => k = g) w2).setCell (p := ⟨g, 1, none⟩) (.inl rfl) _
      go_ret
      exact bn_yes (by rw [HR.out]; unfold nB64; dsimp only; rw [← HXX.out, if_neg (by rw [H1.out]; simp), HU.out]; rfl) (HB2.out.setCell (p := ⟨g, 1, none⟩) (.inl rfl) _) (HS2.out.but e4 HI2.out (fun k hk => by omega)) (HI2.out.mono fun k hk => by omega) (HX2.out.set 1 _)

theorem hexIdx_big (c : UInt8) (h : 65 ≤ c.toNat ∧ c.toNat ≤ 70) (w : World) : Calls Tryz.prog 54 #[.string ⟨#[48, 49, 50, 51, 52, 53, 54, 55, 56, 57, 97, 98, 99, 100, 101, 102]⟩, .int .u8 ((c.toNat : Int) + 32)] w fun e w' => e = .returned (.int .i64 (hvalI c)) ∧ w' = w := by
  have hb := hvalI_big ⟨c.toNat, c.toNat_lt⟩
  simp only [UInt8.ofNat_toNat] at hb
  refine (Tryz.strings_IndexByte _ _ _).mono ?_
  rintro e w1 ⟨rfl, hw⟩
  refine ⟨?_, hw⟩
  rw [← hb h.1 h.2]
  rfl
theorem hexIdx_small (c : UInt8) (h : ¬ (65 ≤ c.toNat ∧ c.toNat ≤ 70)) (w : World) : Calls Tryz.prog 54 #[.string ⟨#[48, 49, 50, 51, 52, 53, 54, 55, 56, 57, 97, 98, 99, 100, 101, 102]⟩, .int .u8 (c.toNat : Int)] w fun e w' => e = .returned (.int .i64 (hvalI c)) ∧ w' = w := by
  have hb := hvalI_small ⟨c.toNat, c.toNat_lt⟩
  simp only [UInt8.ofNat_toNat] at hb
  refine (Tryz.strings_IndexByte _ _ _).mono ?_
  rintro e w1 ⟨rfl, hw⟩
  refine ⟨?_, hw⟩
  rw [← hb h]
  have e : ((c.toNat : Int).toNat.toUInt8) = c := by simp
  show Ending.returned (.int .i64 (Lib.indexByte hexB.data.toList ((c.toNat : Int).toNat.toUInt8))) = _
  rw [e]
/-- one byte that was read -/
def ByteN (g : Nat) (s : ByteArray) (m : Nat) (R : BR) (w : World) (e : Ending) (w' : World) : Prop :=
  But (fun k => k = g) w w' ∧ ((R.e ≠ 0 ∧ e = FaultN R.p R.e) ∨ (R.e = 0 ∧ ∃ c : UInt8, R.b = [c] ∧ e = .returned (.int .u8 (c.toNat : Int)) ∧ Box w' g 59 (RdN s R.p m)))
theorem by_no {g : Nat} {s : ByteArray} {m p e : Nat} {R : BR} (h : R = BR.err p e) (he : e ≠ 0) {w w' : World} (hb : But (fun k => k = g) w w') : ByteN g s m R w (FaultN p e) w' := by
  subst h
  exact ⟨hb, .inl ⟨he, rfl⟩⟩
theorem by_yes {g : Nat} {s : ByteArray} {m p : Nat} {c : UInt8} {R : BR} (h : R = ⟨[c], p, 0⟩) {w w' : World} (hb : But (fun k => k = g) w w') {z : Int} (hz : z = (c.toNat : Int)) (hX : Box w' g 59 (RdN s p m)) : ByteN g s m R w (.returned (.int .u8 z)) w' := by
  subst h hz
  exact ⟨hb, .inr ⟨rfl, c, rfl, rfl, hX⟩⟩
theorem nDigs_short {base : Nat} {l : List UInt8} {k F p X : Nat} (h : l.length ≤ p) : nDigs base l (k + 1) F p X = BR.err l.length 2 := by unfold nDigs; rw [if_pos h]
theorem nDigs_none {base : Nat} {l : List UInt8} {k F p X : Nat} (h : p < l.length) (hv : hval (l.getD p 0).toNat = none) : nDigs base l (k + 1) F p X = BR.err p 3 := by unfold nDigs; rw [if_neg (by omega), hv]
theorem nDigs_big {base : Nat} {l : List UInt8} {k F p X d : Nat} (h : p < l.length) (hv : hval (l.getD p 0).toNat = some d) (hd : ¬ (d < base ∧ d ≤ F)) : nDigs base l (k + 1) F p X = BR.err p 3 := by unfold nDigs; rw [if_neg (by omega), hv]; exact if_neg hd
theorem nDigs_more {base : Nat} {l : List UInt8} {k F p X d : Nat} (h : p < l.length) (hv : hval (l.getD p 0).toNat = some d) (hd : d < base ∧ d ≤ F) : nDigs base l (k + 1) F p X = nDigs base l k base (p + 1) (X * base + d) := by rw [nDigs, if_neg (by omega), hv]; exact if_pos hd
theorem digs_step {X d base j : Nat} (hX : X < 16 ^ j) (hd : d < 16) (hb : base ≤ 16) : X * base + d < 16 ^ (j + 1) := by
  have h1 : X * base ≤ X * 16 := Nat.mul_le_mul_left _ hb
  have h2 : (X + 1) * 16 ≤ 16 ^ j * 16 := Nat.mul_le_mul_right _ hX
  rw [Nat.pow_succ]
  omega
theorem digs_small {X j : Nat} (hX : X < 16 ^ j) (hj : j ≤ 3) : X < 4096 := Nat.lt_of_lt_of_le hX (Nat.pow_le_pow_right (n := 16) (by omega) hj)

set_option maxHeartbeats 16000000 in
set_option maxRecDepth 100000 in
theorem digitsN_any (n base first : Nat) (hn : n ≤ 3) (hb : base ≤ 16) (hf : first ≤ 16) (g : Nat) (s : ByteArray) (p m : Nat) (w : World) (hX : Box w g 59 (RdN s p m)) (hs : s.size ≤ 100000) (hp : p ≤ s.size) :
    Calls Tryz.prog 85 #[.pointer (some ⟨g, 0, none⟩), .int .i64 n, .int .i64 base, .int .i64 first] w (ByteN g s m (nDigs base s.data.toList n first p 0) w) := by
  have HL : Hid (s.data.toList.length = s.size) := Lib.hid (by simp)
  obtain ⟨R, hR⟩ : ∃ R, R = nDigs base s.data.toList n first p 0 := ⟨_, rfl⟩
  rw [← hR]
  have HR := Lib.hid hR
  have HX := Lib.hid hX
  clear hR hX
  go_enter Tryz.func85, Tryz.ntmps85
  go_wp2_with fail
  go_loopw [3, 9, 13] (fun f x i wr => ∃ (j k F X : Nat), j ≤ n ∧ k ≤ s.size ∧ f = .int .i64 F ∧ x = .int .i64 X ∧ i = .int .i64 j ∧ X < 16 ^ j ∧ F ≤ 16 ∧ Hid (nDigs base s.data.toList (n - j) F k X = R) ∧ Box wr g 59 (RdN s k m) ∧ But (fun k => k = g) w wr) (fun _ _ i _ => n - (intOf i).toNat)
  case atStart => exact ⟨0, p, first, 0, Nat.zero_le _, hp, rfl, rfl, rfl, by simp, hf, Lib.hid HR.out.symm, HX.out, But.refl _ _⟩
  case round =>
    obtain ⟨j, k, F, X, hj, hk, rfl, rfl, rfl, hXs, hF, HR2, hX2, hbut⟩ := hrel
    clear HX HR
    have HX := Lib.hid hX2
    have HBU := Lib.hid hbut
    clear hX2 hbut
    have hXm := digs_small hXs (by omega)
    by_cases hlt : j < n
    · have hlt' : (j : Int) < n := by omega
      rw [show n - j = n - (j + 1) + 1 by omega] at HR2
      go_wp2_with fail
      refine (peek_any g s k m wr HX.out (by omega)).mono ?_
      rintro e w1 ⟨hb1, ⟨h1, rfl⟩ | ⟨h1, rfl⟩⟩
      · unfold FaultN
        go_wp2_with fail
        exact ⟨rfl, by_no (by rw [← HR2.out, nDigs_short (by rw [HL.out]; exact h1), HL.out]) (by decide) (HBU.out.trans (But.ofBelow (S := fun _ => False) hb1) (fun _ h => h.elim))⟩
      · obtain ⟨x, hx⟩ : ∃ x, x = s.data.toList.getD k 0 := ⟨_, rfl⟩
        rw [← hx]
        have HXC := Lib.hid hx
        have X1 := Lib.hid (HX.out.after hb1)
        have U1 := Lib.hid (HBU.out.trans (But.ofBelow (S := fun _ => False) hb1) (fun _ h => h.elim))
        have x1 := X1.out.cell 1 rfl
        have f1 := X1.out.frozen 1
        have hx255 := x.toNat_lt
        clear hx hb1 HX HBU
        by_cases c1 : (65 : Int) ≤ (x.toNat : Int)
        · by_cases c2 : (x.toNat : Int) ≤ 70
          · have cc : 65 ≤ x.toNat ∧ x.toNat ≤ 70 := by omega
            go_wp2_with fail
            refine (hexIdx_big x cc _).mono ?_
            rintro e w2 ⟨rfl, rfl⟩
            cases hv : hval x.toNat with
            | none =>
              rw [hvalI_none x hv]
              have HV := Lib.hid hv
              clear hv
              go_wp2_with fail
              refine (wrong_any k 3 _).mono ?_
              rintro e w3 ⟨rfl, rfl⟩
              unfold FaultN
              go_wp2_with fail
              exact ⟨rfl, by_no (by rw [← HR2.out]; exact nDigs_none (by rw [HL.out]; exact h1) (by rw [← HXC.out]; exact HV.out)) (by decide) U1.out⟩
            | some d =>
              rw [hvalI_some x d hv]
              have hd16 := hval_lt _ _ hv
              have HV := Lib.hid hv
              clear hv
              by_cases hdb : d < base
              · have q1 : (d : Int) < base := by omega
                by_cases hdf : d ≤ F
                · have q2 : (d : Int) ≤ F := by omega
                  have hst := digs_step hXs hd16 hb
                  have hsm := digs_small hst (by omega)
                  obtain ⟨Y, hY⟩ : ∃ Y, Y = X * base + d := ⟨_, rfl⟩
                  have qY : (X : Int) * (base : Int) + (d : Int) = (Y : Int) := by rw [hY]; simp
                  have qm : (X : Int) * (base : Int) ≤ 1000000 := by
                    have : ((X * base : Nat) : Int) ≤ 1000000 := by omega
                    simpa using this
                  have qm0 : (0 : Int) ≤ (X : Int) * (base : Int) := by
                    have : (0 : Int) ≤ ((X * base : Nat) : Int) := Int.natCast_nonneg _
                    simpa using this
                  rw [← hY] at hst hsm
                  have HY := Lib.hid hY
                  clear hY
                  have HN2 := Lib.hid (show nDigs base s.data.toList (n - (j + 1)) base (k + 1) Y = R by
                    rw [← HR2.out, nDigs_more (by rw [HL.out]; exact h1) (by rw [← HXC.out]; exact HV.out) ⟨hdb, hdf⟩, HY.out])
                  have hk6 : (k : Int) ≤ 1000000 := by omega
                  clear HV HR2
                  go_wp2_with fail
                  have X4 : Box (w2.setCell ⟨g, 1, none⟩ (.int .i64 ((k : Int) + 1))) g 59 (RdN s (k + 1) m) := X1.out.set 1 _
                  go_roundw
                  case rel => exact ⟨j + 1, k + 1, base, Y, by omega, by omega, by rfl, by first | rfl | (rw [← qY]; rfl), by go_num, hst, hb, HN2, X4, U1.out.setCell (p := ⟨g, 1, none⟩) (.inl rfl) _⟩
                  case measure => simp [intOf]; omega
                · have q2 : (F : Int) < (d : Int) := by omega
                  go_wp2_with fail
                  refine (wrong_any k 3 _).mono ?_
                  rintro e w3 ⟨rfl, rfl⟩
                  unfold FaultN
                  go_wp2_with fail
                  exact ⟨rfl, by_no (by rw [← HR2.out]; exact nDigs_big (by rw [HL.out]; exact h1) (by rw [← HXC.out]; exact HV.out) (fun h => hdf h.2)) (by decide) U1.out⟩
              · have q1 : (base : Int) ≤ (d : Int) := by omega
                go_wp2_with fail
                refine (wrong_any k 3 _).mono ?_
                rintro e w3 ⟨rfl, rfl⟩
                unfold FaultN
                go_wp2_with fail
                exact ⟨rfl, by_no (by rw [← HR2.out]; exact nDigs_big (by rw [HL.out]; exact h1) (by rw [← HXC.out]; exact HV.out) (fun h => hdb h.1)) (by decide) U1.out⟩
          · replace c2 : (70 : Int) < (x.toNat : Int) := by omega
            have cc : ¬ (65 ≤ x.toNat ∧ x.toNat ≤ 70) := by omega
            go_wp2_with fail
            refine (hexIdx_small x cc _).mono ?_
            rintro e w2 ⟨rfl, rfl⟩
            cases hv : hval x.toNat with
            | none =>
              rw [hvalI_none x hv]
              have HV := Lib.hid hv
              clear hv
              go_wp2_with fail
              refine (wrong_any k 3 _).mono ?_
              rintro e w3 ⟨rfl, rfl⟩
              unfold FaultN
              go_wp2_with fail
              exact ⟨rfl, by_no (by rw [← HR2.out]; exact nDigs_none (by rw [HL.out]; exact h1) (by rw [← HXC.out]; exact HV.out)) (by decide) U1.out⟩
            | some d =>
              rw [hvalI_some x d hv]
              have hd16 := hval_lt _ _ hv
              have HV := Lib.hid hv
              clear hv
              by_cases hdb : d < base
              · have q1 : (d : Int) < base := by omega
                by_cases hdf : d ≤ F
                · have q2 : (d : Int) ≤ F := by omega
                  have hst := digs_step hXs hd16 hb
                  have hsm := digs_small hst (by omega)
                  obtain ⟨Y, hY⟩ : ∃ Y, Y = X * base + d := ⟨_, rfl⟩
                  have qY : (X : Int) * (base : Int) + (d : Int) = (Y : Int) := by rw [hY]; simp
                  have qm : (X : Int) * (base : Int) ≤ 1000000 := by
                    have : ((X * base : Nat) : Int) ≤ 1000000 := by omega
                    simpa using this
                  have qm0 : (0 : Int) ≤ (X : Int) * (base : Int) := by
                    have : (0 : Int) ≤ ((X * base : Nat) : Int) := Int.natCast_nonneg _
                    simpa using this
                  rw [← hY] at hst hsm
                  have HY := Lib.hid hY
                  clear hY
                  have HN2 := Lib.hid (show nDigs base s.data.toList (n - (j + 1)) base (k + 1) Y = R by
                    rw [← HR2.out, nDigs_more (by rw [HL.out]; exact h1) (by rw [← HXC.out]; exact HV.out) ⟨hdb, hdf⟩, HY.out])
                  have hk6 : (k : Int) ≤ 1000000 := by omega
                  clear HV HR2
                  go_wp2_with fail
                  have X4 : Box (w2.setCell ⟨g, 1, none⟩ (.int .i64 ((k : Int) + 1))) g 59 (RdN s (k + 1) m) := X1.out.set 1 _
                  go_roundw
                  case rel => exact ⟨j + 1, k + 1, base, Y, by omega, by omega, by rfl, by first | rfl | (rw [← qY]; rfl), by go_num, hst, hb, HN2, X4, U1.out.setCell (p := ⟨g, 1, none⟩) (.inl rfl) _⟩
                  case measure => simp [intOf]; omega
                · have q2 : (F : Int) < (d : Int) := by omega
                  go_wp2_with fail
                  refine (wrong_any k 3 _).mono ?_
                  rintro e w3 ⟨rfl, rfl⟩
                  unfold FaultN
                  go_wp2_with fail
                  exact ⟨rfl, by_no (by rw [← HR2.out]; exact nDigs_big (by rw [HL.out]; exact h1) (by rw [← HXC.out]; exact HV.out) (fun h => hdf h.2)) (by decide) U1.out⟩
              · have q1 : (base : Int) ≤ (d : Int) := by omega
                go_wp2_with fail
                refine (wrong_any k 3 _).mono ?_
                rintro e w3 ⟨rfl, rfl⟩
                unfold FaultN
                go_wp2_with fail
                exact ⟨rfl, by_no (by rw [← HR2.out]; exact nDigs_big (by rw [HL.out]; exact h1) (by rw [← HXC.out]; exact HV.out) (fun h => hdb h.1)) (by decide) U1.out⟩
        · replace c1 : (x.toNat : Int) < 65 := by omega
          have cc : ¬ (65 ≤ x.toNat ∧ x.toNat ≤ 70) := by omega
          go_wp2_with fail
          refine (hexIdx_small x cc _).mono ?_
          rintro e w2 ⟨rfl, rfl⟩
          cases hv : hval x.toNat with
          | none =>
            rw [hvalI_none x hv]
            have HV := Lib.hid hv
            clear hv
            go_wp2_with fail
            refine (wrong_any k 3 _).mono ?_
            rintro e w3 ⟨rfl, rfl⟩
            unfold FaultN
            go_wp2_with fail
            exact ⟨rfl, by_no (by rw [← HR2.out]; exact nDigs_none (by rw [HL.out]; exact h1) (by rw [← HXC.out]; exact HV.out)) (by decide) U1.out⟩
          | some d =>
            rw [hvalI_some x d hv]
            have hd16 := hval_lt _ _ hv
            have HV := Lib.hid hv
            clear hv
            by_cases hdb : d < base
            · have q1 : (d : Int) < base := by omega
              by_cases hdf : d ≤ F
              · have q2 : (d : Int) ≤ F := by omega
                have hst := digs_step hXs hd16 hb
                have hsm := digs_small hst (by omega)
                obtain ⟨Y, hY⟩ : ∃ Y, Y = X * base + d := ⟨_, rfl⟩
                have qY : (X : Int) * (base : Int) + (d : Int) = (Y : Int) := by rw [hY]; simp
                have qm : (X : Int) * (base : Int) ≤ 1000000 := by
                  have : ((X * base : Nat) : Int) ≤ 1000000 := by omega
                  simpa using this
                have qm0 : (0 : Int) ≤ (X : Int) * (base : Int) := by
                  have : (0 : Int) ≤ ((X * base : Nat) : Int) := Int.natCast_nonneg _
                  simpa using this
                rw [← hY] at hst hsm
                have HY := Lib.hid hY
                clear hY
                have HN2 := Lib.hid (show nDigs base s.data.toList (n - (j + 1)) base (k + 1) Y = R by
                  rw [← HR2.out, nDigs_more (by rw [HL.out]; exact h1) (by rw [← HXC.out]; exact HV.out) ⟨hdb, hdf⟩, HY.out])
                have hk6 : (k : Int) ≤ 1000000 := by omega
                clear HV HR2
                go_wp2_with fail
                have X4 : Box (w2.setCell ⟨g, 1, none⟩ (.int .i64 ((k : Int) + 1))) g 59 (RdN s (k + 1) m) := X1.out.set 1 _
                go_roundw
                case rel => exact ⟨j + 1, k + 1, base, Y, by omega, by omega, by rfl, by first | rfl | (rw [← qY]; rfl), by go_num, hst, hb, HN2, X4, U1.out.setCell (p := ⟨g, 1, none⟩) (.inl rfl) _⟩
                case measure => simp [intOf]; omega
              · have q2 : (F : Int) < (d : Int) := by omega
                go_wp2_with fail
                refine (wrong_any k 3 _).mono ?_
                rintro e w3 ⟨rfl, rfl⟩
                unfold FaultN
                go_wp2_with fail
                exact ⟨rfl, by_no (by rw [← HR2.out]; exact nDigs_big (by rw [HL.out]; exact h1) (by rw [← HXC.out]; exact HV.out) (fun h => hdf h.2)) (by decide) U1.out⟩
            · have q1 : (base : Int) ≤ (d : Int) := by omega
              go_wp2_with fail
              refine (wrong_any k 3 _).mono ?_
              rintro e w3 ⟨rfl, rfl⟩
              unfold FaultN
              go_wp2_with fail
              exact ⟨rfl, by_no (by rw [← HR2.out]; exact nDigs_big (by rw [HL.out]; exact h1) (by rw [← HXC.out]; exact HV.out) (fun h => hdb h.1)) (by decide) U1.out⟩
    · obtain rfl : j = n := by omega
      have hlt' : ¬ (j : Int) < j := by omega
      go_wp2_with fail
      go_ret
      exact by_yes (c := UInt8.ofNat X) (by rw [← HR2.out, Nat.sub_self]; rfl) HBU.out (by simp) HX.out

end Go.Proofs.YtkbblhioncecmaaGreatDoor
namespace Go.Proofs.YtkbblhioncecmaaGreatDoor
open Go.RowKit
set_option linter.unusedSimpArgs false
set_option linter.unusedVariables false

def escI (c : UInt8) : Int := match escL.idxOf? c with | some i => (i : Int) | none => -1
theorem escI_all : ∀ n : Fin 256, Lib.indexByte escL (n.val.toUInt8) = escI (n.val.toUInt8) := by decide +kernel
theorem escI_lt : ∀ n : Fin 256, ∀ i, escL.idxOf? (n.val.toUInt8) = some i → i < 9 := by decide +kernel
theorem escIdx (c : UInt8) (w : World) : Calls Tryz.prog 54 #[.string ⟨#[98, 116, 118, 110, 102, 114, 34, 39, 92]⟩, .int .u8 (c.toNat : Int)] w fun e w' => e = .returned (.int .i64 (escI c)) ∧ w' = w := by
  have hb := escI_all ⟨c.toNat, c.toNat_lt⟩
  rw [byte_fin] at hb
  refine (Tryz.strings_IndexByte _ _ _).mono ?_
  rintro e w1 ⟨rfl, hw⟩
  refine ⟨?_, hw⟩
  rw [← hb]
  have e : ((c.toNat : Int).toNat.toUInt8) = c := by simp
  show Ending.returned (.int .i64 (Lib.indexByte escL ((c.toNat : Int).toNat.toUInt8))) = _
  rw [e]
theorem escTo_get (i : Nat) (h : i < 9) : ((ByteArray.mk #[8, 9, 11, 10, 12, 13, 34, 39, 92])[i]'h) = escTo.getD i 0 := by
  match i, h with
  | 0, _ => rfl
  | 1, _ => rfl
  | 2, _ => rfl
  | 3, _ => rfl
  | 4, _ => rfl
  | 5, _ => rfl
  | 6, _ => rfl
  | 7, _ => rfl
  | 8, _ => rfl
theorem ByteN.trans {g : Nat} {s : ByteArray} {m : Nat} {R : BR} {w w1 w2 : World} {e : Ending} (hb : But (fun k => k = g) w w1) (h : ByteN g s m R w1 e w2) : ByteN g s m R w e w2 := ⟨hb.trans h.1 (fun k hk => .inl hk), h.2⟩

set_option maxHeartbeats 16000000 in
set_option maxRecDepth 100000 in
theorem escapedN_any (g : Nat) (s : ByteArray) (p m : Nat) (w : World) (hX : Box w g 59 (RdN s p m)) (hs : s.size ≤ 100000) (hp : p ≤ s.size) :
    Calls Tryz.prog 74 #[.pointer (some ⟨g, 0, none⟩)] w (ByteN g s m (nEsc s.data.toList p) w) := by
  have HL : Hid (s.data.toList.length = s.size) := Lib.hid (by simp)
  obtain ⟨R, hR⟩ : ∃ R, R = nEsc s.data.toList p := ⟨_, rfl⟩
  rw [← hR]
  have HR := Lib.hid hR
  have HX := Lib.hid hX
  clear hR hX
  go_enter Tryz.func74, Tryz.ntmps74
  go_wp2_with fail
  refine (peek_any g s p m w HX.out (by omega)).mono ?_
  rintro e w1 ⟨hb1, ⟨h1, rfl⟩ | ⟨h1, rfl⟩⟩
  · unfold FaultN
    go_wp2_with fail
    exact ⟨rfl, by_no (by rw [HR.out]; unfold nEsc; rw [if_pos (by rw [HL.out]; exact h1), HL.out]) (by decide) (But.ofBelow hb1)⟩
  · obtain ⟨x, hx⟩ : ∃ x, x = s.data.toList.getD p 0 := ⟨_, rfl⟩
    rw [← hx]
    have HR1 : Hid (R = if 48 ≤ x.toNat ∧ x.toNat ≤ 55 then nDigs 8 s.data.toList 3 3 p 0 else if x = 120 then nDigs 16 s.data.toList 2 15 (p + 1) 0 else match escL.idxOf? x with
      | some i => ⟨[escTo.getD i 0], p + 1, 0⟩
      | none => BR.err p 3) := Lib.hid (by rw [HR.out]; unfold nEsc; rw [if_neg (by rw [HL.out]; omega), ← hx] <;> rfl)
    have X1 := HX.out.after hb1
    have HX1 := Lib.hid X1
    have HBU : Hid (But (fun k => k = g) w w1) := Lib.hid (But.ofBelow hb1)
    have x1 := X1.cell 1 rfl
    have f1 := X1.frozen 1
    have hx255 := x.toNat_lt
    clear hx hb1 HX HR X1
    have hp6 : (p : Int) ≤ 1000000 := by omega
    by_cases c1 : (48 : Int) ≤ (x.toNat : Int)
    · by_cases c2 : (x.toNat : Int) ≤ 55
      · have HRE : Hid (R = nDigs 8 s.data.toList 3 3 p 0) := Lib.hid (by rw [HR1.out, if_pos (by omega)])
        go_wp2_with fail
        refine (digitsN_any 3 8 3 (by omega) (by omega) (by omega) g s p m w1 HX1.out hs (by omega)).mono ?_
        rintro e w2 ⟨b2, ⟨h2, rfl⟩ | ⟨h2, c2, hc2, rfl, X2⟩⟩
        · unfold FaultN
          go_wp2_with fail
          exact ⟨rfl, HBU.out.trans b2 (fun k hk => .inl hk), .inl ⟨by rw [HRE.out]; exact h2, by rw [HRE.out]; rfl⟩⟩
        · have HX2 := Lib.hid X2
          have HB2 := Lib.hid b2
          have H2 := Lib.hid h2
          have HC2 := Lib.hid hc2
          clear X2 b2 h2 hc2
          go_wp2_with fail
          go_ret
          exact ⟨HBU.out.trans HB2.out (fun k hk => .inl hk), .inr ⟨by rw [HRE.out]; exact H2.out, c2, by rw [HRE.out]; exact HC2.out, rfl, by rw [HRE.out]; exact HX2.out⟩⟩
      · replace c2 : (55 : Int) < (x.toNat : Int) := by omega
        have HR2 := Lib.hid (show R = if x = 120 then nDigs 16 s.data.toList 2 15 (p + 1) 0 else match escL.idxOf? x with
            | some i => ⟨[escTo.getD i 0], p + 1, 0⟩
            | none => BR.err p 3 by rw [HR1.out, if_neg (by omega)])
        by_cases h120 : x = 120
        · obtain ⟨e1, e2, e3⟩ := bEq (a := x) 120 120 rfl (by rw [h120]; rfl)
          have HRE : Hid (R = nDigs 16 s.data.toList 2 15 (p + 1) 0) := Lib.hid (by rw [HR2.out, if_pos h120])
          clear h120 e3
          go_wp2_with fail
          have X2 : Box (w1.setCell ⟨g, 1, none⟩ (.int .i64 ((p : Int) + 1))) g 59 (RdN s (p + 1) m) := HX1.out.set 1 _
          have HX2 := Lib.hid X2
          replace HBU := Lib.hid (HBU.out.setCell (p := ⟨g, 1, none⟩) (.inl rfl) (.int .i64 ((p : Int) + 1)))
          clear X2
          refine (digitsN_any 2 16 15 (by omega) (by omega) (by omega) g s (p + 1) m _ HX2.out hs (by omega)).mono ?_
          rintro e w2 ⟨b2, ⟨h2, rfl⟩ | ⟨h2, c2, hc2, rfl, X2⟩⟩
          · unfold FaultN
            go_wp2_with fail
            exact ⟨rfl, HBU.out.trans b2 (fun k hk => .inl hk), .inl ⟨by rw [HRE.out]; exact h2, by rw [HRE.out]; rfl⟩⟩
          · have HX2 := Lib.hid X2
            have HB2 := Lib.hid b2
            have H2 := Lib.hid h2
            have HC2 := Lib.hid hc2
            clear X2 b2 h2 hc2
            go_wp2_with fail
            go_ret
            exact ⟨HBU.out.trans HB2.out (fun k hk => .inl hk), .inr ⟨by rw [HRE.out]; exact H2.out, c2, by rw [HRE.out]; exact HC2.out, rfl, by rw [HRE.out]; exact HX2.out⟩⟩
        · obtain ⟨e1, e2, e3⟩ := bNe (a := x) 120 120 rfl (fun e => h120 (by rw [← UInt8.toNat_inj]; exact e))
          replace HR2 := Lib.hid (HR2.out.trans (if_neg h120))
          clear h120 e3
          go_wp2_with fail
          refine (escIdx x _).mono ?_
          rintro e w2 ⟨rfl, rfl⟩
          cases hv : escL.idxOf? x with
          | none =>
            have hi : escI x = -1 := by unfold escI; rw [hv]
            rw [hi]
            have HRE : Hid (R = BR.err p 3) := Lib.hid (by rw [HR2.out, hv])
            clear hv hi
            go_wp2_with fail
            refine (wrong_any p 3 _).mono ?_
            rintro e w3 ⟨rfl, rfl⟩
            unfold FaultN
            go_wp2_with fail
            exact ⟨rfl, by_no HRE.out (by decide) HBU.out⟩
          | some i =>
            have hi : escI x = (i : Int) := by unfold escI; rw [hv]
            rw [hi]
            have hi9 := escI_lt ⟨x.toNat, x.toNat_lt⟩ i (by rw [byte_fin]; exact hv)
            have HRE : Hid (R = ⟨[escTo.getD i 0], p + 1, 0⟩) := Lib.hid (by rw [HR2.out, hv])
            have HGT := Lib.hid (escTo_get i hi9)
            clear hv hi
            have hi9' : (i : Int) < 9 := by omega
            have hi0 : (0 : Int) ≤ i := by omega
            go_wp2_with fail
            go_ret
            exact by_yes HRE.out (HBU.out.setCell (p := ⟨g, 1, none⟩) (.inl rfl) _) (by rw [← HGT.out]) (HX1.out.set 1 _)
    · replace c1 : (x.toNat : Int) < 48 := by omega
      have HR2 := Lib.hid (show R = if x = 120 then nDigs 16 s.data.toList 2 15 (p + 1) 0 else match escL.idxOf? x with
          | some i => ⟨[escTo.getD i 0], p + 1, 0⟩
          | none => BR.err p 3 by rw [HR1.out, if_neg (by omega)])
      by_cases h120 : x = 120
      · obtain ⟨e1, e2, e3⟩ := bEq (a := x) 120 120 rfl (by rw [h120]; rfl)
        have HRE : Hid (R = nDigs 16 s.data.toList 2 15 (p + 1) 0) := Lib.hid (by rw [HR2.out, if_pos h120])
        clear h120 e3
        go_wp2_with fail
        have X2 : Box (w1.setCell ⟨g, 1, none⟩ (.int .i64 ((p : Int) + 1))) g 59 (RdN s (p + 1) m) := HX1.out.set 1 _
        have HX2 := Lib.hid X2
        replace HBU := Lib.hid (HBU.out.setCell (p := ⟨g, 1, none⟩) (.inl rfl) (.int .i64 ((p : Int) + 1)))
        clear X2
        refine (digitsN_any 2 16 15 (by omega) (by omega) (by omega) g s (p + 1) m _ HX2.out hs (by omega)).mono ?_
        rintro e w2 ⟨b2, ⟨h2, rfl⟩ | ⟨h2, c2, hc2, rfl, X2⟩⟩
        · unfold FaultN
          go_wp2_with fail
          exact ⟨rfl, HBU.out.trans b2 (fun k hk => .inl hk), .inl ⟨by rw [HRE.out]; exact h2, by rw [HRE.out]; rfl⟩⟩
        · have HX2 := Lib.hid X2
          have HB2 := Lib.hid b2
          have H2 := Lib.hid h2
          have HC2 := Lib.hid hc2
          clear X2 b2 h2 hc2
          go_wp2_with fail
          go_ret
          exact ⟨HBU.out.trans HB2.out (fun k hk => .inl hk), .inr ⟨by rw [HRE.out]; exact H2.out, c2, by rw [HRE.out]; exact HC2.out, rfl, by rw [HRE.out]; exact HX2.out⟩⟩
      · obtain ⟨e1, e2, e3⟩ := bNe (a := x) 120 120 rfl (fun e => h120 (by rw [← UInt8.toNat_inj]; exact e))
        replace HR2 := Lib.hid (HR2.out.trans (if_neg h120))
        clear h120 e3
        go_wp2_with fail
        refine (escIdx x _).mono ?_
        rintro e w2 ⟨rfl, rfl⟩
        cases hv : escL.idxOf? x with
        | none =>
          have hi : escI x = -1 := by unfold escI; rw [hv]
          rw [hi]
          have HRE : Hid (R = BR.err p 3) := Lib.hid (by rw [HR2.out, hv])
          clear hv hi
          go_wp2_with fail
          refine (wrong_any p 3 _).mono ?_
          rintro e w3 ⟨rfl, rfl⟩
          unfold FaultN
          go_wp2_with fail
          exact ⟨rfl, by_no HRE.out (by decide) HBU.out⟩
        | some i =>
          have hi : escI x = (i : Int) := by unfold escI; rw [hv]
          rw [hi]
          have hi9 := escI_lt ⟨x.toNat, x.toNat_lt⟩ i (by rw [byte_fin]; exact hv)
          have HRE : Hid (R = ⟨[escTo.getD i 0], p + 1, 0⟩) := Lib.hid (by rw [HR2.out, hv])
          have HGT := Lib.hid (escTo_get i hi9)
          clear hv hi
          have hi9' : (i : Int) < 9 := by omega
          have hi0 : (0 : Int) ≤ i := by omega
          go_wp2_with fail
          go_ret
          exact by_yes HRE.out (HBU.out.setCell (p := ⟨g, 1, none⟩) (.inl rfl) _) (by rw [← HGT.out]) (HX1.out.set 1 _)

set_option maxHeartbeats 16000000 in
set_option maxRecDepth 100000 in
theorem quotedN_any (g : Nat) (s : ByteArray) (p m : Nat) (w : World) (hX : Box w g 59 (RdN s p m)) (hs : s.size ≤ 100000) (hp : p < s.size) :
    Calls Tryz.prog 56 #[.pointer (some ⟨g, 0, none⟩)] w (BytesN g s m (nQuote s.data.toList (p + 1)) w) := by
  have HL : Hid (s.data.toList.length = s.size) := Lib.hid (by simp)
  obtain ⟨R, hR⟩ : ∃ R, R = nQuote s.data.toList (p + 1) := ⟨_, rfl⟩
  rw [← hR]
  have HR := Lib.hid hR
  have hgw := hX.lt
  have HX := Lib.hid hX
  have x1 := hX.cell 1 rfl
  have f1 := hX.frozen 1
  clear hR hX
  have hp6 : (p : Int) ≤ 1000000 := by omega
  go_enter Tryz.func56, Tryz.ntmps56
  go_wp2_with fail
  have X0 : Box (w.setCell ⟨g, 1, none⟩ (.int .i64 ((p : Int) + 1))) g 59 (RdN s (p + 1) m) := HX.out.set 1 _
  have U0 : But (fun k => k = g) w (w.setCell ⟨g, 1, none⟩ (.int .i64 ((p : Int) + 1))) := (But.refl (fun k => k = g) w).setCell (p := ⟨g, 1, none⟩) (.inl rfl) _
  go_loopw [3] (fun o wr => ∃ (k : Nat) (d : List UInt8), k ≤ s.size ∧ d.length ≤ k ∧ Hid (R = (nQuote s.data.toList k).pre d) ∧ OwnB wr w.heap.size o d ∧ Box wr g 59 (RdN s k m) ∧ But (fun k => k = g) w wr) (fun _ wr => s.size + 1 - atN wr g)
  case atStart => exact ⟨p + 1, [], by omega, Nat.zero_le _, Lib.hid (by rw [HR.out, pre_nil]), OwnB.nil _ _, X0, U0⟩
  case round =>
    obtain ⟨k, d, hk, hd, HRK, hown, hX2, hbut⟩ := hrel
    clear HX HR X0 U0 x1 f1
    have HAT := Lib.hid (atN_eq hX2)
    have HX := Lib.hid hX2
    have HO := Lib.hid hown
    have HBU := Lib.hid hbut
    clear hX2 hown hbut
    go_wp2_with fail
    refine (peek_any g s k m wr HX.out (by omega)).mono ?_
    rintro e w1 ⟨hb1, ⟨h1, rfl⟩ | ⟨h1, rfl⟩⟩
    · unfold FaultN
      go_wp2_with fail
      exact ⟨rfl, bn_no (by rw [HRK.out, nQuote_end (by rw [HL.out]; exact h1), HL.out]; rfl) (by decide) (HBU.out.trans (But.ofBelow (S := fun _ => False) hb1) (fun _ h => h.elim))⟩
    · obtain ⟨x, hx⟩ : ∃ x, x = s.data.toList.getD k 0 := ⟨_, rfl⟩
      rw [← hx]
      have HST := Lib.hid (nQuote_step (l := s.data.toList) (p := k) (by rw [HL.out]; exact h1))
      rw [← hx] at HST
      have X1 := HX.out.after hb1
      have O1 := Lib.hid (OwnB.after HO.out hb1)
      have U1 := Lib.hid (HBU.out.trans (But.ofBelow (S := fun _ => False) hb1) (fun _ h => h.elim))
      have x1 := X1.cell 1 rfl
      have f1 := X1.frozen 1
      have HX1 := Lib.hid X1
      have hk6 : (k : Int) ≤ 1000000 := by omega
      clear hx hb1 HX HBU HO X1
      by_cases he : x = 34
      · obtain ⟨e1, e2, e3⟩ := bEq (a := x) 34 34 rfl (by rw [he]; rfl)
        have HE := Lib.hid he
        clear he e3
        go_wp2_with fail
        have e4 : But (fun k => k = g) w1 (w1.setCell ⟨g, 1, none⟩ (.int .i64 ((k : Int) + 1))) := (But.refl (fun k => k = g) w1).setCell (p := ⟨g, 1, none⟩) (.inl rfl) _
        obtain ⟨a, n, c, hv, hsl, hin⟩ := OwnB.parts (OwnG.but O1.out e4 (fun k' h e => by have := (OwnB.own O1.out k' h).1; omega))
        go_ret
        rw [hv]
        exact bn_yes (by rw [HRK.out, HST.out, if_pos HE.out]; simp [BR.pre]) (U1.out.setCell (p := ⟨g, 1, none⟩) (.inl rfl) _) hsl hin (HX1.out.set 1 _)
      · obtain ⟨e1, e2, e3⟩ := bNe (a := x) 34 34 rfl (fun e => he (by rw [← UInt8.toNat_inj]; exact e))
        replace HST := Lib.hid (HST.out.trans (if_neg he))
        clear he e3
        have X2 : Box (w1.setCell ⟨g, 1, none⟩ (.int .i64 ((k : Int) + 1))) g 59 (RdN s (k + 1) m) := HX1.out.set 1 _
        have HX2 := Lib.hid X2
        have e4 : But (fun k => k = g) w1 (w1.setCell ⟨g, 1, none⟩ (.int .i64 ((k : Int) + 1))) := (But.refl (fun k => k = g) w1).setCell (p := ⟨g, 1, none⟩) (.inl rfl) _
        have U2 := Lib.hid (U1.out.setCell (p := ⟨g, 1, none⟩) (.inl rfl) (.int .i64 ((k : Int) + 1)))
        have O2 := Lib.hid (OwnG.but O1.out e4 (fun k' h e => by have := (OwnB.own O1.out k' h).1; omega))
        have hz2 := U1.out.size
        clear X2 e4
        go_upto_region 5 with fail
        change Code.wp _ _ _ _ (w1.setCell ⟨g, 1, none⟩ (.int .i64 ((k : Int) + 1)))
        have hz3 : w.heap.size ≤ (w1.setCell ⟨g, 1, none⟩ (.int .i64 ((k : Int) + 1))).heap.size := by simpa using hz2
        generalize (w1.setCell ⟨g, 1, none⟩ (.int .i64 ((k : Int) + 1))) = w2 at *
        clear O1 U1 HX1 x1 f1 hz2
        by_cases h92 : x = 92
        · obtain ⟨e5, e6, e7⟩ := bEq (a := x) 92 92 rfl (by rw [h92]; rfl)
          replace HST := Lib.hid (HST.out.trans (if_neg (by rw [h92]; simp)))
          clear h92 e7
          go_wp2_with fail
          refine (escapedN_any g s (k + 1) m _ HX2.out hs (by omega)).mono ?_
          rintro e w3 ⟨b3, ⟨h3, rfl⟩ | ⟨h3, c3, hc3, rfl, X3⟩⟩
          · unfold FaultN
            go_wp2_with fail
            exact ⟨rfl, U2.out.trans b3 (fun k hk => .inl hk), .inl ⟨by rw [HRK.out, HST.out, if_pos h3]; unfold BR.pre; rw [if_neg h3]; exact h3, by rw [HRK.out, HST.out, if_pos h3]; unfold BR.pre; rw [if_neg h3]; rfl⟩⟩
          · have hpl := nEsc_place s.data.toList (k + 1) (by rw [HL.out]; omega)
            rw [HL.out] at hpl
            obtain ⟨q, hq⟩ : ∃ q, q = (nEsc s.data.toList (k + 1)).p := ⟨_, rfl⟩
            rw [← hq] at hpl X3
            replace HST := Lib.hid (HST.out.trans (if_neg (by rw [h3]; simp)))
            have HRN : Hid (R = (nQuote s.data.toList q).pre (d ++ [c3])) := Lib.hid (by rw [HRK.out, HST.out, pre_pre, hc3, hq])
            have HX3 := Lib.hid X3
            have O3 := Lib.hid (OwnG.but O2.out b3 (fun k' h e => by have := (OwnG.lt O2.out k' h).1; omega))
            have U3 := Lib.hid (U2.out.trans b3 (fun k hk => .inl hk))
            have hz3 := U3.out.size
            clear hq hc3 X3 b3 h3 HST HRK
            go_wp2_with (refine wpList_append_B rfl _ _ rfl (l := d) rfl (OwnG.alloc O3.out _) (l2 := [c3]) rfl (sl_cell1 _ c3 _ rfl) (by simp; omega) (by simp; omega) ?_; intro v5 w5 ho5 hg5)
            have b5 : But (fun k => k = g) w w5 := ((U3.out.alloc _).trans (But.ofGrown hg5 (S := fun k => w.heap.size ≤ k) (fun k hk => ((OwnG.lt O3.out) k hk).1)) (fun k hk => .inr hk))
            have X5 : Box w5 g 59 (RdN s (q) m) := Box.grown (HX3.out.alloc _) hg5 (fun k hk => by have := ((OwnG.lt O3.out) k hk).1; omega)
            have e5' := atN_eq X5
            go_roundw
            case rel => exact ⟨q, d ++ [c3], by omega, by simp; omega, HRN, ho5, X5, b5⟩
            case measure => rw [HAT.out, e5']; omega
        · obtain ⟨e5, e6, e7⟩ := bNe (a := x) 92 92 rfl (fun e => h92 (by rw [← UInt8.toNat_inj]; exact e))
          have HRN : Hid (R = (nQuote s.data.toList (k + 1)).pre (d ++ [x])) := Lib.hid (by rw [HRK.out, HST.out, if_pos h92, pre_pre])
          clear h92 e7 HST HRK
          go_wp2_with (refine wpList_append_B rfl _ _ rfl (l := d) rfl (OwnG.alloc O2.out _) (l2 := [x]) rfl (sl_cell1 _ x _ rfl) (by simp; omega) (by simp; omega) ?_; intro v5 w5 ho5 hg5)
          have b5 : But (fun k => k = g) w w5 := ((U2.out.alloc _).trans (But.ofGrown hg5 (S := fun k => w.heap.size ≤ k) (fun k hk => ((OwnG.lt O2.out) k hk).1)) (fun k hk => .inr hk))
          have X5 : Box w5 g 59 (RdN s (k + 1) m) := Box.grown (HX2.out.alloc _) hg5 (fun k hk => by have := ((OwnG.lt O2.out) k hk).1; omega)
          have e5' := atN_eq X5
          go_roundw
          case rel => exact ⟨k + 1, d ++ [x], by omega, by simp; omega, HRN, ho5, X5, b5⟩
          case measure => rw [HAT.out, e5']; omega

end Go.Proofs.YtkbblhioncecmaaGreatDoor

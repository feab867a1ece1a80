/- Advanced forms in plain words: what the document reads at a place of a text. -/
import Derived.Test.YtkbblhioncecmaaDoorNtG8
namespace Go.Proofs.YtkbblhioncecmaaDoor
open Go.RowKit
set_option linter.unusedSimpArgs false
set_option linter.unusedVariables false

/-- blanks, digits, a token's signs -/
def blankB (c : UInt8) : Bool := c == 32 || (decide (9 ≤ c.toNat) && decide (c.toNat ≤ 13))
def letterB (c : UInt8) : Bool := (decide (97 ≤ c.toNat) && decide (c.toNat ≤ 122)) || (decide (65 ≤ c.toNat) && decide (c.toNat ≤ 90))
def numB (c : UInt8) : Bool := decide (48 ≤ c.toNat) && decide (c.toNat ≤ 57)
def signB (c : UInt8) : Bool := letterB c || numB c || c == 46 || c == 47 || c == 95 || c == 58 || c == 42 || c == 43 || c == 61 || c == 45
def hexC (c : UInt8) : Bool := (hval c.toNat).isSome
def b64C (c : UInt8) : Bool := letterB c || numB c || c == 43 || c == 47 || c == 61
def blankL : List UInt8 := [32, 9, 10, 11, 12, 13]
def signL : List UInt8 := [65, 66, 67, 68, 69, 70, 71, 72, 73, 74, 75, 76, 77, 78, 79, 80, 81, 82, 83, 84, 85, 86, 87, 88, 89, 90, 97, 98, 99, 100, 101, 102, 103, 104, 105, 106, 107, 108, 109, 110, 111, 112, 113, 114, 115, 116, 117, 118, 119, 120, 121, 122, 48, 49, 50, 51, 52, 53, 54, 55, 56, 57, 46, 47, 95, 58, 42, 43, 61, 45]
def numsL : List UInt8 := [48, 49, 50, 51, 52, 53, 54, 55, 56, 57]
def hexsL : List UInt8 := [48, 49, 50, 51, 52, 53, 54, 55, 56, 57, 97, 98, 99, 100, 101, 102, 65, 66, 67, 68, 69, 70]
def b64sL : List UInt8 := [65, 66, 67, 68, 69, 70, 71, 72, 73, 74, 75, 76, 77, 78, 79, 80, 81, 82, 83, 84, 85, 86, 87, 88, 89, 90, 97, 98, 99, 100, 101, 102, 103, 104, 105, 106, 107, 108, 109, 110, 111, 112, 113, 114, 115, 116, 117, 118, 119, 120, 121, 122, 48, 49, 50, 51, 52, 53, 54, 55, 56, 57, 43, 47, 61]
def isIn (l : List UInt8) (c : UInt8) : Bool := decide (0 ≤ Lib.indexByte l c)
theorem isIn_blank : ∀ n : Fin 256, isIn blankL (n.val.toUInt8) = blankB (n.val.toUInt8) := by decide +kernel
theorem isIn_sign : ∀ n : Fin 256, isIn signL (n.val.toUInt8) = signB (n.val.toUInt8) := by decide +kernel
theorem isIn_num : ∀ n : Fin 256, isIn numsL (n.val.toUInt8) = numB (n.val.toUInt8) := by decide +kernel
theorem isIn_hex : ∀ n : Fin 256, isIn hexsL (n.val.toUInt8) = hexC (n.val.toUInt8) := by decide +kernel
theorem isIn_b64 : ∀ n : Fin 256, isIn b64sL (n.val.toUInt8) = b64C (n.val.toUInt8) := by decide +kernel
theorem byte_fin (c : UInt8) : (⟨c.toNat, c.toNat_lt⟩ : Fin 256).val.toUInt8 = c := by simp

/-- the place behind blanks -/
def skipN (l : List UInt8) (p : Nat) : Nat := p + ((l.drop p).takeWhile blankB).length
theorem skipN_end {l : List UInt8} {p : Nat} (h : l.length ≤ p) : skipN l p = p := by unfold skipN; rw [List.drop_eq_nil_of_le h]; rfl
theorem skipN_blank {l : List UInt8} {p : Nat} (h : p < l.length) (hb : blankB l[p] = true) : skipN l p = skipN l (p + 1) := by
  unfold skipN
  rw [List.drop_eq_getElem_cons h, List.takeWhile_cons_of_pos hb, List.length_cons]
  omega
theorem skipN_other {l : List UInt8} {p : Nat} (h : p < l.length) (hb : blankB l[p] = false) : skipN l p = p := by
  unfold skipN
  rw [List.drop_eq_getElem_cons h, List.takeWhile_cons_of_neg (by rw [hb]; simp)]
  rfl
theorem skipN_le {l : List UInt8} {p : Nat} (h : p ≤ l.length) : p ≤ skipN l p ∧ skipN l p ≤ l.length := by
  unfold skipN
  have := (List.takeWhile_sublist (l := l.drop p) blankB).length_le
  simp at this
  omega

/-- bytes that were read, the place behind them; or an error's number, and its place -/
structure BR where
  b : List UInt8
  p : Nat
  e : Nat
def BR.err (p e : Nat) : BR := ⟨[], p, e⟩
def nLen (l : List UInt8) (p : Nat) : BR :=
  let r := lenR l p 4096
  if r.2.2 ≠ 0 then BR.err p r.2.2.toNat else
  if l.length ≤ r.2.1.toNat then BR.err l.length 2 else if l.getD r.2.1.toNat 0 ≠ 58 then BR.err r.2.1.toNat 3 else
  if l.length - r.2.1.toNat - 1 < r.1.toNat then BR.err l.length 2 else ⟨(l.drop (r.2.1.toNat + 1)).take r.1.toNat, r.2.1.toNat + 1 + r.1.toNat, 0⟩
/-- signs of a kind, and blanks, up to an end: what was there, its place -/
def nSome (good : UInt8 → Bool) (en : UInt8) : List UInt8 → Nat → BR
  | [], p => BR.err p 2
  | c :: r, p => if c = en then ⟨[], p, 0⟩ else if !good c && !blankB c then BR.err p 3 else
    let x := nSome good en r (p + 1)
    if x.e = 0 then ⟨if good c then c :: x.b else x.b, x.p, 0⟩ else x
def nB64 (l : List UInt8) (p : Nat) (en : UInt8) : BR :=
  let x := nSome b64C en (l.drop p) p
  if x.e ≠ 0 then BR.err x.p x.e else match unb64 x.b with
  | some b => ⟨b, x.p + 1, 0⟩
  | none => BR.err x.p 3
def nHex (l : List UInt8) (p : Nat) : BR :=
  let x := nSome hexC 35 (l.drop p) p
  if x.e ≠ 0 then BR.err x.p x.e else match unhex x.b with
  | some b => ⟨b, x.p + 1, 0⟩
  | none => BR.err x.p 3

/-- so many digits of a base, the first one at most so high -/
def nDigs (base : Nat) (l : List UInt8) : Nat → Nat → Nat → Nat → BR
  | 0, _, p, x => ⟨[UInt8.ofNat x], p, 0⟩
  | k + 1, first, p, x => if l.length ≤ p then BR.err l.length 2 else match hval (l.getD p 0).toNat with
    | some d => if d < base ∧ d ≤ first then nDigs base l k base (p + 1) (x * base + d) else BR.err p 3
    | none => BR.err p 3
def escL : List UInt8 := [98, 116, 118, 110, 102, 114, 34, 39, 92]
def escTo : List UInt8 := [8, 9, 11, 10, 12, 13, 34, 39, 92]
/-- what stands behind a backslash -/
def nEsc (l : List UInt8) (p : Nat) : BR :=
  if l.length ≤ p then BR.err l.length 2 else
  if 48 ≤ (l.getD p 0).toNat ∧ (l.getD p 0).toNat ≤ 55 then nDigs 8 l 3 3 p 0 else
  if l.getD p 0 = 120 then nDigs 16 l 2 15 (p + 1) 0 else
  match escL.idxOf? (l.getD p 0) with
  | some i => ⟨[escTo.getD i 0], p + 1, 0⟩
  | none => BR.err p 3
def BR.pre (y : List UInt8) (x : BR) : BR := if x.e = 0 then ⟨y ++ x.b, x.p, 0⟩ else x
/-- what stands in quotes -/
def nQuo (l : List UInt8) : Nat → Nat → BR
  | 0, _ => BR.err l.length 2
  | f + 1, p => if l.length ≤ p then BR.err l.length 2 else
    if l.getD p 0 = 34 then ⟨[], p + 1, 0⟩ else
    if l.getD p 0 ≠ 92 then (nQuo l f (p + 1)).pre [l.getD p 0] else
    if (nEsc l (p + 1)).e ≠ 0 then nEsc l (p + 1) else (nQuo l f (nEsc l (p + 1)).p).pre (nEsc l (p + 1)).b
theorem nDigs_place (base : Nat) (l : List UInt8) : ∀ k first p x, p ≤ l.length → (nDigs base l k first p x).p ≤ l.length ∧ p ≤ (nDigs base l k first p x).p
  | 0, _, p, x, h => ⟨h, Nat.le_refl _⟩
  | k + 1, first, p, x, h => by
    unfold nDigs
    split
    · exact ⟨Nat.le_refl _, h⟩
    · split
      · rename_i d _
        split
        · have := nDigs_place base l k base (p + 1) (x * base + d) (by omega)
          exact ⟨this.1, by omega⟩
        · exact ⟨h, Nat.le_refl _⟩
      · exact ⟨h, Nat.le_refl _⟩
theorem nEsc_place (l : List UInt8) (p : Nat) (h : p ≤ l.length) : (nEsc l p).p ≤ l.length ∧ p ≤ (nEsc l p).p := by
  unfold nEsc
  split
  · exact ⟨Nat.le_refl _, h⟩
  · split
    · exact nDigs_place 8 l 3 3 p 0 h
    · split
      · have := nDigs_place 16 l 2 15 (p + 1) 0 (by omega)
        exact ⟨this.1, by omega⟩
      · split
        · exact ⟨by show p + 1 ≤ l.length; omega, Nat.le_succ _⟩
        · exact ⟨h, Nat.le_refl _⟩
theorem nQuo_fuel (l : List UInt8) : ∀ f g p, l.length < p + f → l.length < p + g → nQuo l f p = nQuo l g p
  | 0, 0, _, _, _ => rfl
  | 0, g + 1, p, h, _ => by unfold nQuo; rw [if_pos (by omega)]
  | f + 1, 0, p, _, h => by unfold nQuo; rw [if_pos (by omega)]
  | f + 1, g + 1, p, h, h' => by
    unfold nQuo
    split
    · rfl
    · rename_i hp
      rw [nQuo_fuel l f g (p + 1) (by omega) (by omega)]
      have := (nEsc_place l (p + 1) (by omega)).2
      rw [nQuo_fuel l f g (nEsc l (p + 1)).p (by omega) (by omega)]
def nQuote (l : List UInt8) (p : Nat) : BR := nQuo l (l.length + 1) p
theorem nQuote_end {l : List UInt8} {p : Nat} (h : l.length ≤ p) : nQuote l p = BR.err l.length 2 := by unfold nQuote nQuo; rw [if_pos h]
theorem nQuote_step {l : List UInt8} {p : Nat} (h : p < l.length) : nQuote l p = if l.getD p 0 = 34 then ⟨[], p + 1, 0⟩ else
    if l.getD p 0 ≠ 92 then (nQuote l (p + 1)).pre [l.getD p 0] else
    if (nEsc l (p + 1)).e ≠ 0 then nEsc l (p + 1) else (nQuote l (nEsc l (p + 1)).p).pre (nEsc l (p + 1)).b := by
  have h1 := nQuo_fuel l l.length (l.length + 1) (p + 1) (by omega) (by omega)
  have h2 := nQuo_fuel l l.length (l.length + 1) (nEsc l (p + 1)).p (by have := (nEsc_place l (p + 1) (by omega)).2; omega) (by omega)
  unfold nQuote
  rw [← h1, ← h2]
  rw [show nQuo l (l.length + 1) p = _ from by rw [nQuo]]
  rw [if_neg (by omega)]
/-- a plain atom -/
def nPlain (l : List UInt8) (p : Nat) : BR :=
  if l.length ≤ p then BR.err l.length 2 else
  if numB (l.getD p 0) then nLen l p else
  if l.getD p 0 = 34 then nQuote l (p + 1) else
  if l.getD p 0 = 35 then nHex l (p + 1) else
  if l.getD p 0 = 124 then nB64 l (p + 1) 124 else
  if signB (l.getD p 0) then ⟨(l.drop p).takeWhile signB, p + ((l.drop p).takeWhile signB).length, 0⟩ else BR.err p 3
/-- an atom, or a hint and one -/
def nHint (l : List UInt8) (p n : Nat) : RV :=
  let h := nPlain l (skipN l p)
  if h.e ≠ 0 then RV.err h.p h.e else
  if l.length ≤ skipN l h.p then RV.err l.length 2 else if l.getD (skipN l h.p) 0 ≠ 93 then RV.err (skipN l h.p) 3 else
  let d := nPlain l (skipN l (skipN l h.p + 1))
  if d.e ≠ 0 then RV.err d.p d.e else ⟨.mk false true h.b d.b [], d.p, n, 0⟩
def nAtom (l : List UInt8) (p n : Nat) : RV :=
  let d := nPlain l p
  if d.e ≠ 0 then RV.err d.p d.e else ⟨.mk false false [] d.b [], d.p, n, 0⟩
def begB (c : UInt8) : Bool := c == 40 || c == 91 || c == 34 || c == 35 || c == 124 || signB c
/-- a value at a place, so deep, behind so many (none); the rest of a list (some of what was read) -/
inductive Nt (l : List UInt8) : Option (List Sx) → Nat → Nat → Nat → RV → Prop
  | short {p lv n : Nat} : l.length ≤ skipN l p → Nt l none p lv n (RV.err l.length 2)
  | bad {p lv n : Nat} : skipN l p < l.length → begB (l.getD (skipN l p) 0) = false → Nt l none p lv n (RV.err (skipN l p) 3)
  | long {p lv n : Nat} : skipN l p < l.length → begB (l.getD (skipN l p) 0) = true → (512 < n + 1 ∨ l.getD (skipN l p) 0 = 40 ∧ 16 < lv) → Nt l none p lv n (RV.err (skipN l p) 4)
  | hint {p lv n : Nat} : skipN l p < l.length → l.getD (skipN l p) 0 = 91 → n + 1 ≤ 512 → Nt l none p lv n (nHint l (skipN l p + 1) (n + 1))
  | atom {p lv n : Nat} : skipN l p < l.length → begB (l.getD (skipN l p) 0) = true → l.getD (skipN l p) 0 ≠ 40 → l.getD (skipN l p) 0 ≠ 91 → n + 1 ≤ 512 → Nt l none p lv n (nAtom l (skipN l p) (n + 1))
  | list {p lv n : Nat} {r : RV} : skipN l p < l.length → l.getD (skipN l p) 0 = 40 → n + 1 ≤ 512 → lv ≤ 16 → Nt l (some []) (skipN l p + 1) lv (n + 1) r → Nt l none p lv n r
  | close {p lv n : Nat} {acc : List Sx} : skipN l p < l.length → l.getD (skipN l p) 0 = 41 → Nt l (some acc) p lv n ⟨.mk true false [] [] acc, skipN l p + 1, n, 0⟩
  | fail {p lv n : Nat} {acc : List Sx} {r : RV} : (skipN l p < l.length → l.getD (skipN l p) 0 ≠ 41) → Nt l none (skipN l p) (lv + 1) n r → r.e ≠ 0 → Nt l (some acc) p lv n r
  | more {p lv n : Nat} {acc : List Sx} {r r2 : RV} : skipN l p < l.length → l.getD (skipN l p) 0 ≠ 41 → Nt l none (skipN l p) (lv + 1) n r → r.e = 0 → Nt l (some (acc ++ [r.v])) r.p lv r.n r2 → Nt l (some acc) p lv n r2
theorem Nt.det {l : List UInt8} {m : Option (List Sx)} {p lv n : Nat} {r r' : RV} (h : Nt l m p lv n r) (h' : Nt l m p lv n r') : r = r' := by
  induction h generalizing r' with
  | short h1 => cases h' <;> first | rfl | omega
  | bad h1 h2 => cases h' <;> first | rfl | omega | simp_all [begB]
  | long h1 h2 h3 => cases h' <;> first | rfl | omega | simp_all [begB] <;> omega
  | hint h1 h2 h3 => cases h' <;> first | rfl | omega | simp_all [begB] <;> omega
  | atom h1 h2 h3 h4 h5 => cases h' <;> first | rfl | omega | simp_all [begB] <;> omega
  | list h1 h2 h3 h4 h5 ih =>
    cases h' with
    | list _ _ _ _ h6 => exact ih h6
    | short h6 => omega
    | bad h6 h7 => simp_all [begB]
    | long h6 h7 h8 => simp_all [begB]; omega
    | hint h6 h7 h8 => simp_all
    | atom h6 h7 h8 => simp_all
  | close h1 h2 =>
    cases h' with
    | close => rfl
    | fail h3 => exact absurd h2 (h3 h1)
    | more _ h3 => exact absurd h2 h3
  | fail h1 h2 h3 ih =>
    cases h' with
    | close h4 h5 => exact absurd h5 (h1 h4)
    | fail _ h5 _ => exact ih h5
    | more h4 h5 h6 h7 h8 => rw [ih h6] at h3; exact absurd h7 h3
  | more h1 h2 h3 h4 h5 ih1 ih2 =>
    cases h' with
    | close h6 h7 => exact absurd h7 h2
    | fail h6 h7 h8 => rw [ih1 h7] at h4; exact absurd h4 h8
    | more h6 h7 h8 h9 h10 => rw [← ih1 h8] at h10; exact ih2 h10
end Go.Proofs.YtkbblhioncecmaaDoor

/- The reader as a machine with a stack of open lists: plain. What Get answers, for what is a form, cut off, or has more behind it: plain. Clones of bytes: what they compute. The program's reader: sign, begins: what they compute. The program's reader: bytes: what it computes. The program's reader: atom: what it computes. The reader's open lists, in memory: plain. The reader's open lists: what the stores of push and add leave. The program's reader: next: what it computes, by cases. The program's reader: next: lists begin and end. The program's reader: value: what it computes. The program's Get: what it computes. The program's Get, of few bytes. strings.Builder: what its writing methods do to a builder that the call itself has made. octet.Hex, octet.Unhex: what they compute. octet.Unhex: what it computes. octet.Base64: what it computes. Base64: plain lists. What the bitwise text computes, and that both ways of reading bring back what was written. -/
import Derived.Test.YtigopfeamjhdpaaDoorWnG4
import Derived.Recover
import Derived.Test.YtigopfeamjhdpaaDoorRows
import Derived.Test.YtigopfeamjhdpaaDoorShelf
import Derived.WalkKit
import Derived.Handy
import Derived.Lib.Hide
import Derived.Lib.Strings
import Derived.Lib.Builder
import Derived.Lib.AppendStr
import Derived.Laws.Externs
import Derived.Deep.QuietTactic
import Derived.BigQuiet
import Derived.WalkLawsBesides
namespace Go.Proofs.YtigopfeamjhdpaaDoor
open Go.RowKit

/-- from a stack of open lists (the innermost first), a place, and how many values began, to what is read in the end -/
inductive Mach (l : List UInt8) : List (List Sx) → Nat → Nat → RV → Prop
  | short {st : List (List Sx)} {p n : Nat} : l.length ≤ p → Mach l st p n (RV.err l.length 2)
  | bad {st : List (List Sx)} {p n : Nat} : p < l.length → ¬ starts (l.getD p 0) → (l.getD p 0 = 41 → st = []) → Mach l st p n (RV.err p 3)
  | long {st : List (List Sx)} {p n : Nat} : p < l.length → starts (l.getD p 0) → (512 < n + 1 ∨ l.getD p 0 = 40 ∧ 16 ≤ st.length) → Mach l st p n (RV.err p 4)
  | fail {st : List (List Sx)} {p n : Nat} : p < l.length → starts (l.getD p 0) → l.getD p 0 ≠ 40 → n + 1 ≤ 512 → (rAtom l p (n + 1)).e ≠ 0 → Mach l st p n (rAtom l p (n + 1))
  | atom {p n : Nat} : p < l.length → starts (l.getD p 0) → l.getD p 0 ≠ 40 → n + 1 ≤ 512 → (rAtom l p (n + 1)).e = 0 → Mach l [] p n (rAtom l p (n + 1))
  | more {ks : List Sx} {st : List (List Sx)} {p n : Nat} {r : RV} : p < l.length → starts (l.getD p 0) → l.getD p 0 ≠ 40 → n + 1 ≤ 512 → (rAtom l p (n + 1)).e = 0 →
      Mach l ((ks ++ [(rAtom l p (n + 1)).v]) :: st) (rAtom l p (n + 1)).p (n + 1) r → Mach l (ks :: st) p n r
  | opens {st : List (List Sx)} {p n : Nat} {r : RV} : p < l.length → l.getD p 0 = 40 → n + 1 ≤ 512 → st.length < 16 → Mach l ([] :: st) (p + 1) (n + 1) r → Mach l st p n r
  | close {ks : List Sx} {p n : Nat} : p < l.length → l.getD p 0 = 41 → Mach l [ks] p n ⟨.mk true false [] [] ks, p + 1, n, 0⟩
  | closes {ks kt : List Sx} {st : List (List Sx)} {p n : Nat} {r : RV} : p < l.length → l.getD p 0 = 41 → Mach l ((kt ++ [.mk true false [] [] ks]) :: st) (p + 1) n r → Mach l (ks :: kt :: st) p n r

/-- what was read of the innermost list goes on into the lists around it -/
def Up (l : List UInt8) : List (List Sx) → RV → RV → Prop
  | [], r1, r => r = r1
  | ks :: st, r1, r => if r1.e ≠ 0 then r = r1 else ∃ r2, St l (some (ks ++ [r1.v])) r1.p (st.length + 1) r1.n r2 ∧ Up l st r2 r
theorem Up.err {l : List UInt8} {st : List (List Sx)} {r : RV} (h : r.e ≠ 0) : Up l st r r := by
  cases st with
  | nil => rfl
  | cons => unfold Up; rw [if_pos h]
theorem Up.same {l : List UInt8} {st : List (List Sx)} {r1 r : RV} (h : Up l st r1 r) (he : r1.e ≠ 0) : r = r1 := by
  cases st with
  | nil => exact h
  | cons => unfold Up at h; rwa [if_pos he] at h
/-- what the machine reads, as the document's reading -/
def MSt (l : List UInt8) : List (List Sx) → Nat → Nat → RV → Prop
  | [], p, n, r => St l none p 1 n r
  | ks :: st, p, n, r => ∃ r1, St l (some ks) p (st.length + 1) n r1 ∧ Up l st r1 r
/-- a value that is read at a place, as what stands next -/
theorem MSt.next {l : List UInt8} {st : List (List Sx)} {p n : Nat} {r1 r : RV} (h : St l none p (st.length + 1) n r1) (hc : p < l.length → l.getD p 0 = 41 → st = []) (hu : Up l st r1 r) : MSt l st p n r := by
  cases st with
  | nil => obtain rfl : r = r1 := hu; exact h
  | cons ks st =>
    have hno : ¬ (p < l.length ∧ l.getD p 0 = 41) := fun e => by have := hc e.1 e.2; cases this
    by_cases he : r1.e = 0
    · unfold Up at hu
      rw [if_neg (by simpa using he)] at hu
      obtain ⟨r2, h2, hu2⟩ := hu
      exact ⟨r2, St.more hno h he h2, hu2⟩
    · obtain rfl := hu.same he
      exact ⟨r, St.fail hno h he, Up.err he⟩
theorem starts_not41 {c : UInt8} (h : starts c) : c ≠ 41 := by
  rintro rfl
  rcases h with h | h | h
  · exact absurd h (by decide)
  · exact absurd h (by decide)
  · exact absurd h (not_isD (by decide))
theorem rAtom_n {l : List UInt8} {p n : Nat} (h : (rAtom l p n).e = 0) : (rAtom l p n).n = n := by
  revert h
  unfold rAtom
  split
  · dsimp only
    split
    · intro h; rename_i h1; exact absurd h (by simpa [RV.err] using h1)
    · split
      · intro h; cases h
      · split
        · intro h; cases h
        · split
          · intro h; rename_i h1; exact absurd h (by simpa [RV.err] using h1)
          · intro _; rfl
  · dsimp only
    split
    · intro h; rename_i h1; exact absurd h (by simpa [RV.err] using h1)
    · intro _; rfl
theorem Mach.toSt {l : List UInt8} {st : List (List Sx)} {p n : Nat} {r : RV} (h : Mach l st p n r) : MSt l st p n r := by
  induction h with
  | @short st p n h1 => exact MSt.next (St.short h1) (fun h => by omega) (Up.err (by simp [RV.err]))
  | bad h1 h2 h3 => exact MSt.next (St.bad h1 h2) (fun _ => h3) (Up.err (by simp [RV.err]))
  | long h1 h2 h3 => exact MSt.next (St.long h1 h2 (h3.imp id (fun h => ⟨h.1, by omega⟩))) (fun _ h => absurd h (starts_not41 h2)) (Up.err (by simp [RV.err]))
  | fail h1 h2 h3 h4 h5 => exact MSt.next (St.atom h1 h2 h3 h4) (fun _ h => absurd h (starts_not41 h2)) (Up.err h5)
  | atom h1 h2 h3 h4 h5 => exact St.atom h1 h2 h3 h4
  | @more ks st p n r h1 h2 h3 h4 h5 _ ih =>
    refine MSt.next (St.atom h1 h2 h3 h4) (fun _ h => absurd h (starts_not41 h2)) ?_
    obtain ⟨r2, h6, h7⟩ := ih
    unfold Up
    rw [if_neg (by simpa using h5)]
    exact ⟨r2, by rw [rAtom_n h5]; exact h6, h7⟩
  | @opens st p n r h1 h2 h3 h4 _ ih =>
    obtain ⟨r1, h6, h7⟩ := ih
    exact MSt.next (St.list h1 h2 h3 (by omega) h6) (fun _ h => by rw [h2] at h; exact absurd h (by decide)) h7
  | close h1 h2 => exact ⟨_, St.close h1 h2, rfl⟩
  | @closes ks kt st p n r h1 h2 _ ih =>
    obtain ⟨r2, h6, h7⟩ := ih
    refine ⟨_, St.close h1 h2, ?_⟩
    unfold Up
    rw [if_neg (by simp)]
    exact ⟨r2, h6, h7⟩
end Go.Proofs.YtigopfeamjhdpaaDoor
namespace Go.Proofs.YtigopfeamjhdpaaDoor
open Go.RowKit

theorem got_ok {l : List UInt8} {s : Sx} {p : Nat} (h : Got l s p 0) : s.form = l ∧ s.may = true ∧ s.wide 0 = false ∧ p = 0 := by
  rcases h with ⟨_, _, _, h⟩ | ⟨h1, r, hr, ⟨h2, _, _, h3⟩ | ⟨_, _, _, _, h3⟩ | ⟨h2, h3, h4, h5, _⟩⟩
  · cases h
  · exact absurd h3.symm h2
  · cases h3
  · subst h4
    obtain ⟨k1, k2, k3, k4, k5, k6, k7⟩ := St_ok hr h2 (by omega) (by omega)
    have e : r.v.form = l := by
      rw [List.drop_zero, List.drop_of_length_le h3, List.append_nil] at k1
      exact k1.symm
    refine ⟨e, ?_, wide_of _ 0 k4 (by omega) (by rw [e]; omega) (by omega), h5⟩
    unfold Sx.may
    rw [k4, decide_eq_true (show r.v.nodes ≤ 512 by omega), decide_eq_true (show r.v.deep ≤ 16 by omega), decide_eq_true (show r.v.form.length ≤ 4096 by rw [e]; exact h1)]
    rfl
theorem got_form {s : Sx} (h : s.may = true) : Got s.form s 0 0 := by
  obtain ⟨h1, h2, h3, h4⟩ := may_parts h
  have := St_form (l := s.form) s 0 1 0 [] h1 (by simp) (by omega) (by omega) h4
  exact .inr ⟨h4, _, this, .inr (.inr ⟨rfl, by simp, rfl, rfl, rfl⟩)⟩
theorem got_cut {s : Sx} (h : s.may = true) {k : Nat} (hk : k < s.form.length) : Got (s.form.take k) Sx.nil k 2 := by
  obtain ⟨h1, h2, h3, h4⟩ := may_parts h
  have hlen : (s.form.take k).length = k := by simp; omega
  have := St_cut (l := s.form.take k) s 0 1 0 k h1 (by simp) hk (by omega) (by omega) h4 (Nat.zero_le _)
  rw [hlen] at this
  exact .inr ⟨by omega, _, this, .inl ⟨by simp [RV.err], rfl, rfl, rfl⟩⟩
theorem got_more {s : Sx} (h : s.may = true) {more : List UInt8} (hm : more ≠ []) (hl : s.form.length + more.length ≤ 4096) : Got (s.form ++ more) Sx.nil s.form.length 5 := by
  obtain ⟨h1, h2, h3, h4⟩ := may_parts h
  have hp : 0 < more.length := List.length_pos_iff.2 hm
  have := St_form (l := s.form ++ more) s 0 1 0 more h1 (by simp) (by omega) (by omega) h4
  exact .inr ⟨by simp; omega, _, this, .inr (.inl ⟨rfl, by simp; omega, rfl, by simp, rfl⟩)⟩
end Go.Proofs.YtigopfeamjhdpaaDoor
namespace Go.Proofs.YtigopfeamjhdpaaDoor
open Go.RowKit
set_option linter.unusedSimpArgs false
set_option linter.unusedVariables false

def CloneP (l : List UInt8) (w : World) (e : Ending) (w' : World) : Prop := ∃ v', e = .returned v' ∧ OwnB w' w.heap.size v' l ∧ Below w.heap.size w w'

end Go.Proofs.YtigopfeamjhdpaaDoor
namespace Go.Proofs.YtigopfeamjhdpaaDoor
open Go.RowKit
set_option linter.unusedSimpArgs false
set_option linter.unusedVariables false

/-- the reader's cells -/
abbrev RdC (a : Option Addr) (n c : Nat) (p m : Nat) (vo : Value) : Array Value := #[.slice a n c, .int .i64 p, .int .i64 m, vo]
theorem but_set {w : World} {g : Nat} (i : Nat) (v : Value) : But (fun k => k = g) w (w.setCell ⟨g, i, none⟩ v) := (But.refl (fun k => k = g) w).setCell (p := ⟨g, i, none⟩) (.inl rfl) v
theorem But.drewN {S : Nat → Prop} {w1 w2 : World} (h : But S w1 w2) (n : Nat) : But S w1 (w2.drewN n) := ⟨h.os, h.tape, h.output, h.size, h.block⟩
theorem Box.drewN {w : World} {g : Nat} {T : TypeId} {cs : Array Value} (h : Box w g T cs) (n : Nat) : Box (w.drewN n) g T cs := h
theorem byteIntNe {x y : UInt8} (h : x ≠ y) : ((x.toNat : Int) == (y.toNat : Int)) = false ∧ ((x.toNat : Int) != (y.toNat : Int)) = true := by
  have h1 : ((x.toNat : Int) == (y.toNat : Int)) = false := beq_eq_false_iff_ne.2 (fun e => h (UInt8.toNat_inj.1 (Int.ofNat.inj e)))
  exact ⟨h1, by rw [bne, h1]; rfl⟩

/-- too many values, or too deep -/
def Over (m d : Nat) (ls : Bool) : Prop := 512 < m + 1 ∨ ls = true ∧ 16 ≤ d
end Go.Proofs.YtigopfeamjhdpaaDoor
namespace Go.Proofs.YtigopfeamjhdpaaDoor
open Go.RowKit
set_option linter.unusedSimpArgs false
set_option linter.unusedVariables false

end Go.Proofs.YtigopfeamjhdpaaDoor
namespace Go.Proofs.YtigopfeamjhdpaaDoor
open Go.RowKit
set_option linter.unusedSimpArgs false
set_option linter.unusedVariables false

theorem OwnB.parts {w : World} {B : Nat} {v : Value} {l : List UInt8} (h : OwnB w B v l) : ∃ a n c, v = .slice a n c ∧ Sl w a n c l ∧ InB (fun k => B ≤ k) a n := by
  obtain ⟨a, c, rfl, hs⟩ := h.sl
  refine ⟨a, _, c, rfl, hs, ?_⟩
  cases a with
  | none => exact .inr fun b o s e => by cases e
  | some ad =>
    refine .inr fun b o s e => ?_
    cases e
    rcases h.2 with ⟨h1, _⟩ | ⟨g, o', cap, h1, h2, _⟩
    · cases h1
    · cases h1
      exact h2
end Go.Proofs.YtigopfeamjhdpaaDoor
namespace Go.Proofs.YtigopfeamjhdpaaDoor
open Go.RowKit
set_option linter.unusedSimpArgs false
set_option linter.unusedVariables false

/-- one element of a row of one's own is stored anew -/
theorem OwnG.setElem {w : World} {B b o n cap : Nat} {K : Nat → SV} (h : OwnG w B 5 (.slice (some ⟨b, o, none⟩) n cap) n (newsK K n)) (i : Nat) (hi : i < n) (u : SV) :
    w.there b (o + i * 5) 5 ∧ OwnG (w.setCells b (o + i * 5) u.cells.toList) B 5 (.slice (some ⟨b, o, none⟩) n cap) n (newsK (fun j => if j = i then u else K j) n) := by
  rcases h.2 with ⟨h2, _⟩ | ⟨g, o', cap', h2, h3, h4, h5, h6, h7, h8⟩
  · cases h2
  · cases h2
    have hth : w.there b (o + i * 5) 5 := fun j hj => by
      have := h7 (i * 5 + j) (by omega)
      rwa [← Nat.add_assoc] at this
    refine ⟨hth, .made (newsK_len _ _) h3 (by rw [size_setCells]; exact h4) h5 h6 (World.there_setCells h7 _ _ _) (fun j x hx => ?_)⟩
    have hj : j < n * 5 := by
      have := (List.getElem?_eq_some_iff.1 hx).1
      rwa [newsK_len] at this
    obtain ⟨q, r, hr, rfl⟩ : ∃ q r, r < 5 ∧ j = q * 5 + r := ⟨j / 5, j % 5, by omega, by omega⟩
    have hq : q < n := by omega
    rw [newsK_at _ n q r hq hr] at hx
    by_cases hqi : q = i
    · subst hqi
      rw [if_pos rfl] at hx
      have := World.rangeAt_setCells_same w b (o + q * 5) u.cells.toList hth r x (by simpa using hx)
      rwa [Nat.add_assoc] at this
    · rw [if_neg hqi] at hx
      rw [World.cell?_setCells_out b u.cells.toList (o + i * 5) w ⟨b, o + (q * 5 + r), none⟩ (fun _ _ => by
        show o + (q * 5 + r) < o + i * 5 ∨ o + i * 5 + 5 ≤ o + (q * 5 + r)
        omega)]
      exact h8 (q * 5 + r) x (by rw [newsK_at _ n q r hq hr]; exact hx)
/-- the last element of a row of one's own is given up -/
theorem OwnG.popK {w : World} {B b o n cap : Nat} {K : Nat → SV} (h : OwnG w B 5 (.slice (some ⟨b, o, none⟩) (n + 1) cap) (n + 1) (newsK K (n + 1))) : OwnG w B 5 (.slice (some ⟨b, o, none⟩) n cap) n (newsK K n) := by
  rcases h.2 with ⟨h2, _⟩ | ⟨g, o', cap', h2, h3, h4, h5, h6, h7, h8⟩
  · cases h2
  · cases h2
    refine .made (newsK_len _ _) h3 h4 (by omega) h6 h7 (fun j x hx => h8 j x ?_)
    have hl := (List.getElem?_eq_some_iff.1 hx).1
    show (newsK K n ++ (K n).cells.toList)[j]? = some x
    rw [List.getElem?_append_left hl]
    exact hx
theorem OwnG.congr {w : World} {B n : Nat} {v : Value} {K K' : Nat → SV} (h : OwnG w B 5 v n (newsK K n)) (hk : ∀ i, i < n → K i = K' i) : OwnG w B 5 v n (newsK K' n) := by rwa [newsK_congr hk] at h
/-- a row of at least one element is somewhere -/
theorem OwnG.at_ {w : World} {B size n : Nat} {a : Option Addr} {c : Nat} {xs : List Value} (h : OwnG w B size (.slice a n c) n xs) (hn : 0 < n) : ∃ b o, a = some ⟨b, o, none⟩ ∧ n ≤ c ∧ c ≤ maxLen := by
  rcases h.2 with ⟨h2, h3⟩ | ⟨g, o, cap, h2, h3, h4, h5, h6, h7, h8⟩
  · omega
  · cases h2
    exact ⟨g, o, rfl, h5, h6⟩
theorem src_box {w : World} {b : Nat} {T : TypeId} (v : SV) (h : Box w b T v.cells) : Src Tryd.prog 5 25 (.slice (some ⟨b, 0, none⟩) 1 1) 1 (newsK (fun _ => v) 1) w := by
  refine Src.ofSlice _ Tryd.underlying25 _ 1 1 _ (newsK_len _ 1) (fun j u hu => ?_) (newsK_one _ 1)
  rw [Addr.add_mid]
  refine h.cell (0 + j) ?_
  rw [Nat.zero_add]
  simpa [newsK] using hu

/-- an open list: its values so far, and where they lie -/
structure Lev where
  ks : List Sx
  ta : Option Addr
  tc : Nat
  K : Nat → SV
def Lev.val (x : Lev) : Value := .slice x.ta x.ks.length x.tc
def Lev.sv (x : Lev) : SV := ⟨true, false, none, 0, 0, none, 0, 0, x.ta, x.ks.length, x.tc⟩
def Lev.new : Lev := ⟨[], none, 0, fun _ => SV.nil⟩
def updL (L : Nat → Lev) (d : Nat) (x : Lev) : Nat → Lev := fun i => if i = d then x else L i
theorem updL_same (L : Nat → Lev) (d : Nat) (x : Lev) : updL L d x d = x := if_pos rfl
theorem updL_other (L : Nat → Lev) {d i : Nat} (x : Lev) (h : i ≠ d) : updL L d x i = L i := if_neg h
/-- the lists that are open, the innermost first -/
def stk (L : Nat → Lev) : Nat → List (List Sx)
  | 0 => []
  | d + 1 => (L d).ks :: stk L d
theorem stk_length (L : Nat → Lev) : ∀ d, (stk L d).length = d
  | 0 => rfl
  | d + 1 => by simp [stk, stk_length L d]
theorem stk_congr {L L' : Nat → Lev} : ∀ {d : Nat}, (∀ i, i < d → L' i = L i) → stk L' d = stk L d
  | 0, _ => rfl
  | d + 1, h => by simp only [stk]; rw [h d (by omega), stk_congr fun i hi => h i (by omega)]
theorem stk_upd (L : Nat → Lev) (d : Nat) (x : Lev) : stk (updL L d x) (d + 1) = x.ks :: stk L d := by
  simp only [stk]
  rw [updL_same, stk_congr fun i hi => updL_other L x (by omega)]

/-- where a value that has been read may lie -/
def okT (g : Nat) (vo : Value) (L : Nat → Lev) (d : Nat) (k : Nat) : Prop := g < k ∧ vo.ownBlock ≠ some k ∧ ∀ i, i < d → (L i).val.ownBlock ≠ some k
/-- how the open lists lie -/
structure Stt (w : World) (g : Nat) (vo : Value) (L : Nat → Lev) (d : Nat) : Prop where
  own : OwnG w (g + 1) 5 vo d (newsK (fun i => (L i).sv) d)
  kid : ∀ i, i < d → OwnG w (g + 1) 5 (L i).val (L i).ks.length (newsK (L i).K (L i).ks.length)
  tree : ∀ i, i < d → ∀ j (h : j < (L i).ks.length), RdI (okT g vo L d) w ((L i).K j) (L i).ks[j]
  sep : ∀ i, i < d → ∀ k, (L i).val.ownBlock = some k → vo.ownBlock ≠ some k
  sep2 : ∀ i, i < d → ∀ j, j < d → i ≠ j → ∀ k, (L i).val.ownBlock = some k → (L j).val.ownBlock ≠ some k

section
variable {w w' : World} {g d : Nat} {vo v' : Value} {L : Nat → Lev}
theorem Stt.none (w : World) (g : Nat) (L : Nat → Lev) : Stt w g (.slice none 0 0) L 0 :=
  ⟨OwnG.nil _ _ _, fun i hi => by omega, fun i hi => by omega, fun i hi => by omega, fun i hi => by omega⟩
theorem okT_lt {k : Nat} (h : okT g vo L d k) : g < k := h.1
/-- nothing behind the reader's block has changed -/
theorem Stt.keep (h : Stt w g vo L d) (hz : w.heap.size ≤ w'.heap.size) (hk : ∀ k, k < w.heap.size → g < k → w'.heap[k]? = w.heap[k]?) : Stt w' g vo L d :=
  ⟨h.own.keep hz (fun k e => hk k (h.own.lt k e).2 (h.own.lt k e).1), fun i hi => (h.kid i hi).keep hz (fun k e => hk k ((h.kid i hi).lt k e).2 ((h.kid i hi).lt k e).1),
    fun i hi j hj => ((h.tree i hi j hj).there.keep fun k e => hk k e.2 e.1.1).mono fun _ e => e.1, h.sep, h.sep2⟩
theorem Stt.but {S : Nat → Prop} (h : Stt w g vo L d) (hb : But S w w') (hS : ∀ k, S k → k ≤ g) : Stt w' g vo L d :=
  h.keep hb.size fun k hk hg => hb.block k hk fun e => by have := hS k e; omega
theorem Stt.after (h : Stt w g vo L d) (hb : Below w.heap.size w w') : Stt w' g vo L d := h.keep hb.size fun k hk _ => hb.block k hk
theorem okT_new {k : Nat} (h : Stt w g vo L d) (hg : g < w.heap.size) (hk : w.heap.size ≤ k) : okT g vo L d k :=
  ⟨by omega, fun e => by have := h.own.lt k e; omega, fun i hi e => by have := (h.kid i hi).lt k e; omega⟩

/-- a list begins -/
theorem Stt.push (h : Stt w g vo L d) (hz : w.heap.size ≤ w'.heap.size) (hk : ∀ k, k < w.heap.size → g < k → vo.ownBlock ≠ some k → w'.heap[k]? = w.heap[k]?)
    (hw : ∀ k, v'.ownBlock = some k → vo.ownBlock = some k ∨ w.heap.size ≤ k) (ho : OwnG w' (g + 1) 5 v' (d + 1) (newsK (fun i => (updL L d Lev.new i).sv) (d + 1))) : Stt w' g v' (updL L d Lev.new) (d + 1) := by
  have hsep : ∀ i, i < d → ∀ k, (L i).val.ownBlock = some k → v'.ownBlock ≠ some k := fun i hi k e e' => by
    rcases hw k e' with e2 | e2
    · exact h.sep i hi k e e2
    · have := (h.kid i hi).lt k e; omega
  have hnew : ∀ k, Lev.new.val.ownBlock ≠ some k := fun k e => by simp [Lev.new, Lev.val, Value.ownBlock] at e
  refine ⟨ho, fun i hi => ?_, fun i hi j hj => ?_, fun i hi k e => ?_, fun i hi j hj hij k e => ?_⟩
  · by_cases hid : i = d
    · subst hid
      rw [updL_same]
      exact OwnG.nil _ _ _
    · rw [updL_other L _ hid]
      have h1 := h.kid i (by omega)
      exact h1.keep hz fun k e => hk k (h1.lt k e).2 (h1.lt k e).1 (h.sep i (by omega) k e)
  · by_cases hid : i = d
    · subst hid
      simp only [updL_same] at hj
      cases hj
    · simp only [updL_other L _ hid] at hj ⊢
      refine ((h.tree i (by omega) j hj).there.keep fun k e => hk k e.2 e.1.1 e.1.2.1).mono fun k e => ⟨e.1.1, fun e' => ?_, fun m hm e' => ?_⟩
      · rcases hw k e' with e2 | e2
        · exact e.1.2.1 e2
        · omega
      · by_cases hmd : m = d
        · subst hmd; rw [updL_same] at e'; exact hnew k e'
        · rw [updL_other L _ hmd] at e'; exact e.1.2.2 m (by omega) e'
  · by_cases hid : i = d
    · subst hid; rw [updL_same] at e; exact absurd e (hnew k)
    · rw [updL_other L _ hid] at e; exact hsep i (by omega) k e
  · by_cases hid : i = d
    · subst hid; rw [updL_same] at e; exact absurd e (hnew k)
    · rw [updL_other L _ hid] at e
      by_cases hjd : j = d
      · subst hjd; rw [updL_same]; exact hnew k
      · rw [updL_other L _ hjd]; exact h.sep2 i (by omega) j (by omega) hij k e

/-- a list ends -/
theorem Stt.pop (h : Stt w g vo L (d + 1)) (hz : w.heap.size ≤ w'.heap.size) (hk : ∀ k, k < w.heap.size → g < k → w'.heap[k]? = w.heap[k]?)
    (hw : ∀ k, v'.ownBlock = some k → vo.ownBlock = some k) (ho : OwnG w' (g + 1) 5 v' d (newsK (fun i => (L i).sv) d)) :
    Stt w' g v' L d ∧ RdI (okT g v' L d) w' (L d).sv (.mk true false [] [] (L d).ks) := by
  have h' := h.keep hz hk
  have hmono : ∀ k, okT g vo L (d + 1) k → okT g v' L d k := fun k e => ⟨e.1, fun e' => e.2.1 (hw k e'), fun i hi => e.2.2 i (by omega)⟩
  refine ⟨⟨ho, fun i hi => h'.kid i (by omega), fun i hi j hj => (h'.tree i (by omega) j hj).mono hmono, fun i hi k e e' => h.sep i (by omega) k e (hw k e'), fun i hi j hj => h.sep2 i (by omega) j (by omega)⟩, ?_⟩
  obtain ⟨a', c', e', hrow, hinb⟩ := (h'.kid d (by omega)).row
  unfold Lev.val at e'
  cases e'
  refine rd_list hrow ?_ rfl (fun i hi => (h'.tree d (by omega) i hi).mono hmono)
  have hown := (h'.kid d (by omega)).lt
  cases hta : (L d).ta with
  | none => exact .inr fun b o s e => by cases e
  | some ad =>
    by_cases hn : (L d).ks.length = 0
    · exact .inl hn
    · right
      intro b o s e
      obtain ⟨b', o', e2, _⟩ := OwnG.at_ (h'.kid d (by omega)) (by omega)
      rw [hta, e] at e2
      cases e2
      have hv : (L d).val.ownBlock = some b := by unfold Lev.val; rw [hta, e]; simp [Value.ownBlock]
      exact ⟨by have := (hown b hv).1; omega, fun e' => h.sep d (by omega) b hv (hw b e'), fun i hi e' => h.sep2 i (by omega) d (by omega) (by omega) b e' hv⟩

/-- a value goes into the innermost list -/
theorem Stt.add (h : Stt w g vo L (d + 1)) {v : SV} {s : Sx} (hr : RdI (okT g vo L (d + 1)) w v s) {ta : Option Addr} {tc : Nat}
    (hz : w.heap.size ≤ w'.heap.size) (hk : ∀ k, k < w.heap.size → g < k → vo.ownBlock ≠ some k → (L d).val.ownBlock ≠ some k → w'.heap[k]? = w.heap[k]?)
    (hw : ∀ k, (Value.slice ta ((L d).ks.length + 1) tc).ownBlock = some k → (L d).val.ownBlock = some k ∨ w.heap.size ≤ k)
    (hn : OwnG w' (g + 1) 5 (.slice ta ((L d).ks.length + 1) tc) ((L d).ks.length + 1) (newsK (fun i => if i = (L d).ks.length then v else (L d).K i) ((L d).ks.length + 1)))
    (ho : OwnG w' (g + 1) 5 vo (d + 1) (newsK (fun i => (updL L d ⟨(L d).ks ++ [s], ta, tc, fun i => if i = (L d).ks.length then v else (L d).K i⟩ i).sv) (d + 1))) :
    Stt w' g vo (updL L d ⟨(L d).ks ++ [s], ta, tc, fun i => if i = (L d).ks.length then v else (L d).K i⟩) (d + 1) := by
  obtain ⟨X, hX⟩ : ∃ X : Lev, X = ⟨(L d).ks ++ [s], ta, tc, fun i => if i = (L d).ks.length then v else (L d).K i⟩ := ⟨_, rfl⟩
  have hXv : X.val = .slice ta ((L d).ks.length + 1) tc := by rw [hX]; simp [Lev.val]
  rw [← hX] at ho ⊢
  have hsepX : ∀ k, X.val.ownBlock = some k → vo.ownBlock ≠ some k := fun k e e' => by
    rw [hXv] at e
    rcases hw k e with e2 | e2
    · exact h.sep d (by omega) k e2 e'
    · have := h.own.lt k e'; omega
  have hsepXi : ∀ i, i < d → ∀ k, X.val.ownBlock = some k → (L i).val.ownBlock ≠ some k := fun i hi k e e' => by
    rw [hXv] at e
    rcases hw k e with e2 | e2
    · exact h.sep2 i (by omega) d (by omega) (by omega) k e' e2
    · have := (h.kid i (by omega)).lt k e'; omega
  have key : ∀ {v0 : SV} {s0 : Sx}, RdI (okT g vo L (d + 1)) w v0 s0 → RdI (okT g vo (updL L d X) (d + 1)) w' v0 s0 := fun h0 =>
    (h0.there.keep fun k e => hk k e.2 e.1.1 e.1.2.1 (e.1.2.2 d (by omega))).mono fun k e => ⟨e.1.1, e.1.2.1, fun i hi e' => by
      by_cases hid : i = d
      · subst hid
        rw [updL_same, hXv] at e'
        rcases hw k e' with e2 | e2
        · exact e.1.2.2 i (by omega) e2
        · omega
      · rw [updL_other L _ hid] at e'; exact e.1.2.2 i hi e'⟩
  refine ⟨ho, fun i hi => ?_, fun i hi j hj => ?_, fun i hi k e => ?_, fun i hi j hj hij k e => ?_⟩
  · by_cases hid : i = d
    · subst hid
      rw [updL_same, hXv, hX]
      simpa using hn
    · rw [updL_other L _ hid]
      have h1 := h.kid i hi
      exact h1.keep hz fun k e => hk k (h1.lt k e).2 (h1.lt k e).1 (h.sep i hi k e) (h.sep2 i hi d (by omega) hid k e)
  · by_cases hid : i = d
    · subst hid
      simp only [updL_same, hX] at hj ⊢
      by_cases hjl : j = (L i).ks.length
      · subst hjl
        simp only [if_pos rfl]
        rw [show ((L i).ks ++ [s])[(L i).ks.length] = s by simp]
        rw [← hX]
        exact key hr
      · have hlt : j < (L i).ks.length := by simp at hj; omega
        simp only [if_neg hjl]
        rw [List.getElem_append_left hlt, ← hX]
        exact key (h.tree i hi j hlt)
    · simp only [updL_other L _ hid] at hj ⊢
      exact key (h.tree i hi j hj)
  · by_cases hid : i = d
    · subst hid; rw [updL_same] at e; exact hsepX k e
    · rw [updL_other L _ hid] at e; exact h.sep i hi k e
  · by_cases hid : i = d
    · subst hid
      rw [updL_same] at e
      rw [updL_other L _ (Ne.symm hij)]
      exact hsepXi j (by omega) k e
    · rw [updL_other L _ hid] at e
      by_cases hjd : j = d
      · subst hjd
        rw [updL_same]
        exact fun e' => hsepXi i (by omega) k e' e
      · rw [updL_other L _ hjd]; exact h.sep2 i hi j hj hij k e
end

/-- a slice is stored in a cell -/
theorem wp_store_slice {P : Program} {Q : Exit → Act → World → Prop} {o : Oper} {a : Act} {w : World} {K : Act → World → Prop} (ty : TypeId) (x y : Operand) (ho : o.op = .store ty x y)
    {b off : Nat} {p : Option Addr} {n c : Nat} (hx : a.eval x = .pointer (some ⟨b, off, none⟩)) (hy : a.eval y = .slice p n c) {u : Value} (hc : w.cell? ⟨b, off, none⟩ = some u) (hf : w.frozen? ⟨b, off, none⟩ = false) (hz : ∀ w, (sizeOf ty).run P w = .ok 1 w)
    (h : K (a.put o.dst undef) (w.setCell ⟨b, off, none⟩ (.slice p n c))) : o.wp P a w K Q := by
  unfold Oper.wp execOp
  simp only [ho, hx, hy]
  simp [go_sem, hz, hc, hf]
  exact h
/-- what a store of values' cells in a row does -/
theorem wp_store_elem {P : Program} {Q : Exit → Act → World → Prop} {op : Oper} {a : Act} {w : World} {K : Act → World → Prop} (ty : TypeId) (x y : Operand) (ho : op.op = .store ty x y)
    (b o : Nat) (v : SV) (hx : a.eval x = .pointer (some ⟨b, o, none⟩)) (hy : a.eval y = v.val) (ht : w.there b o 5) (hi : (P.info? ty).map (·.size) = some 5)
    (h : K (a.put op.dst undef) (w.setCells b o v.cells.toList)) : op.wp P a w K Q :=
  wp_store_mid ty x y ho b o v.cells hx hy ht hi v.one h
end Go.Proofs.YtigopfeamjhdpaaDoor
namespace Go.Proofs.YtigopfeamjhdpaaDoor
open Go.RowKit
set_option linter.unusedSimpArgs false
set_option linter.unusedVariables false

theorem OwnG.keep' {w w' : World} {B size n : Nat} {v : Value} {xs : List Value} (h : OwnG w B size v n xs) {S : Nat → Prop} (hb : But S w w') (hS : ∀ k, v.ownBlock = some k → ¬ S k) : OwnG w' B size v n xs := h.but hb hS
/-- the values within of one element of a row of one's own -/
theorem OwnG.setKids {w : World} {B b o n cap : Nat} {K : Nat → SV} (h : OwnG w B 5 (.slice (some ⟨b, o, none⟩) n cap) n (newsK K n)) (i : Nat) (hi : i < n) (p : Option Addr) (m c : Nat) :
    w.cell? ⟨b, o + i * 5 + 4, none⟩ = some (.slice (K i).a3 (K i).n3 (K i).c3) ∧ w.frozen? ⟨b, o + i * 5 + 4, none⟩ = false ∧
    OwnG (w.setCell ⟨b, o + i * 5 + 4, none⟩ (.slice p m c)) B 5 (.slice (some ⟨b, o, none⟩) n cap) n (newsK (fun j => if j = i then { K i with a3 := p, n3 := m, c3 := c } else K j) n) := by
  rcases h.2 with ⟨h2, _⟩ | ⟨g, o', cap', h2, h3, h4, h5, h6, h7, h8⟩
  · cases h2
  · cases h2
    have hc4 : w.cell? ⟨b, o + i * 5 + 4, none⟩ = some (.slice (K i).a3 (K i).n3 (K i).c3) := by
      have := h8 (i * 5 + 4) (.slice (K i).a3 (K i).n3 (K i).c3) (by rw [newsK_at _ n i 4 hi (by omega)]; rfl)
      rwa [← Nat.add_assoc] at this
    have hf4 : w.frozen? ⟨b, o + i * 5 + 4, none⟩ = false := by
      have := (h7 (i * 5 + 4) (by omega)).2
      rwa [← Nat.add_assoc] at this
    have hset : w.setCell ⟨b, o + i * 5 + 4, none⟩ (.slice p m c) = w.setCells b (o + i * 5 + 4) [.slice p m c] := rfl
    refine ⟨hc4, hf4, ?_⟩
    rw [hset]
    have hth : w.there b (o + i * 5 + 4) 1 := fun j hj => by
      obtain rfl : j = 0 := by omega
      exact ⟨by rw [Nat.add_zero, hc4]; rfl, by rw [Nat.add_zero]; exact hf4⟩
    refine .made (newsK_len _ _) h3 (by rw [size_setCells]; exact h4) h5 h6 (World.there_setCells h7 _ _ _) (fun j x hx => ?_)
    have hj : j < n * 5 := by
      have := (List.getElem?_eq_some_iff.1 hx).1
      rwa [newsK_len] at this
    obtain ⟨q, r, hr, rfl⟩ : ∃ q r, r < 5 ∧ j = q * 5 + r := ⟨j / 5, j % 5, by omega, by omega⟩
    have hq : q < n := by omega
    rw [newsK_at _ n q r hq hr] at hx
    by_cases hqr : q = i ∧ r = 4
    · obtain ⟨rfl, rfl⟩ := hqr
      rw [if_pos rfl] at hx
      have := World.rangeAt_setCells_same w b (o + q * 5 + 4) [.slice p m c] hth 0 x (by simpa [SV.cells] using hx)
      rwa [Nat.add_zero, Nat.add_assoc] at this
    · rw [World.cell?_setCells_out b [.slice p m c] (o + i * 5 + 4) w ⟨b, o + (q * 5 + r), none⟩ (fun _ _ => by
        show o + (q * 5 + r) < o + i * 5 + 4 ∨ o + i * 5 + 4 + 1 ≤ o + (q * 5 + r)
        omega)]
      refine h8 (q * 5 + r) x ?_
      rw [newsK_at _ n q r hq hr]
      by_cases hqi : q = i
      · subst hqi
        rw [if_pos rfl] at hx
        have hr4 : r < 4 := by omega
        match r, hr4, hx with
        | 0, _, hx => exact hx
        | 1, _, hx => exact hx
        | 2, _, hx => exact hx
        | 3, _, hx => exact hx
      · rw [if_neg hqi] at hx
        exact hx

theorem but_cells (w : World) (b o : Nat) (vs : List Value) : But (fun k => k = b) w (w.setCells b o vs) := But.ofGrown (grownBy_setCells w b o vs) (fun k e => by cases e; rfl)
theorem but_cell (w : World) (p : Addr) (v : Value) : But (fun k => k = p.block) w (w.setCell p v) := (But.refl (fun k => k = p.block) w).setCell (.inl rfl) v

theorem push_end {w4 w5 w6 w7 w8 : World} {g q n c p m d co b o cap : Nat} {a ao : Option Addr} {L : Nat → Lev} {RT : TypeId} (hq : g ≤ q) (h : Stt w4 q (.slice ao d co) L d) (R4 : Box w4 g RT (RdC a n c p m (.slice ao d co)))
    (hg5 : w4.grownBy w5 (Value.slice ao d co).ownBlock) (hw5 : ∀ k, (Value.slice (some ⟨b, o, none⟩) (d + 1) cap).ownBlock = some k → (Value.slice ao d co).ownBlock = some k ∨ w4.heap.size ≤ k)
    (ho5 : OwnG w5 (q + 1) 5 (.slice (some ⟨b, o, none⟩) (d + 1) cap) (d + 1) (newsK (fun i => if i = d then SV.nil else (L i).sv) (d + 1)))
    (b6 : Below w5.heap.size w5 w6) (b7 : Below (w6.setCells b (o + d * 5) Lev.new.sv.cells.toList).heap.size (w6.setCells b (o + d * 5) Lev.new.sv.cells.toList) w7)
    (b8 : Below (w7.setCell ⟨g, 3, none⟩ (.slice (some ⟨b, o, none⟩) (d + 1) cap)).heap.size (w7.setCell ⟨g, 3, none⟩ (.slice (some ⟨b, o, none⟩) (d + 1) cap)) w8) :
    Box w7 g RT (RdC a n c p m (.slice ao d co)) ∧ But (fun k => k = g ∨ (Value.slice ao d co).ownBlock = some k) w4 w8 ∧ Stt w8 q (.slice (some ⟨b, o, none⟩) (d + 1) cap) (updL L d Lev.new) (d + 1) ∧ Box w8 g RT (RdC a n c p m (.slice (some ⟨b, o, none⟩) (d + 1) cap)) := by
  have hgw := R4.lt
  have hbo : (Value.slice (some (⟨b, o, none⟩ : Addr)) (d + 1) cap).ownBlock = some b := by simp [Value.ownBlock]
  have hbl := ho5.lt b hbo
  have B5 : But (fun k => k = g ∨ (Value.slice ao d co).ownBlock = some k) w4 w5 := But.ofGrown hg5 (fun k e => .inr e)
  have B6 := B5.trans (But.ofBelow (S := fun _ => False) b6) (fun k hk => hk.elim)
  have B6' := B6.trans (but_cells w6 b (o + d * 5) Lev.new.sv.cells.toList) (fun k hk => by
    subst hk
    rcases hw5 k hbo with e | e
    · exact .inl (.inr e)
    · exact .inr e)
  have B7 := B6'.trans (But.ofBelow (S := fun _ => False) b7) (fun k hk => hk.elim)
  have B7' := B7.trans (but_cell w7 ⟨g, 3, none⟩ (.slice (some ⟨b, o, none⟩) (d + 1) cap)) (fun k hk => .inl (.inl hk))
  have B8 := B7'.trans (But.ofBelow (S := fun _ => False) b8) (fun k hk => hk.elim)
  have h47 : w7.heap[g]? = w4.heap[g]? := by
    rw [b7.block g (by rw [size_setCells]; have := B6.size; omega), World.heap_setCells_other _ _ _ _ (by have := B6.size; omega) (by omega), b6.block g (by have := B5.size; omega), hg5.block g hgw (fun e => by have := h.own.lt g e.symm; omega)]
  have R7 : Box w7 g RT (RdC a n c p m (.slice ao d co)) := h47.trans R4
  have R8 : Box w8 g RT (RdC a n c p m (.slice (some ⟨b, o, none⟩) (d + 1) cap)) := by
    have := (R7.set 3 (.slice (some ⟨b, o, none⟩) (d + 1) cap)).after b8
    exact this
  refine ⟨R7, B8, ?_, R8⟩
  obtain ⟨hth, ho6⟩ := (ho5.after b6).setElem d (by omega) Lev.new.sv
  have ho7 := ho6.after b7
  have ho8 := (ho7.but (but_cell w7 ⟨g, 3, none⟩ (.slice (some ⟨b, o, none⟩) (d + 1) cap)) (fun k e hk => by have := ho7.lt k e; have : k = g := hk; omega)).after b8
  refine h.push B8.size (fun k hk hgk hvo => B8.block k hk (fun e => e.elim (fun e => by omega) hvo)) hw5 (ho8.congr fun i hi => ?_)
  by_cases hid : i = d
  · subst hid; rw [if_pos rfl, updL_same]
  · rw [if_neg hid, if_neg hid, updL_other L _ hid]

/-- the stores the other way round -/
theorem push_end' {w4 w5 w6 w7 w8 : World} {g q n c p m d co b o cap : Nat} {a ao : Option Addr} {L : Nat → Lev} {RT : TypeId} (hq : g ≤ q) (h : Stt w4 q (.slice ao d co) L d) (R4 : Box w4 g RT (RdC a n c p m (.slice ao d co)))
    (hg5 : w4.grownBy w5 (Value.slice ao d co).ownBlock) (hw5 : ∀ k, (Value.slice (some ⟨b, o, none⟩) (d + 1) cap).ownBlock = some k → (Value.slice ao d co).ownBlock = some k ∨ w4.heap.size ≤ k)
    (ho5 : OwnG w5 (q + 1) 5 (.slice (some ⟨b, o, none⟩) (d + 1) cap) (d + 1) (newsK (fun i => if i = d then SV.nil else (L i).sv) (d + 1)))
    (b6 : Below w5.heap.size w5 w6) (b7 : Below (w6.setCell ⟨g, 3, none⟩ (.slice (some ⟨b, o, none⟩) (d + 1) cap)).heap.size (w6.setCell ⟨g, 3, none⟩ (.slice (some ⟨b, o, none⟩) (d + 1) cap)) w7)
    (b8 : Below (w7.setCells b (o + d * 5) Lev.new.sv.cells.toList).heap.size (w7.setCells b (o + d * 5) Lev.new.sv.cells.toList) w8) :
    Box w6 g RT (RdC a n c p m (.slice ao d co)) ∧ w7.there b (o + d * 5) 5 ∧ But (fun k => k = g ∨ (Value.slice ao d co).ownBlock = some k) w4 w8 ∧ Stt w8 q (.slice (some ⟨b, o, none⟩) (d + 1) cap) (updL L d Lev.new) (d + 1) ∧ Box w8 g RT (RdC a n c p m (.slice (some ⟨b, o, none⟩) (d + 1) cap)) := by
  have hgw := R4.lt
  have hbo : (Value.slice (some (⟨b, o, none⟩ : Addr)) (d + 1) cap).ownBlock = some b := by simp [Value.ownBlock]
  have hbl := ho5.lt b hbo
  have B5 : But (fun k => k = g ∨ (Value.slice ao d co).ownBlock = some k) w4 w5 := But.ofGrown hg5 (fun k e => .inr e)
  have B6 := B5.trans (But.ofBelow (S := fun _ => False) b6) (fun k hk => hk.elim)
  have B6' := B6.trans (but_cell w6 ⟨g, 3, none⟩ (.slice (some ⟨b, o, none⟩) (d + 1) cap)) (fun k hk => .inl (.inl hk))
  have B7 := B6'.trans (But.ofBelow (S := fun _ => False) b7) (fun k hk => hk.elim)
  have B7' := B7.trans (but_cells w7 b (o + d * 5) Lev.new.sv.cells.toList) (fun k hk => by
    subst hk
    rcases hw5 k hbo with e | e
    · exact .inl (.inr e)
    · exact .inr e)
  have B8 := B7'.trans (But.ofBelow (S := fun _ => False) b8) (fun k hk => hk.elim)
  have h46 : w6.heap[g]? = w4.heap[g]? := by
    rw [b6.block g (by have := B5.size; omega), hg5.block g hgw (fun e => by have := h.own.lt g e.symm; omega)]
  have R6 : Box w6 g RT (RdC a n c p m (.slice ao d co)) := h46.trans R4
  have R7 : Box w7 g RT (RdC a n c p m (.slice (some ⟨b, o, none⟩) (d + 1) cap)) := (R6.set 3 (.slice (some ⟨b, o, none⟩) (d + 1) cap)).after b7
  have R8 : Box w8 g RT (RdC a n c p m (.slice (some ⟨b, o, none⟩) (d + 1) cap)) := ((but_cells w7 b (o + d * 5) Lev.new.sv.cells.toList).box R7 (by omega)).after b8
  have ho6 := (ho5.after b6)
  have ho7 := (ho6.but (but_cell w6 ⟨g, 3, none⟩ (.slice (some ⟨b, o, none⟩) (d + 1) cap)) (fun k e hk => by have := ho6.lt k e; have : k = g := hk; omega)).after b7
  obtain ⟨hth, ho8⟩ := ho7.setElem d (by omega) Lev.new.sv
  refine ⟨R6, hth, B8, ?_, R8⟩
  refine h.push B8.size (fun k hk hgk hvo => B8.block k hk (fun e => e.elim (fun e => by omega) hvo)) hw5 ((ho8.after b8).congr fun i hi => ?_)
  by_cases hid : i = d
  · subst hid; rw [if_pos rfl, updL_same]
  · rw [if_neg hid, if_neg hid, updL_other L _ hid]

theorem add_end {w4 w5 w6 w7 w8 : World} {g d b o co bk ok tc' : Nat} {L : Nat → Lev} {v : SV} {s : Sx} (h : Stt w4 g (.slice (some ⟨b, o, none⟩) (d + 1) co) L (d + 1)) (hr : RdI (okT g (.slice (some ⟨b, o, none⟩) (d + 1) co) L (d + 1)) w4 v s)
    (hg5 : w4.grownBy w5 (L d).val.ownBlock) (hw5 : ∀ k, (Value.slice (some ⟨bk, ok, none⟩) ((L d).ks.length + 1) tc').ownBlock = some k → (L d).val.ownBlock = some k ∨ w4.heap.size ≤ k)
    (ho5 : OwnG w5 (g + 1) 5 (.slice (some ⟨bk, ok, none⟩) ((L d).ks.length + 1) tc') ((L d).ks.length + 1) (newsK (fun i => if i = (L d).ks.length then SV.nil else (L d).K i) ((L d).ks.length + 1)))
    (b6 : Below w5.heap.size w5 w6) (b7 : Below (w6.setCells bk (ok + (L d).ks.length * 5) v.cells.toList).heap.size (w6.setCells bk (ok + (L d).ks.length * 5) v.cells.toList) w7)
    (b8 : Below (w7.setCell ⟨b, o + d * 5 + 4, none⟩ (.slice (some ⟨bk, ok, none⟩) ((L d).ks.length + 1) tc')).heap.size (w7.setCell ⟨b, o + d * 5 + 4, none⟩ (.slice (some ⟨bk, ok, none⟩) ((L d).ks.length + 1) tc')) w8) :
    (∃ u, w7.cell? ⟨b, o + d * 5 + 4, none⟩ = some u) ∧ w7.frozen? ⟨b, o + d * 5 + 4, none⟩ = false ∧ But (fun k => k = b ∨ (L d).val.ownBlock = some k) w4 w8 ∧
    Stt w8 g (.slice (some ⟨b, o, none⟩) (d + 1) co) (updL L d ⟨(L d).ks ++ [s], some ⟨bk, ok, none⟩, tc', fun i => if i = (L d).ks.length then v else (L d).K i⟩) (d + 1) := by
  have hbo : (Value.slice (some (⟨b, o, none⟩ : Addr)) (d + 1) co).ownBlock = some b := by simp [Value.ownBlock]
  have hbk : (Value.slice (some (⟨bk, ok, none⟩ : Addr)) ((L d).ks.length + 1) tc').ownBlock = some bk := by simp [Value.ownBlock]
  have hbl := h.own.lt b hbo
  have hbkl := ho5.lt bk hbk
  have hne : bk ≠ b := fun e => by
    rcases hw5 bk hbk with e2 | e2
    · exact h.sep d (by omega) bk e2 (by rw [e]; exact hbo)
    · omega
  have B5 : But (fun k => k = b ∨ (L d).val.ownBlock = some k) w4 w5 := But.ofGrown hg5 (fun k e => .inr e)
  have B6 := B5.trans (But.ofBelow (S := fun _ => False) b6) (fun k hk => hk.elim)
  have B6' := B6.trans (but_cells w6 bk (ok + (L d).ks.length * 5) v.cells.toList) (fun k hk => by
    subst hk
    rcases hw5 k hbk with e | e
    · exact .inl (.inr e)
    · exact .inr e)
  have B7 := B6'.trans (But.ofBelow (S := fun _ => False) b7) (fun k hk => hk.elim)
  have B7' := B7.trans (but_cell w7 ⟨b, o + d * 5 + 4, none⟩ (.slice (some ⟨bk, ok, none⟩) ((L d).ks.length + 1) tc')) (fun k hk => .inl (.inl hk))
  have B8 := B7'.trans (But.ofBelow (S := fun _ => False) b8) (fun k hk => hk.elim)
  have h47 : w7.heap[b]? = w4.heap[b]? := by
    rw [b7.block b (by rw [size_setCells]; have := B6.size; omega), World.heap_setCells_other _ _ _ _ (by have := B6.size; omega) (fun e => hne e.symm), b6.block b (by have := B5.size; omega), hg5.block b hbl.2 (fun e => h.sep d (by omega) b e.symm hbo)]
  have ho47 : OwnG w7 (g + 1) 5 (.slice (some ⟨b, o, none⟩) (d + 1) co) (d + 1) (newsK (fun i => (L i).sv) (d + 1)) := h.own.keep B7.size (fun k e => by rw [hbo] at e; cases e; exact h47)
  obtain ⟨c7, f7, ho7⟩ := ho47.setKids d (by omega) (some ⟨bk, ok, none⟩) ((L d).ks.length + 1) tc'
  refine ⟨⟨_, c7⟩, f7, B8, ?_⟩
  obtain ⟨hth, hk6⟩ := (ho5.after b6).setElem (L d).ks.length (by omega) v
  have hk7 := hk6.after b7
  have hk8 := (hk7.but (but_cell w7 ⟨b, o + d * 5 + 4, none⟩ (.slice (some ⟨bk, ok, none⟩) ((L d).ks.length + 1) tc')) (fun k e hk => by rw [hbk] at e; cases e; exact hne hk)).after b8
  refine h.add hr B8.size (fun k hk hgk hvo hkd => B8.block k hk (fun e => e.elim (fun e => hvo (by rw [e]; exact hbo)) hkd)) hw5 (hk8.congr fun i hi => ?_) ((ho7.after b8).congr fun i hi => ?_)
  · by_cases hid : i = (L d).ks.length
    · rw [if_pos hid, if_pos hid]
    · rw [if_neg hid, if_neg hid, if_neg hid]
  · by_cases hid : i = d
    · subst hid; rw [if_pos rfl, updL_same]; simp [Lev.sv]
    · rw [if_neg hid, updL_other L _ hid]
/-- the stores the other way round -/
theorem add_end' {w4 w5 w6 w7 w8 : World} {g d b o co bk ok tc' : Nat} {L : Nat → Lev} {v : SV} {s : Sx} (h : Stt w4 g (.slice (some ⟨b, o, none⟩) (d + 1) co) L (d + 1)) (hr : RdI (okT g (.slice (some ⟨b, o, none⟩) (d + 1) co) L (d + 1)) w4 v s)
    (hg5 : w4.grownBy w5 (L d).val.ownBlock) (hw5 : ∀ k, (Value.slice (some ⟨bk, ok, none⟩) ((L d).ks.length + 1) tc').ownBlock = some k → (L d).val.ownBlock = some k ∨ w4.heap.size ≤ k)
    (ho5 : OwnG w5 (g + 1) 5 (.slice (some ⟨bk, ok, none⟩) ((L d).ks.length + 1) tc') ((L d).ks.length + 1) (newsK (fun i => if i = (L d).ks.length then SV.nil else (L d).K i) ((L d).ks.length + 1)))
    (b6 : Below w5.heap.size w5 w6) (b7 : Below (w6.setCell ⟨b, o + d * 5 + 4, none⟩ (.slice (some ⟨bk, ok, none⟩) ((L d).ks.length + 1) tc')).heap.size (w6.setCell ⟨b, o + d * 5 + 4, none⟩ (.slice (some ⟨bk, ok, none⟩) ((L d).ks.length + 1) tc')) w7)
    (b8 : Below (w7.setCells bk (ok + (L d).ks.length * 5) v.cells.toList).heap.size (w7.setCells bk (ok + (L d).ks.length * 5) v.cells.toList) w8) :
    (∃ u, w6.cell? ⟨b, o + d * 5 + 4, none⟩ = some u) ∧ w6.frozen? ⟨b, o + d * 5 + 4, none⟩ = false ∧ w7.there bk (ok + (L d).ks.length * 5) 5 ∧ But (fun k => k = b ∨ (L d).val.ownBlock = some k) w4 w8 ∧
    Stt w8 g (.slice (some ⟨b, o, none⟩) (d + 1) co) (updL L d ⟨(L d).ks ++ [s], some ⟨bk, ok, none⟩, tc', fun i => if i = (L d).ks.length then v else (L d).K i⟩) (d + 1) := by
  have hbo : (Value.slice (some (⟨b, o, none⟩ : Addr)) (d + 1) co).ownBlock = some b := by simp [Value.ownBlock]
  have hbk : (Value.slice (some (⟨bk, ok, none⟩ : Addr)) ((L d).ks.length + 1) tc').ownBlock = some bk := by simp [Value.ownBlock]
  have hbl := h.own.lt b hbo
  have hbkl := ho5.lt bk hbk
  have hne : bk ≠ b := fun e => by
    rcases hw5 bk hbk with e2 | e2
    · exact h.sep d (by omega) bk e2 (by rw [e]; exact hbo)
    · omega
  have B5 : But (fun k => k = b ∨ (L d).val.ownBlock = some k) w4 w5 := But.ofGrown hg5 (fun k e => .inr e)
  have B6 := B5.trans (But.ofBelow (S := fun _ => False) b6) (fun k hk => hk.elim)
  have B6' := B6.trans (but_cell w6 ⟨b, o + d * 5 + 4, none⟩ (.slice (some ⟨bk, ok, none⟩) ((L d).ks.length + 1) tc')) (fun k hk => .inl (.inl hk))
  have B7 := B6'.trans (But.ofBelow (S := fun _ => False) b7) (fun k hk => hk.elim)
  have B7' := B7.trans (but_cells w7 bk (ok + (L d).ks.length * 5) v.cells.toList) (fun k hk => by
    subst hk
    rcases hw5 k hbk with e | e
    · exact .inl (.inr e)
    · exact .inr e)
  have B8 := B7'.trans (But.ofBelow (S := fun _ => False) b8) (fun k hk => hk.elim)
  have h46 : w6.heap[b]? = w4.heap[b]? := by
    rw [b6.block b (by have := B5.size; omega), hg5.block b hbl.2 (fun e => h.sep d (by omega) b e.symm hbo)]
  have ho46 : OwnG w6 (g + 1) 5 (.slice (some ⟨b, o, none⟩) (d + 1) co) (d + 1) (newsK (fun i => (L i).sv) (d + 1)) := h.own.keep B6.size (fun k e => by rw [hbo] at e; cases e; exact h46)
  obtain ⟨c6, f6, ho6⟩ := ho46.setKids d (by omega) (some ⟨bk, ok, none⟩) ((L d).ks.length + 1) tc'
  have hk6 := ((ho5.after b6).but (but_cell w6 ⟨b, o + d * 5 + 4, none⟩ (.slice (some ⟨bk, ok, none⟩) ((L d).ks.length + 1) tc')) (fun k e hk => by rw [hbk] at e; cases e; exact hne hk)).after b7
  obtain ⟨hth, hk7⟩ := hk6.setElem (L d).ks.length (by omega) v
  have ho8 := ((ho6.after b7).but (but_cells w7 bk (ok + (L d).ks.length * 5) v.cells.toList) (fun k e hk => by rw [hbo] at e; cases e; exact hne hk.symm)).after b8
  refine ⟨⟨_, c6⟩, f6, hth, B8, ?_⟩
  refine h.add hr B8.size (fun k hk hgk hvo hkd => B8.block k hk (fun e => e.elim (fun e => hvo (by rw [e]; exact hbo)) hkd)) hw5 ((hk7.after b8).congr fun i hi => ?_) (ho8.congr fun i hi => ?_)
  · by_cases hid : i = (L d).ks.length
    · rw [if_pos hid, if_pos hid]
    · rw [if_neg hid, if_neg hid, if_neg hid]
  · by_cases hid : i = d
    · subst hid; rw [if_pos rfl, updL_same]; simp [Lev.sv]
    · rw [if_neg hid, updL_other L _ hid]
end Go.Proofs.YtigopfeamjhdpaaDoor
namespace Go.Proofs.YtigopfeamjhdpaaDoor
open Go.RowKit
set_option linter.unusedSimpArgs false
set_option linter.unusedVariables false

/-- a value that has been read is delivered -/
def Del (l : List UInt8) : List (List Sx) → Sx → Nat → Nat → RV → Prop
  | [], s, p, m, r => r = ⟨s, p, m, 0⟩
  | ks :: st, s, p, m, r => Mach l ((ks ++ [s]) :: st) p m r
theorem del_atom {l : List UInt8} {st : List (List Sx)} {p m rp : Nat} {rv : Sx} {r : RV} (k1 : p < l.length) (k2 : starts (l.getD p 0)) (k3 : l.getD p 0 ≠ 40) (hm1 : m + 1 ≤ 512) (e1 : (rAtom l p (m + 1)).e = 0) (e2 : (rAtom l p (m + 1)).v = rv) (e3 : (rAtom l p (m + 1)).p = rp)
    (h : Del l st rv rp (m + 1) r) : Mach l st p m r := by
  cases st with
  | nil =>
    have e4 := rAtom_n e1
    have h0 : r = rAtom l p (m + 1) := by
      unfold Del at h
      rw [h, ← e2, ← e3]
      generalize rAtom l p (m + 1) = R at *
      cases R
      simp only at e1 e4 ⊢
      rw [e1, e4]
    rw [h0]
    exact Mach.atom k1 k2 k3 hm1 e1
  | cons ks st =>
    refine Mach.more k1 k2 k3 hm1 e1 ?_
    rw [e2, e3]
    exact h
theorem del_close {l : List UInt8} {st : List (List Sx)} {p m : Nat} {ks : List Sx} {r : RV} (k1 : p < l.length) (k2 : l.getD p 0 = 41) (h : Del l st (.mk true false [] [] ks) (p + 1) m r) : Mach l (ks :: st) p m r := by
  cases st with
  | nil =>
    unfold Del at h
    rw [h]
    exact Mach.close k1 k2
  | cons kt st => exact Mach.closes k1 k2 h
section
variable {w u u' : World} {g q : Nat} {a : Option Addr} {n c : Nat} {l : List UInt8} {p m : Nat} {vo : Value} {L : Nat → Lev} {d : Nat}
end

end Go.Proofs.YtigopfeamjhdpaaDoor
namespace Go.Proofs.YtigopfeamjhdpaaDoor
open Go.RowKit
set_option linter.unusedSimpArgs false
set_option linter.unusedVariables false

end Go.Proofs.YtigopfeamjhdpaaDoor
namespace Go.Proofs.YtigopfeamjhdpaaDoor
open Go.RowKit
set_option linter.unusedSimpArgs false
set_option linter.unusedVariables false

/-- where the reader stands -/
def atOf (w : World) (g : Nat) : Nat := match w.cell? ⟨g, 1, none⟩ with | some (.int _ z) => z.toNat | _ => 0
end Go.Proofs.YtigopfeamjhdpaaDoor
namespace Go.Proofs.YtigopfeamjhdpaaDoor
open Go.RowKit
set_option linter.unusedSimpArgs false
set_option linter.unusedVariables false

end Go.Proofs.YtigopfeamjhdpaaDoor
namespace Go.Proofs.YtigopfeamjhdpaaDoor
open Go.RowKit
set_option linter.unusedSimpArgs false
set_option linter.unusedVariables false

/-- what a frame that leaves does asks for its results' slots alone -/
theorem leaves_put {P : Program} {fn : Func} {R : Ending → World → Prop} {t t' : Array Value} (h : results fn t' = results fn t) : ∀ (ds : List Deferred) (u : FrameMode) (w : World), Leaves P fn t' R ds u w → Leaves P fn t R ds u w
  | [], .returning, w => by unfold Leaves; rw [h]; exact id
  | [], .panicking c, w => id
  | [], .run, w => id
  | d :: ds, u, w => fun ⟨h1, fv, cap, f, args, h2, h3, h4⟩ => ⟨h1, fv, cap, f, args, h2, h3, h4.mono fun e u' w' he => by
      cases e with
      | returned v => exact leaves_put h ds _ _ he
      | panicked c => exact leaves_put h ds _ _ he
      | outgrown => exact he⟩

end Go.Proofs.YtigopfeamjhdpaaDoor
namespace Go.Proofs.YtigopfeamjhdpaaDoor
open Go.RowKit

theorem bldInfo5 : (Tryd.prog.info? 5).map (fun i => (i.zero, i.size, i.bytes)) = some (some (.int .u8 0), 1, 1) := by kernel_rfl
theorem bldSize : (Tryd.prog.info? 72).map (·.size) = some 2 := by kernel_rfl
theorem bldLies : liesAt Tryd.prog Tryd.prog.depth 72 (2 / Tryd.prog.cellsOf 72) 0 72 1 = true := by kernel_rfl

set_option maxHeartbeats 1000000 in
set_option maxRecDepth 100000 in
theorem copyCheck_used (b : Nat) (w : World) (h0 : w.cell? ⟨b, 0, none⟩ = some (.pointer (some ⟨b, 0, none⟩))) :
    Calls Tryd.prog 75 #[.pointer (some ⟨b, 0, none⟩)] w fun e w' => e = .returned (.tuple #[]) ∧ w = w' := by
  obtain ⟨j, hj, _⟩ := Option.map_eq_some_iff.1 bldSize
  go_enter Tryd.func75, Tryd.ntmps75
  go_wp2
  rw [Lib.run_neq_ptr_same w _ Tryd.underlying70 hj]
  go_wp2
  go_end0
  exact ⟨rfl, rfl⟩

set_option maxHeartbeats 1000000 in
set_option maxRecDepth 100000 in
theorem copyCheck_fresh (b : Nat) (w : World) (h0 : w.cell? ⟨b, 0, none⟩ = some (.pointer none)) (hsh : w.shape? b = some (72, 2)) (hfz : w.frozen? ⟨b, 0, none⟩ = false) :
    Calls Tryd.prog 75 #[.pointer (some ⟨b, 0, none⟩)] w fun e w' => e = .returned (.tuple #[]) ∧ w.setCell ⟨b, 0, none⟩ (.pointer (some ⟨b, 0, none⟩)) = w' := by
  obtain ⟨j, hj, hjs⟩ := Option.map_eq_some_iff.1 bldSize
  go_enter Tryd.func75, Tryd.ntmps75
  go_wp2
  rw [Lib.run_to_unsafe w ⟨b, 0, none⟩ Tryd.underlying70 Tryd.underlying109 hj (by rw [hjs]; decide) hsh (Nat.zero_lt_succ 1)]
  simp only [Result.andThen]
  rw [Oper.upon_value]
  go_wp2
  rw [run_callFunc_extern Tryd.func82 (by kernel_rfl) (by kernel_rfl) (by kernel_rfl) (e := Extern.AbiNoEscape.same) (by kernel_rfl)]
  rw [Lib.run_noEscape]
  simp only [Result.andThen]
  rw [Oper.upon_value]
  go_wp2
  rw [Lib.run_from_unsafe w ⟨b, 0, none⟩ Tryd.underlying109 Tryd.underlying70 hj hsh bldLies]
  simp only [Result.andThen]
  rw [Oper.upon_value]
  go_wp2
  go_end0
  exact ⟨rfl, rfl⟩

theorem copyCheck (B b : Nat) (bs : List Value) (w : World) (h : Lib.IsBuilder 72 5 B b bs w) :
    Calls Tryd.prog 75 #[.pointer (some ⟨b, 0, none⟩)] w fun e w' => e = .returned (.tuple #[]) ∧ (Lib.BuilderAt 72 5 B b (.pointer (some ⟨b, 0, none⟩)) bs w' ∧ Below B w w') := by
  rcases h with h | h
  · refine (copyCheck_fresh b w h.cell0 h.shape h.frozen0).mono ?_
    rintro e w' ⟨rfl, rfl⟩
    exact ⟨rfl, h.used _, (Below.refl B w).setCell (p := ⟨b, 0, none⟩) h.1 _⟩
  · refine (copyCheck_used b w h.cell0).mono ?_
    rintro e w' ⟨rfl, rfl⟩
    exact ⟨rfl, h, Below.refl B _⟩

set_option maxHeartbeats 2000000 in
set_option maxRecDepth 100000 in
theorem bldByte (B b : Nat) (bs : List Value) (c : Int) (w : World) (h : Lib.IsBuilder 72 5 B b bs w) (hlen : bs.length + 1 ≤ 140737488355328) (hBw : B ≤ w.heap.size) :
    Calls Tryd.prog 66 #[.pointer (some ⟨b, 0, none⟩), .int .u8 c] w fun e w' => e = .returned .nilIface ∧ Lib.IsBuilder 72 5 B b (bs ++ [.int .u8 c]) w' ∧ Below B w w' := by
  obtain ⟨i0, hi, hz0, hz1, hz2⟩ := info_parts bldInfo5
  go_enter Tryd.func66, Tryd.ntmps66
  go_wp2_with (go_at_call 75; refine (copyCheck B b bs _ h).mono ?_)
  rintro e w1 ⟨rfl, h1, hb1⟩
  obtain ⟨hB, v, hbk, hown, hne⟩ := h1
  have c0 : w1.cell? ⟨b, 0, none⟩ = some (.pointer (some ⟨b, 0, none⟩)) := by rw [Lib.cell_of_heap hbk]; rfl
  have c1 : w1.cell? ⟨b, 1, none⟩ = some v := by rw [Lib.cell_of_heap hbk]; rfl
  go_wp2_with (at_builtin; refine wpList_append_own _ rfl _ _ 24 rfl B 5 i0 (.int .u8 0) 1 1 Tryd.underlying24 hi hz0 hz1 hz2 rfl (by decide) _ _ _ rfl (hown.alloc _) ⟨w1.heap.size, 0, none⟩ 1 1 [.int .u8 c] rfl rfl ?c1 ?c2 ?c3 ?c4 ?c5 ?_)
  case c1 =>
    intro j u hj
    match j, hj with
    | 0, hj => simp at hj; subst hj; simp [Addr.add]
  case c2 => intro u hu; simp at hu; subst hu; rfl
  case c3 => unfold maxLen; omega
  case c4 => omega
  case c5 => have := hb1.size; simp; omega
  intro v' w2 hown' hgrow _
  have hlt : b < w1.heap.size := by
    rcases Nat.lt_or_ge b w1.heap.size with h' | h'
    · exact h'
    · simp [Array.getElem?_eq_none h'] at hbk
  have hb2 : w2.heap[b]? = some (.cells #[.pointer (some ⟨b, 0, none⟩), v] 72 (0, 0)) := by
    rw [hgrow.block b (by simp; omega) (fun e => hne e.symm), Lib.alloc_old w1 _ b hlt]
    exact hbk
  have d0 : w2.cell? ⟨b, 0, none⟩ = some (.pointer (some ⟨b, 0, none⟩)) := by rw [Lib.cell_of_heap hb2]; rfl
  have d1 : w2.cell? ⟨b, 1, none⟩ = some v := by rw [Lib.cell_of_heap hb2]; rfl
  have f1 : w2.frozen? ⟨b, 1, none⟩ = false := Lib.frozen_of_heap hb2 1
  obtain ⟨g, cap, rfl⟩ : ∃ g cap, v' = .slice (some ⟨g, 0, none⟩) (bs.length + 1) cap := by
    rcases hown'.2 with ⟨_, h0⟩ | ⟨g, cap, cur, hv, _⟩
    · omega
    · exact ⟨g, cap, hv⟩
  go_wp2
  go_ret
  refine ⟨rfl, .inr ?_, ?_⟩
  · exact Lib.BuilderAt.put (T := 72) (e := 5) hB hb2 (bs' := bs ++ [.int .u8 c]) (by simpa using hown') (by decide)
  · exact ((hb1.alloc (by have := hb1.size; omega) _).grown hgrow (by have := hb1.size; simp; omega) (fun k hk => (hown.lt k hk).1)).setCell (p := ⟨b, 1, none⟩) hB _

set_option maxHeartbeats 2000000 in
set_option maxRecDepth 100000 in
theorem bldString (B b : Nat) (bs : List Value) (s : ByteArray) (w : World) (h : Lib.IsBuilder 72 5 B b bs w) (hlen : bs.length + s.size ≤ 140737488355328) (hBw : B ≤ w.heap.size) :
    Calls Tryd.prog 67 #[.pointer (some ⟨b, 0, none⟩), .string s] w fun e w' => e = .returned (.tuple #[.int .i64 s.size, .nilIface]) ∧ Lib.IsBuilder 72 5 B b (bs ++ Lib.strCells s) w' ∧ Below B w w' := by
  obtain ⟨i0, hi, hz0, hz1, hz2⟩ := info_parts bldInfo5
  go_enter Tryd.func67, Tryd.ntmps67
  go_wp2_with (go_at_call 75; refine (copyCheck B b bs _ h).mono ?_)
  rintro e w1 ⟨rfl, h1, hb1⟩
  obtain ⟨hB, v, hbk, hown, hne⟩ := h1
  have c0 : w1.cell? ⟨b, 0, none⟩ = some (.pointer (some ⟨b, 0, none⟩)) := by rw [Lib.cell_of_heap hbk]; rfl
  have c1 : w1.cell? ⟨b, 1, none⟩ = some v := by rw [Lib.cell_of_heap hbk]; rfl
  go_wp2_with (at_builtin; refine Lib.wpList_append_own_string _ rfl _ _ 24 9 rfl B 5 i0 Tryd.underlying24 Tryd.underlying9 hi hz0 hz1 hz2 _ _ _ rfl hown s rfl ?c3 ?c4 ?c5 ?_)
  case c3 => unfold maxLen; omega
  case c4 => omega
  case c5 => have := hb1.size; omega
  intro v' w2 hown' hgrow _
  have hlt : b < w1.heap.size := by
    rcases Nat.lt_or_ge b w1.heap.size with h' | h'
    · exact h'
    · simp [Array.getElem?_eq_none h'] at hbk
  have hb2 : w2.heap[b]? = some (.cells #[.pointer (some ⟨b, 0, none⟩), v] 72 (0, 0)) := by
    rw [hgrow.block b hlt (fun e => hne e.symm)]
    exact hbk
  have d0 : w2.cell? ⟨b, 0, none⟩ = some (.pointer (some ⟨b, 0, none⟩)) := by rw [Lib.cell_of_heap hb2]; rfl
  have d1 : w2.cell? ⟨b, 1, none⟩ = some v := by rw [Lib.cell_of_heap hb2]; rfl
  have f1 : w2.frozen? ⟨b, 1, none⟩ = false := Lib.frozen_of_heap hb2 1
  obtain ⟨ao, n', cap, rfl⟩ : ∃ ao n' cap, v' = .slice ao n' cap := by
    rcases hown'.2 with ⟨hv, _⟩ | ⟨g, cap, cur, hv, _⟩
    · exact ⟨_, _, _, hv⟩
    · exact ⟨_, _, _, hv⟩
  go_wp2
  go_ret2
  refine ⟨rfl, .inr ?_, ?_⟩
  · exact Lib.BuilderAt.put (T := 72) (e := 5) hB hb2 (bs' := bs ++ Lib.strCells s) (by simpa [Lib.strCells_length] using hown') (by decide)
  · exact (hb1.grown hgrow (by have := hb1.size; omega) (fun k hk => (hown.lt k hk).1)).setCell (p := ⟨b, 1, none⟩) hB _

theorem bldOut (B b : Nat) (l : List UInt8) (w : World) (h : Lib.IsBuilder 72 5 B b (Lib.byteCells l) w) (hBw : B ≤ w.heap.size) :
    Calls Tryd.prog 49 #[.pointer (some ⟨b, 0, none⟩)] w fun e w' => e = .returned (.string ⟨l.toArray⟩) ∧ Below B w w' :=
  Tryd.Builder_String_any B b l w h hBw
end Go.Proofs.YtigopfeamjhdpaaDoor
namespace Go.Proofs.YtigopfeamjhdpaaDoor
open Go.RowKit

def hexB : ByteArray := ⟨#[48, 49, 50, 51, 52, 53, 54, 55, 56, 57, 97, 98, 99, 100, 101, 102]⟩
def hxd (k : Nat) : UInt8 := if h : k < 16 then hexB[k]'h else 0
theorem hxd_eq (k : Nat) (h : k < 16) : hexB[k]'h = hxd k := by simp [hxd, h]
def hexL (l : List UInt8) : List UInt8 := l.flatMap fun c => [hxd (c.toNat / 16), hxd (c.toNat % 16)]
theorem hexL_snoc (l : List UInt8) (c : UInt8) : hexL (l ++ [c]) = hexL l ++ [hxd (c.toNat / 16), hxd (c.toNat % 16)] := by simp [hexL]
theorem hexL_len (l : List UInt8) : (hexL l).length = 2 * l.length := by induction l <;> simp_all [hexL]; omega
theorem take_snoc (l : List UInt8) (k : Nat) (h : k < l.length) : l.take (k + 1) = l.take k ++ [l.getD k 0] := by
  rw [List.take_succ_eq_append_getElem h]; simp [List.getD_eq_getElem?_getD, h]
theorem byteCells_snoc' (d : List UInt8) (c : UInt8) : Lib.byteCells d ++ [Value.int IntKind.u8 (c.toNat : Int)] = Lib.byteCells (d ++ [c]) := by simp [Lib.byteCells]

/-- a hexadecimal digit's value -/
def hval (n : Nat) : Option Nat := if 48 ≤ n ∧ n ≤ 57 then some (n - 48) else if 97 ≤ n ∧ n ≤ 102 then some (n - 87) else if 65 ≤ n ∧ n ≤ 70 then some (n - 55) else none
def hvalI (c : UInt8) : Int := match hval c.toNat with | some v => v | none => -1
theorem hval_lt (n v : Nat) (h : hval n = some v) : v < 16 := by
  unfold hval at h
  split at h
  · simp at h; omega
  · split at h
    · simp at h; omega
    · split at h
      · simp at h; omega
      · cases h
theorem hvalI_big : ∀ n : Fin 256, 65 ≤ n.val → n.val ≤ 70 → Lib.indexByte hexB.data.toList ((n.val + 32).toUInt8) = hvalI (UInt8.ofNat n.val) := by decide +kernel
theorem hvalI_small : ∀ n : Fin 256, ¬ (65 ≤ n.val ∧ n.val ≤ 70) → Lib.indexByte hexB.data.toList (n.val.toUInt8) = hvalI (UInt8.ofNat n.val) := by decide +kernel

set_option maxHeartbeats 400000 in
set_option maxRecDepth 100000 in
theorem digit_any (c : UInt8) (w : World) : Calls Tryd.prog 80 #[.int .u8 (c.toNat : Int)] w fun e w' => e = .returned (.int .i64 (hvalI c)) ∧ w' = w := by
  have hc := c.toNat_lt
  have hb := hvalI_big ⟨c.toNat, hc⟩
  have hs := hvalI_small ⟨c.toNat, hc⟩
  simp only [UInt8.ofNat_toNat] at hb hs
  have HB := Lib.hid hb
  have HS := Lib.hid hs
  clear hb hs
  by_cases h1 : (65 : Int) ≤ (c.toNat : Int)
  · by_cases h2 : (c.toNat : Int) ≤ 70
    · go_enter Tryd.func80, Tryd.ntmps80
      go_wp2_with fail
      refine (Tryd.strings_IndexByte _ _ _).mono ?_
      rintro e w1 ⟨rfl, hw⟩
      go_wp2_with fail
      go_ret
      refine ⟨?_, rfl⟩
      rw [← HB.out (by omega) (by omega)]
      rfl
    · replace h2 : (70 : Int) < (c.toNat : Int) := by omega
      go_enter Tryd.func80, Tryd.ntmps80
      go_wp2_with fail
      refine (Tryd.strings_IndexByte _ _ _).mono ?_
      rintro e w1 ⟨rfl, hw⟩
      go_wp2_with fail
      go_ret
      refine ⟨?_, rfl⟩
      rw [← HS.out (by omega)]
      rfl
  · replace h1 : (c.toNat : Int) < 65 := by omega
    go_enter Tryd.func80, Tryd.ntmps80
    go_wp2_with fail
    refine (Tryd.strings_IndexByte _ _ _).mono ?_
    rintro e w1 ⟨rfl, hw⟩
    go_wp2_with fail
    go_ret
    refine ⟨?_, rfl⟩
    rw [← HS.out (by omega)]
    rfl

/-- the bytes of hexadecimal digits -/
def unhex : List UInt8 → Option (List UInt8)
  | [] => some []
  | [_] => none
  | a :: b :: t => match hval a.toNat, hval b.toNat with
    | some x, some y => (unhex t).map (UInt8.ofNat (16 * x + y) :: ·)
    | _, _ => none
theorem unhex_odd (l : List UInt8) (h : l.length % 2 = 1) : unhex l = none := by
  induction l using unhex.induct with
  | case1 => simp at h
  | case2 => rfl
  | case3 a b t x y hx hy ih =>
    have := ih (by simp at h; omega)
    simp [unhex, hx, hy, this]
  | case4 a b t h1 => simp only [unhex]

/-- the error of what is none: ErrForm -/
def errForm (o : Option (List UInt8)) : Int := if o.isSome then 0 else 3

/-- what a function that reads bytes hands back: the slice, and a number -/
def Gave (o : Option (List UInt8)) (v : Value) (B : Nat) (w : World) (e : Ending) (w' : World) : Prop :=
  ∃ a n c, e = .returned (.tuple #[.slice a n c, v]) ∧ Sl w' a n c (o.getD []) ∧ Below B w w'

def slLen : Value → Nat
  | .slice _ n _ => n
  | _ => 0
def strLen : Value → Nat
  | .string s => s.size
  | _ => 0
theorem sl_nil (w : World) : Sl w none 0 0 [] := ⟨rfl, Nat.le_refl _, Nat.zero_le _, fun _ => rfl, .inl rfl⟩
theorem sl_cell (w : World) (g : Nat) (c : UInt8) (h : w.cell? ⟨g, 0, none⟩ = some (.int .u8 (c.toNat : Int))) : Sl w (some ⟨g, 0, none⟩) 1 1 [c] := by
  refine ⟨rfl, Nat.le_refl _, by unfold maxLen; omega, (fun h => by cases h), .inr ⟨g, 0, rfl, fun i hi => ?_⟩⟩
  obtain rfl : i = 0 := by omega
  simpa using h
theorem sl_cell_nat (w : World) (g z : Nat) (hz : z < 256) (h : w.cell? ⟨g, 0, none⟩ = some (.int .u8 (z : Int))) : Sl w (some ⟨g, 0, none⟩) 1 1 [UInt8.ofNat z] := by
  refine sl_cell w g _ ?_
  rw [h]
  have : (UInt8.ofNat z).toNat = z := by simp; omega
  rw [this]
theorem cell_new (w : World) (v : Value) (g : Nat) (hg : g = w.heap.size) : (w.alloc (.cells #[v] 5)).cell? ⟨g, 0, none⟩ = some v := by
  subst hg
  rw [World.cell?_alloc_mark]; rfl
theorem sl_two (w : World) (g : Nat) (c d : UInt8) (h : w.cell? ⟨g, 0, none⟩ = some (.int .u8 (c.toNat : Int))) (h' : w.cell? ⟨g, 1, none⟩ = some (.int .u8 (d.toNat : Int))) : Sl w (some ⟨g, 0, none⟩) 2 2 [c, d] := by
  refine ⟨rfl, Nat.le_refl _, by unfold maxLen; omega, (fun h => by cases h), .inr ⟨g, 0, rfl, fun i hi => ?_⟩⟩
  match i, hi with
  | 0, _ => simpa using h
  | 1, _ => simpa using h'
theorem cell_two_of (w : World) (u v : Value) (g : Nat) (hg : g = w.heap.size) : (w.alloc (.cells #[u, v] 5)).cell? ⟨g, 0, none⟩ = some u ∧ (w.alloc (.cells #[u, v] 5)).cell? ⟨g, 1, none⟩ = some v := by
  subst hg
  constructor <;> (rw [World.cell?_alloc_mark]; rfl)
theorem i64_join (x y : Nat) (hx : x < 16) (hy : y < 16) : bits .or .i64 ((x : Int) * 16) (y : Int) = ((16 * x + y : Nat) : Int) := by
  rw [bits_join .i64 32 (by decide) (fun n h0 h1 => by rw [IntKind.wrap_i64]; omega) 4 _ _ (by omega) (by omega) (by omega) (by omega) (by omega) (by omega)]
  omega
end Go.Proofs.YtigopfeamjhdpaaDoor
namespace Go.Proofs.YtigopfeamjhdpaaDoor
open Go.RowKit

theorem unhex_drop (s : ByteArray) (k : Nat) (hk : k + 1 < s.size) :
    unhex (s.data.toList.drop k) = match hval (s[k]'(by omega)).toNat, hval (s[k + 1]'hk).toNat with
      | some x, some y => (unhex (s.data.toList.drop (k + 2))).map (UInt8.ofNat (16 * x + y) :: ·)
      | _, _ => none := by
  have h1 : k < s.data.toList.length := by simpa using (by omega : k < s.size)
  have h2 : k + 1 < s.data.toList.length := by simpa using hk
  rw [List.drop_eq_getElem_cons h1, List.drop_eq_getElem_cons h2]
  rfl
theorem hvalI_some (c : UInt8) (v : Nat) (h : hval c.toNat = some v) : hvalI c = (v : Int) := by simp [hvalI, h]
theorem hvalI_none (c : UInt8) (h : hval c.toNat = none) : hvalI c = -1 := by simp [hvalI, h]
theorem hvalI_ge (c : UInt8) : -1 ≤ hvalI c := by unfold hvalI; split <;> omega

set_option maxHeartbeats 1000000 in
set_option maxRecDepth 100000 in
theorem unhex_any (s : ByteArray) (w : World) (hs : s.size ≤ 1000000000) :
    Calls Tryd.prog 72 #[.string s] w (Gave (unhex s.data.toList) (.int .i64 (errForm (unhex s.data.toList))) w.heap.size w) := by
  obtain ⟨R, hR⟩ : ∃ R, R = unhex s.data.toList := ⟨_, rfl⟩
  rw [← hR]
  have HR := Lib.hid hR
  clear hR
  by_cases ho : s.size % 2 = 1
  · have hodd : R = none := by rw [HR.out]; exact unhex_odd _ (by simpa using ho)
    subst hodd
    have h1 : (0 : Int) < (s.size : Int) % 2 := by omega
    go_enter Tryd.func72, Tryd.ntmps72
    go_wp2_with fail
    go_ret2
    exact ⟨none, 0, 0, rfl, sl_nil w, Below.refl _ _⟩
  · have h1 : ((s.size : Int) % 2) ≤ 0 := by omega
    have h2 : s.size % 2 = 0 := by omega
    have H2 := Lib.hid h2
    clear ho h2
    obtain ⟨i0, hi, hz0, hz1, hz2⟩ := info_parts bldInfo5
    go_enter Tryd.func72, Tryd.ntmps72
    go_wp2_with fail
    clear h1
    go_loopw [4, 5] (fun out i wr => ∃ (k : Nat) (d : List UInt8), k ≤ s.size ∧ Hid (k % 2 = 0) ∧ i = .int .i64 k ∧ wr.ownsRow w.heap.size 5 1 out d.length (Lib.byteCells d) ∧ Hid (R = (unhex (s.data.toList.drop k)).map (d ++ ·)) ∧ d.length ≤ k ∧ Below w.heap.size w wr)
      (fun _ i _ => s.size - (intOf i).toNat)
    case atStart => exact ⟨0, [], Nat.zero_le _, Lib.hid rfl, rfl, World.ownsRow_nil _ _ _ _, Lib.hid (by rw [HR.out]; simp), Nat.le_refl _, Below.refl _ _⟩
    case round =>
      obtain ⟨k, d, hk, HK, rfl, hown, HD, hdl, hW⟩ := hrel
      by_cases hlt : k < s.size
      · have hk1 : k + 1 < s.size := by have := HK.out; have := H2.out; omega
        have HU := Lib.hid (unhex_drop s k hk1)
        obtain ⟨c1, hc1⟩ : ∃ c1, c1 = s[k]'hlt := ⟨_, rfl⟩
        obtain ⟨c2, hc2⟩ : ∃ c2, c2 = s[k + 1]'hk1 := ⟨_, rfl⟩
        have HU' : Hid (unhex (s.data.toList.drop k) = match hval c1.toNat, hval c2.toNat with
            | some x, some y => (unhex (s.data.toList.drop (k + 2))).map (UInt8.ofNat (16 * x + y) :: ·)
            | _, _ => none) := by rw [hc1, hc2]; exact HU
        clear HU
        have e1 := hc1.symm
        have e2 := hc2.symm
        clear hc1 hc2
        cases h1 : hval c1.toNat with
        | none =>
          have q1 := hvalI_none c1 h1
          have HV := Lib.hid (show R = none by
            have := HD.out; rw [HU'.out, h1] at this; simpa using this)
          clear h1 HU' HD
          go_wp2_with fail
          go_quiet ((go_at_call 80; exact Calls.quiet_of_same (digit_any _ _)))
          go_wp2_with fail
          go_ret2
          exact ⟨none, 0, 0, by rw [HV.out]; rfl, by rw [HV.out]; exact sl_nil _, below_drewN hW _⟩
        | some x =>
          cases h2 : hval c2.toNat with
          | none =>
            have q1 := hvalI_some c1 x h1
            have q2 := hvalI_none c2 h2
            have HV := Lib.hid (show R = none by
              have := HD.out; rw [HU'.out, h1, h2] at this; simpa using this)
            clear h1 h2 HU' HD
            go_wp2_with fail
            go_quiet ((go_at_call 80; exact Calls.quiet_of_same (digit_any _ _)))
            go_wp2_with fail
            go_ret2
            exact ⟨none, 0, 0, by rw [HV.out]; rfl, by rw [HV.out]; exact sl_nil _, below_drewN hW _⟩
          | some y =>
            have q1 := hvalI_some c1 x h1
            have q2 := hvalI_some c2 y h2
            have lx := hval_lt _ _ h1
            have ly := hval_lt _ _ h2
            obtain ⟨z, hz⟩ : ∃ z : Nat, z = 16 * x + y := ⟨_, rfl⟩
            have q3 := i64_join x y lx ly
            rw [← hz] at q3
            have lz : z < 256 := by omega
            have HV := Lib.hid (show R = (unhex (s.data.toList.drop (k + 2))).map ((d ++ [UInt8.ofNat z]) ++ ·) by
              have := HD.out; rw [HU'.out, h1, h2] at this; rw [this, hz]; simp [Function.comp_def])
            clear h1 h2 HU' HD hz
            go_wp2_with fail
            go_quiet ((go_at_call 80; exact Calls.quiet_of_same (digit_any _ _)))
            have hownq : (wr.drewN nq).ownsRow w.heap.size 5 1 _ d.length (Lib.byteCells d) := hown
            go_wp2_with (at_builtin; go_loud (refine wpList_append_sl rfl (.tmp 33) (.tmp 39) 24 rfl w.heap.size 5 i0 Tryd.underlying24 hi hz0 hz1 hz2 _ d.length d rfl (hownq.alloc _) (some ⟨wr.heap.size, 0, none⟩) 1 1 [UInt8.ofNat z] rfl (sl_cell_nat _ _ z lz (cell_new _ _ _ rfl)) (by omega) (by have := hW.size; simp; omega) ?_); intro v1 w1 hown1 hg1)
            have hW1 := ((below_drewN hW nq).alloc (by have := hW.size; simp; omega) _).grown hg1 (by have := hW.size; simp; omega) (fun k hk => (hownq.lt k hk).1)
            go_wp2_with fail
            go_roundw
            case rel => exact ⟨k + 2, d ++ [UInt8.ofNat z], by omega, Lib.hid (by have := HK.out; omega), by go_num, by simpa using hown1, HV, by simp; omega, hW1⟩
            case measure => simp [intOf]; omega
      · obtain rfl : k = s.size := by omega
        have HV := Lib.hid (show R = some d by
          have := HD.out; rw [List.drop_of_length_le (by simp)] at this; simpa [unhex] using this)
        clear HD
        go_wp2_with fail
        obtain ⟨a, c, rfl, hsl⟩ := Sl.ofOwns hown
        go_ret2
        exact ⟨a, d.length, c, by rw [HV.out]; rfl, by rw [HV.out]; exact hsl, hW⟩
end Go.Proofs.YtigopfeamjhdpaaDoor
namespace Go.Proofs.YtigopfeamjhdpaaDoor
open Go.RowKit

def signs : ByteArray := ⟨#[65, 66, 67, 68, 69, 70, 71, 72, 73, 74, 75, 76, 77, 78, 79, 80, 81, 82, 83, 84, 85, 86, 87, 88, 89, 90, 97, 98, 99, 100, 101, 102, 103, 104, 105, 106, 107, 108, 109, 110, 111, 112, 113, 114, 115, 116, 117, 118, 119, 120, 121, 122, 48, 49, 50, 51, 52, 53, 54, 55, 56, 57, 43, 47]⟩
def sgn (k : Nat) : UInt8 := if h : k < 64 then signs[k]'h else 0
theorem sgn_eq (k : Nat) (h : k < 64) : signs[k]'h = sgn k := by simp [sgn, h]

def quad (n : Nat) : List UInt8 := [sgn (n / 262144 % 64), sgn (n / 4096 % 64), sgn (n / 64 % 64), sgn (n % 64)]
def b64 : List UInt8 → List UInt8
  | [] => []
  | [a] => [sgn (a.toNat * 65536 / 262144 % 64), sgn (a.toNat * 65536 / 4096 % 64), 61, 61]
  | [a, b] => [sgn ((a.toNat * 65536 + b.toNat * 256) / 262144 % 64), sgn ((a.toNat * 65536 + b.toNat * 256) / 4096 % 64), sgn ((a.toNat * 65536 + b.toNat * 256) / 64 % 64), 61]
  | a :: b :: c :: t => quad (a.toNat * 65536 + b.toNat * 256 + c.toNat) ++ b64 t

theorem or_step (X y : Nat) (hX : X < 65536) (hy : y < 256) : bits BinOp.or IntKind.u32 ((X : Int) * 256) (y : Int) = ((X * 256 + y : Nat) : Int) := by
  have e1 : (X : Int) * 256 = ((X * 256 : Nat) : Int) := by omega
  rw [e1, u32_or_nat _ _ (by omega) (by omega)]
  congr 1
  have := Nat.two_pow_add_eq_or_of_lt (i := 8) (b := y) (by omega) X
  rw [show X * 256 = 2 ^ 8 * X by omega, this]
theorem or_first (y : Nat) (hy : y < 256) : bits BinOp.or IntKind.u32 0 (y : Int) = (y : Int) := by
  have := or_step 0 y (by omega) hy
  simpa using this
theorem and63 (X : Nat) (hX : X < 4294967296) : bits BinOp.and IntKind.u32 (X : Int) 63 = ((X % 64 : Nat) : Int) := by
  rw [show (63 : Int) = ((63 : Nat) : Int) from rfl, u32_and_nat _ _ hX (by omega)]
  congr 1
  exact Nat.and_two_pow_sub_one_eq_mod X 6

theorem byteCells_snoc (d : List UInt8) (c : UInt8) : Lib.byteCells d ++ [Value.int IntKind.u8 (c.toNat : Int)] = Lib.byteCells (d ++ [c]) := by simp [Lib.byteCells]
theorem byteCells_fill (d : List UInt8) : Lib.byteCells d ++ Lib.strCells ⟨#[61]⟩ = Lib.byteCells (d ++ [61]) := by simp [Lib.byteCells, Lib.strCells]
theorem shl_step (X : Nat) (hX : X < 16777216) : (X : Int) * 256 % 4294967296 = ((X * 256 : Nat) : Int) := by omega
theorem b64_len (l : List UInt8) : (b64 l).length ≤ 2 * l.length + 4 := by
  induction l using b64.induct <;> simp [b64, quad] <;> omega

set_option maxHeartbeats 1600000 in
set_option maxRecDepth 100000 in
theorem base64_any (a : Option Addr) (len cap : Nat) (l : List UInt8) (w : World) (hs : Sl w a len cap l) (hl : l.length ≤ 1000000) :
    Calls Tryd.prog 86 #[.slice a len cap] w fun e w' => e = .returned (.string ⟨(b64 l).toArray⟩) ∧ Below w.heap.size w w' := by
  go_enter Tryd.func86, Tryd.ntmps86
  go_wp2
  go_loopw [0] (fun s wr => ∃ (a' : Option Addr) (len' cap' : Nat) (l' d : List UInt8), s = .slice a' len' cap' ∧ Sl wr a' len' cap' l' ∧ (∀ b o, len' ≠ 0 → a' = some ⟨b, o, none⟩ → b < w.heap.size) ∧ d ++ b64 l' = b64 l ∧ Lib.IsBuilder 72 5 w.heap.size w.heap.size (Lib.byteCells d) wr ∧ Below w.heap.size w wr)
    (fun s _ => match s with | .slice _ n _ => n | _ => 0)
  case atStart =>
    have hb : Below w.heap.size w (w.alloc (.cells #[.pointer none, .slice none 0 0] 72)) := (Below.refl _ _).alloc (Nat.le_refl _) _
    exact ⟨a, len, cap, l, [], rfl, hs.below hb hs.lt, hs.lt, rfl, Lib.fresh_isBuilder _ _ _, hb⟩
  case round =>
    obtain ⟨a', len', cap', l', d, rfl, hs', hlow, hd, hB, hW⟩ := hrel
    obtain ⟨hlen, hlc, hcm, hnil, hc⟩ := hs'
    clear hs
    rcases l' with _ | ⟨x, _ | ⟨y, _ | ⟨z, t⟩⟩⟩
    · obtain rfl : len' = 0 := by simpa using hlen
      have HD := Lib.hid hd
      clear hlen hc hlow hd hnil
      go_wp2_with fail
      refine (bldOut _ _ _ _ hB hW.size).mono ?_
      rintro e w1 ⟨rfl, hb1⟩
      go_wp2_with fail
      go_ret
      exact ⟨by rw [← HD.out]; simp [b64], hW.trans hb1⟩
    · obtain rfl : len' = 1 := by simpa using hlen
      obtain ⟨b, o, rfl, hcc⟩ : ∃ b o, a' = some ⟨b, o, none⟩ ∧ ∀ i, i < 1 → wr.cell? ⟨b, o + i, none⟩ = some (.int .u8 (([x].getD i 0).toNat : Int)) := by
        rcases hc with hc | hc
        · omega
        · exact hc
      have c0 := hcc 0 (by omega)
      simp only [Nat.add_zero, List.getD_cons_zero] at c0
      have HS := Lib.hid (Sl.mk' hlen hlc hcm (fun h => by cases h) (.inr ⟨b, o, rfl, hcc⟩))
      have hbw : b < w.heap.size := hlow b o (by omega) rfl
      have hdl : d.length + 4 ≤ 3000000 := by
        have h1 := b64_len l
        rw [← hd] at h1
        simp [b64] at h1
        omega
      have hx := x.toNat_lt
      have HD := Lib.hid hd
      clear hlen hc hcc hlow hd hnil
      have e1 := or_first x.toNat hx
      obtain ⟨X1, hX1⟩ : ∃ X1 : Nat, X1 = x.toNat * 256 := ⟨_, rfl⟩
      obtain ⟨X2, hX2⟩ : ∃ X2 : Nat, X2 = X1 * 256 := ⟨_, rfl⟩
      have e2 : (x.toNat : Int) * 256 = (X1 : Int) := by omega
      have e3 : (X1 : Int) * 256 = (X2 : Int) := by omega
      obtain ⟨k0, h0⟩ : ∃ k : Nat, k = X2 / 262144 % 64 := ⟨_, rfl⟩
      obtain ⟨k1, h1⟩ : ∃ k : Nat, k = X2 / 4096 % 64 := ⟨_, rfl⟩
      have f0 := and63 (X2 / 262144) (by omega)
      rw [← h0] at f0
      have f1 := and63 (X2 / 4096) (by omega)
      rw [← h1] at f1
      have b1 : X1 < 65536 := by omega
      have b2 : X2 < 16777216 := by omega
      have l0 : k0 < 64 := by omega
      have l1 : k1 < 64 := by omega
      have hq : b64 [x] = [sgn k0, sgn k1, 61, 61] := by
        have : x.toNat * 65536 = X2 := by omega
        simp only [b64, this, h0, h1]
      simp only [Int.natCast_ediv] at f0 f1
      simp at f0 f1
      have HQ := Lib.hid hq
      clear hX1 hX2 h0 h1 hq
      go_wp2_with fail
      refine wp_loop_rounds 4 ?_
      rw [rounds_succ]
      go_wp2_with fail
      rw [rounds_succ]
      go_wp2_with fail
      rw [rounds_succ]
      go_wp2_with fail
      rw [rounds_succ]
      go_wp2_with fail
      clear e1 e2 e3
      refine wp_loop_rounds 5 ?_
      rw [rounds_succ]
      go_wp2_with fail
      refine (bldByte _ _ _ _ _ hB (by simp [Lib.byteCells]; omega) hW.size).mono ?_
      rintro e w1 ⟨rfl, hB1, hb1⟩
      replace hB1 : Lib.IsBuilder 72 5 w.heap.size w.heap.size (Lib.byteCells (d ++ [sgn k0])) w1 := by have hh := hB1; have hs := sgn_eq k0 l0; unfold signs at hs; rw [hs, byteCells_snoc] at hh; simpa using hh
      go_wp2_with fail
      rw [rounds_succ]
      go_wp2_with fail
      refine (bldByte _ _ _ _ _ hB1 (by simp [Lib.byteCells]; omega) (hW.trans hb1).size).mono ?_
      rintro e w2 ⟨rfl, hB2, hb2⟩
      replace hB2 : Lib.IsBuilder 72 5 w.heap.size w.heap.size (Lib.byteCells (d ++ [sgn k0, sgn k1])) w2 := by have hh := hB2; have hs := sgn_eq k1 l1; unfold signs at hs; rw [hs, byteCells_snoc] at hh; simpa using hh
      go_wp2_with fail
      rw [rounds_succ]
      go_wp2_with fail
      refine (bldString _ _ _ _ _ hB2 (by simp [Lib.byteCells, ByteArray.size]; omega) ((hW.trans hb1).trans hb2).size).mono ?_
      rintro e w3 ⟨rfl, hB3, hb3⟩
      replace hB3 : Lib.IsBuilder 72 5 w.heap.size w.heap.size (Lib.byteCells (d ++ [sgn k0, sgn k1, 61])) w3 := by have hh := hB3; rw [byteCells_fill] at hh; simpa using hh
      go_wp2_with fail
      rw [rounds_succ]
      go_wp2_with fail
      refine (bldString _ _ _ _ _ hB3 (by simp [Lib.byteCells, ByteArray.size]; omega) (((hW.trans hb1).trans hb2).trans hb3).size).mono ?_
      rintro e w4 ⟨rfl, hB4, hb4⟩
      replace hB4 : Lib.IsBuilder 72 5 w.heap.size w.heap.size (Lib.byteCells (d ++ [sgn k0, sgn k1, 61, 61])) w4 := by have hh := hB4; rw [byteCells_fill] at hh; simpa using hh
      go_wp2_with fail
      rw [rounds_succ]
      go_wp2_with fail
      go_roundw
      case rel =>
        have hb := ((hb1.trans hb2).trans hb3).trans hb4
        have hS := HS.out.drop 1 (by omega)
        refine ⟨_, _, _, [], d ++ [sgn k0, sgn k1, 61, 61], rfl, hS.below hb ?_, ?_, ?_, hB4, hW.trans hb⟩
        · intro b' o' _ e; split at e <;> (simp at e; try omega)
        · intro b' o' _ e; split at e <;> (simp at e; try omega)
        · rw [← HD.out, HQ.out]; simp [b64]
      case measure => simp
    · obtain rfl : len' = 2 := by simpa using hlen
      obtain ⟨b, o, rfl, hcc⟩ : ∃ b o, a' = some ⟨b, o, none⟩ ∧ ∀ i, i < 2 → wr.cell? ⟨b, o + i, none⟩ = some (.int .u8 (([x, y].getD i 0).toNat : Int)) := by
        rcases hc with hc | hc
        · omega
        · exact hc
      have c0 := hcc 0 (by omega)
      have c1 := hcc 1 (by omega)
      simp only [Nat.add_zero, List.getD_cons_zero, List.getD_cons_succ] at c0 c1
      have HS := Lib.hid (Sl.mk' hlen hlc hcm (fun h => by cases h) (.inr ⟨b, o, rfl, hcc⟩))
      have hbw : b < w.heap.size := hlow b o (by omega) rfl
      have hdl : d.length + 4 ≤ 3000000 := by
        have h1 := b64_len l
        rw [← hd] at h1
        simp [b64] at h1
        omega
      have hx := x.toNat_lt
      have hy := y.toNat_lt
      have HD := Lib.hid hd
      clear hlen hc hcc hlow hd hnil
      have e1 := or_first x.toNat hx
      obtain ⟨X1, hX1⟩ : ∃ X1 : Nat, X1 = x.toNat * 256 + y.toNat := ⟨_, rfl⟩
      obtain ⟨X2, hX2⟩ : ∃ X2 : Nat, X2 = X1 * 256 := ⟨_, rfl⟩
      have e2 := or_step x.toNat y.toNat (by omega) hy
      rw [← hX1] at e2
      have e3 : (X1 : Int) * 256 = (X2 : Int) := by omega
      obtain ⟨k0, h0⟩ : ∃ k : Nat, k = X2 / 262144 % 64 := ⟨_, rfl⟩
      obtain ⟨k1, h1⟩ : ∃ k : Nat, k = X2 / 4096 % 64 := ⟨_, rfl⟩
      obtain ⟨k2, h2⟩ : ∃ k : Nat, k = X2 / 64 % 64 := ⟨_, rfl⟩
      have f0 := and63 (X2 / 262144) (by omega)
      rw [← h0] at f0
      have f1 := and63 (X2 / 4096) (by omega)
      rw [← h1] at f1
      have f2 := and63 (X2 / 64) (by omega)
      rw [← h2] at f2
      have b1 : X1 < 65536 := by omega
      have b2 : X2 < 16777216 := by omega
      have l0 : k0 < 64 := by omega
      have l1 : k1 < 64 := by omega
      have l2 : k2 < 64 := by omega
      have hq : b64 [x, y] = [sgn k0, sgn k1, sgn k2, 61] := by
        have : x.toNat * 65536 + y.toNat * 256 = X2 := by omega
        simp only [b64, this, h0, h1, h2]
      simp only [Int.natCast_ediv] at f0 f1 f2
      simp at f0 f1 f2
      have HQ := Lib.hid hq
      clear hX1 hX2 h0 h1 h2 hq
      go_wp2_with fail
      refine wp_loop_rounds 4 ?_
      rw [rounds_succ]
      go_wp2_with fail
      rw [rounds_succ]
      go_wp2_with fail
      rw [rounds_succ]
      go_wp2_with fail
      rw [rounds_succ]
      go_wp2_with fail
      clear e1 e2 e3
      refine wp_loop_rounds 5 ?_
      rw [rounds_succ]
      go_wp2_with fail
      refine (bldByte _ _ _ _ _ hB (by simp [Lib.byteCells]; omega) hW.size).mono ?_
      rintro e w1 ⟨rfl, hB1, hb1⟩
      replace hB1 : Lib.IsBuilder 72 5 w.heap.size w.heap.size (Lib.byteCells (d ++ [sgn k0])) w1 := by have hh := hB1; have hs := sgn_eq k0 l0; unfold signs at hs; rw [hs, byteCells_snoc] at hh; simpa using hh
      go_wp2_with fail
      rw [rounds_succ]
      go_wp2_with fail
      refine (bldByte _ _ _ _ _ hB1 (by simp [Lib.byteCells]; omega) (hW.trans hb1).size).mono ?_
      rintro e w2 ⟨rfl, hB2, hb2⟩
      replace hB2 : Lib.IsBuilder 72 5 w.heap.size w.heap.size (Lib.byteCells (d ++ [sgn k0, sgn k1])) w2 := by have hh := hB2; have hs := sgn_eq k1 l1; unfold signs at hs; rw [hs, byteCells_snoc] at hh; simpa using hh
      go_wp2_with fail
      rw [rounds_succ]
      go_wp2_with fail
      refine (bldByte _ _ _ _ _ hB2 (by simp [Lib.byteCells]; omega) ((hW.trans hb1).trans hb2).size).mono ?_
      rintro e w3 ⟨rfl, hB3, hb3⟩
      replace hB3 : Lib.IsBuilder 72 5 w.heap.size w.heap.size (Lib.byteCells (d ++ [sgn k0, sgn k1, sgn k2])) w3 := by have hh := hB3; have hs := sgn_eq k2 l2; unfold signs at hs; rw [hs, byteCells_snoc] at hh; simpa using hh
      go_wp2_with fail
      rw [rounds_succ]
      go_wp2_with fail
      refine (bldString _ _ _ _ _ hB3 (by simp [Lib.byteCells, ByteArray.size]; omega) (((hW.trans hb1).trans hb2).trans hb3).size).mono ?_
      rintro e w4 ⟨rfl, hB4, hb4⟩
      replace hB4 : Lib.IsBuilder 72 5 w.heap.size w.heap.size (Lib.byteCells (d ++ [sgn k0, sgn k1, sgn k2, 61])) w4 := by have hh := hB4; rw [byteCells_fill] at hh; simpa using hh
      go_wp2_with fail
      rw [rounds_succ]
      go_wp2_with fail
      go_roundw
      case rel =>
        have hb := ((hb1.trans hb2).trans hb3).trans hb4
        have hS := HS.out.drop 2 (by omega)
        refine ⟨_, _, _, [], d ++ [sgn k0, sgn k1, sgn k2, 61], rfl, hS.below hb ?_, ?_, ?_, hB4, hW.trans hb⟩
        · intro b' o' _ e; split at e <;> (simp at e; try omega)
        · intro b' o' _ e; split at e <;> (simp at e; try omega)
        · rw [← HD.out, HQ.out]; simp [b64]
      case measure => simp
    · have hlen' : 3 ≤ len' := by simp at hlen; omega
      obtain ⟨b, o, rfl, hcc⟩ : ∃ b o, a' = some ⟨b, o, none⟩ ∧ ∀ i, i < len' → wr.cell? ⟨b, o + i, none⟩ = some (.int .u8 (((x :: y :: z :: t).getD i 0).toNat : Int)) := by
        rcases hc with hc | hc
        · omega
        · exact hc
      have c0 := hcc 0 (by omega)
      have c1 := hcc 1 (by omega)
      have c2 := hcc 2 (by omega)
      simp only [Nat.add_zero, List.getD_cons_zero, List.getD_cons_succ] at c0 c1 c2
      have HS := Lib.hid (Sl.mk' hlen hlc hcm (fun h => by cases h) (.inr ⟨b, o, rfl, hcc⟩))
      have hbw : b < w.heap.size := hlow b o (by omega) rfl
      have hdl : d.length + 4 ≤ 3000000 := by
        have h1 := b64_len l
        rw [← hd] at h1
        simp [b64, quad] at h1
        omega
      have hm : min (len' : Int) 3 = 3 := by omega
      have hx := x.toNat_lt
      have hy := y.toNat_lt
      have hz := z.toNat_lt
      have HD := Lib.hid hd
      clear hlen hc hcc hlow hd hnil
      have e1 := or_first x.toNat hx
      obtain ⟨X1, hX1⟩ : ∃ X1 : Nat, X1 = x.toNat * 256 + y.toNat := ⟨_, rfl⟩
      obtain ⟨X2, hX2⟩ : ∃ X2 : Nat, X2 = X1 * 256 + z.toNat := ⟨_, rfl⟩
      have e2 := or_step x.toNat y.toNat (by omega) hy
      rw [← hX1] at e2
      have e3 := or_step X1 z.toNat (by omega) hz
      rw [← hX2] at e3
      obtain ⟨k0, h0⟩ : ∃ k : Nat, k = X2 / 262144 % 64 := ⟨_, rfl⟩
      obtain ⟨k1, h1⟩ : ∃ k : Nat, k = X2 / 4096 % 64 := ⟨_, rfl⟩
      obtain ⟨k2, h2⟩ : ∃ k : Nat, k = X2 / 64 % 64 := ⟨_, rfl⟩
      obtain ⟨k3, h3⟩ : ∃ k : Nat, k = X2 % 64 := ⟨_, rfl⟩
      have f0 := and63 (X2 / 262144) (by omega)
      rw [← h0] at f0
      have f1 := and63 (X2 / 4096) (by omega)
      rw [← h1] at f1
      have f2 := and63 (X2 / 64) (by omega)
      rw [← h2] at f2
      have f3 := and63 (X2) (by omega)
      rw [← h3] at f3
      have b1 : X1 < 65536 := by omega
      have b2 : X2 < 16777216 := by omega
      have l0 : k0 < 64 := by omega
      have l1 : k1 < 64 := by omega
      have l2 : k2 < 64 := by omega
      have l3 : k3 < 64 := by omega
      have hq : quad (x.toNat * 65536 + y.toNat * 256 + z.toNat) = [sgn k0, sgn k1, sgn k2, sgn k3] := by
        have : x.toNat * 65536 + y.toNat * 256 + z.toNat = X2 := by omega
        rw [this, quad, h0, h1, h2, h3]
      simp only [Int.natCast_ediv] at f0 f1 f2
      simp at f0 f1 f2 f3
      have HQ := Lib.hid hq
      clear hX1 hX2 h0 h1 h2 h3 hq
      go_wp2_with fail
      refine wp_loop_rounds 4 ?_
      rw [rounds_succ]
      go_wp2_with fail
      rw [rounds_succ]
      go_wp2_with fail
      rw [rounds_succ]
      go_wp2_with fail
      rw [rounds_succ]
      go_wp2_with fail
      clear e1 e2 e3
      refine wp_loop_rounds 5 ?_
      rw [rounds_succ]
      go_wp2_with fail
      refine (bldByte _ _ _ _ _ hB (by simp [Lib.byteCells]; omega) hW.size).mono ?_
      rintro e w1 ⟨rfl, hB1, hb1⟩
      replace hB1 : Lib.IsBuilder 72 5 w.heap.size w.heap.size (Lib.byteCells (d ++ [sgn k0])) w1 := by have hh := hB1; have hs := sgn_eq k0 l0; unfold signs at hs; rw [hs, byteCells_snoc] at hh; simpa using hh
      go_wp2_with fail
      rw [rounds_succ]
      go_wp2_with fail
      refine (bldByte _ _ _ _ _ hB1 (by simp [Lib.byteCells]; omega) (hW.trans hb1).size).mono ?_
      rintro e w2 ⟨rfl, hB2, hb2⟩
      replace hB2 : Lib.IsBuilder 72 5 w.heap.size w.heap.size (Lib.byteCells (d ++ [sgn k0, sgn k1])) w2 := by have hh := hB2; have hs := sgn_eq k1 l1; unfold signs at hs; rw [hs, byteCells_snoc] at hh; simpa using hh
      go_wp2_with fail
      rw [rounds_succ]
      go_wp2_with fail
      refine (bldByte _ _ _ _ _ hB2 (by simp [Lib.byteCells]; omega) ((hW.trans hb1).trans hb2).size).mono ?_
      rintro e w3 ⟨rfl, hB3, hb3⟩
      replace hB3 : Lib.IsBuilder 72 5 w.heap.size w.heap.size (Lib.byteCells (d ++ [sgn k0, sgn k1, sgn k2])) w3 := by have hh := hB3; have hs := sgn_eq k2 l2; unfold signs at hs; rw [hs, byteCells_snoc] at hh; simpa using hh
      go_wp2_with fail
      rw [rounds_succ]
      go_wp2_with fail
      refine (bldByte _ _ _ _ _ hB3 (by simp [Lib.byteCells]; omega) (((hW.trans hb1).trans hb2).trans hb3).size).mono ?_
      rintro e w4 ⟨rfl, hB4, hb4⟩
      replace hB4 : Lib.IsBuilder 72 5 w.heap.size w.heap.size (Lib.byteCells (d ++ [sgn k0, sgn k1, sgn k2, sgn k3])) w4 := by have hh := hB4; have hs := sgn_eq k3 l3; unfold signs at hs; rw [hs, byteCells_snoc] at hh; simpa using hh
      go_wp2_with fail
      rw [rounds_succ]
      go_wp2_with fail
      go_roundw
      case rel =>
        have hb := ((hb1.trans hb2).trans hb3).trans hb4
        have hS := HS.out.drop 3 (by omega)
        refine ⟨_, _, _, t, d ++ [sgn k0, sgn k1, sgn k2, sgn k3], rfl, hS.below hb ?_, ?_, ?_, hB4, hW.trans hb⟩
        · intro b' o' _ e; split at e <;> (simp at e; try omega)
        · intro b' o' _ e; split at e <;> (simp at e; try omega)
        · rw [← HD.out]; simp [b64, HQ.out]
      case measure => simp; omega
end Go.Proofs.YtigopfeamjhdpaaDoor
namespace Go.Proofs.YtigopfeamjhdpaaDoor
open Go.RowKit

def bitL (l : List UInt8) (i : Nat) : Nat := (l.getD (i / 8) 0).toNat / 2 ^ (7 - i % 8) % 2
def grpK (l : List UInt8) (i : Nat) : Nat → Nat
  | 0 => 0
  | k + 1 => 2 * grpK l i k + bitL l (i + k)
def grp (l : List UInt8) (i : Nat) : Nat := grpK l i 6
theorem bitL_lt (l : List UInt8) (i : Nat) : bitL l i < 2 := Nat.mod_lt _ (by omega)
theorem grpK_lt (l : List UInt8) (i k : Nat) : grpK l i k < 2 ^ k := by
  induction k with
  | zero => simp [grpK]
  | succ k ih => have := bitL_lt l (i + k); simp only [grpK, Nat.pow_succ]; omega
theorem grp_lt (l : List UInt8) (i : Nat) : grp l i < 64 := grpK_lt l i 6

def sgnsTo (l : List UInt8) (j : Nat) : List UInt8 := (List.range j).map fun t => sgn (grp l (6 * t))
def padTo (x : List UInt8) : List UInt8 := x ++ List.replicate ((4 - x.length % 4) % 4) 61
def refB64 (l : List UInt8) : List UInt8 := padTo (sgnsTo l ((8 * l.length + 5) / 6))

theorem sgnsTo_succ (l : List UInt8) (j : Nat) : sgnsTo l (j + 1) = sgnsTo l j ++ [sgn (grp l (6 * j))] := by simp [sgnsTo, List.range_succ]
theorem sgnsTo_len (l : List UInt8) (j : Nat) : (sgnsTo l j).length = j := by simp [sgnsTo]

theorem bitL_three (a b c : UInt8) (t : List UInt8) (i : Nat) : bitL (a :: b :: c :: t) (24 + i) = bitL t i := by
  unfold bitL
  rw [show (24 + i) / 8 = i / 8 + 3 by omega, show (24 + i) % 8 = i % 8 by omega]
  rfl
theorem grp_three (a b c : UInt8) (t : List UInt8) (i : Nat) : grp (a :: b :: c :: t) (24 + i) = grp t i := by
  simp only [grp, grpK, Nat.add_assoc, bitL_three]

theorem bits8 (x : Nat) (h : x < 256) : x = 128 * (x / 128 % 2) + 64 * (x / 64 % 2) + 32 * (x / 32 % 2) + 16 * (x / 16 % 2) + 8 * (x / 8 % 2) + 4 * (x / 4 % 2) + 2 * (x / 2 % 2) + x % 2 := by omega

theorem grp_0 (a : UInt8) (l : List UInt8) : grp (a :: l) 0 = a.toNat / 4 := by
  have := a.toNat_lt
  have := bits8 a.toNat (by omega)
  simp [grp, grpK, bitL]; omega
theorem grp_6 (a b : UInt8) (l : List UInt8) : grp (a :: b :: l) 6 = a.toNat % 4 * 16 + b.toNat / 16 := by
  have := a.toNat_lt
  have := b.toNat_lt
  simp [grp, grpK, bitL]; omega
theorem grp_6' (a : UInt8) : grp [a] 6 = a.toNat % 4 * 16 := by
  have := a.toNat_lt
  simp [grp, grpK, bitL]; omega
theorem grp_12 (a b c : UInt8) (l : List UInt8) : grp (a :: b :: c :: l) 12 = b.toNat % 16 * 4 + c.toNat / 64 := by
  have := b.toNat_lt
  have := c.toNat_lt
  simp [grp, grpK, bitL]; omega
theorem grp_12' (a b : UInt8) : grp [a, b] 12 = b.toNat % 16 * 4 := by
  have := b.toNat_lt
  simp [grp, grpK, bitL]; omega
theorem grp_18 (a b c : UInt8) (l : List UInt8) : grp (a :: b :: c :: l) 18 = c.toNat % 64 := by
  have := c.toNat_lt
  simp [grp, grpK, bitL]; omega

theorem sgnsTo_three (a b c : UInt8) (t : List UInt8) (n : Nat) : sgnsTo (a :: b :: c :: t) (n + 4) = quad (a.toNat * 65536 + b.toNat * 256 + c.toNat) ++ sgnsTo t n := by
  have ha := a.toNat_lt
  have hb := b.toNat_lt
  have hc := c.toNat_lt
  unfold sgnsTo
  rw [List.range_succ_eq_map, List.range_succ_eq_map, List.range_succ_eq_map, List.range_succ_eq_map]
  simp only [List.map_cons, List.map_map]
  rw [show 6 * 0 = 0 from rfl, show 6 * Nat.succ 0 = 6 from rfl, show 6 * Nat.succ (Nat.succ 0) = 12 from rfl, show 6 * Nat.succ (Nat.succ (Nat.succ 0)) = 18 from rfl,
    grp_0, grp_6, grp_12, grp_18]
  unfold quad
  rw [show a.toNat / 4 = (a.toNat * 65536 + b.toNat * 256 + c.toNat) / 262144 % 64 by omega,
    show a.toNat % 4 * 16 + b.toNat / 16 = (a.toNat * 65536 + b.toNat * 256 + c.toNat) / 4096 % 64 by omega,
    show b.toNat % 16 * 4 + c.toNat / 64 = (a.toNat * 65536 + b.toNat * 256 + c.toNat) / 64 % 64 by omega,
    show c.toNat % 64 = (a.toNat * 65536 + b.toNat * 256 + c.toNat) % 64 by omega]
  simp only [List.cons_append, List.nil_append, List.cons.injEq, true_and]
  apply List.map_congr_left
  intro i _
  simp only [Function.comp]
  rw [show 6 * Nat.succ (Nat.succ (Nat.succ (Nat.succ i))) = 24 + 6 * i by omega, grp_three]

theorem refB64_eq (l : List UInt8) : refB64 l = b64 l := by
  induction l using b64.induct with
  | case1 => rfl
  | case2 a =>
    have ha := a.toNat_lt
    have h0 := grp_0 a []
    have h6 := grp_6' a
    simp only [refB64, sgnsTo, List.length_singleton, show (8 * 1 + 5) / 6 = 2 from rfl, show List.range 2 = [0, 1] from rfl, List.map_cons, List.map_nil, Nat.mul_zero, Nat.mul_one, h0, h6, b64, padTo]
    rw [show a.toNat / 4 = a.toNat * 65536 / 262144 % 64 by omega, show a.toNat % 4 * 16 = a.toNat * 65536 / 4096 % 64 by omega]
    rfl
  | case3 a b =>
    have ha := a.toNat_lt
    have hb := b.toNat_lt
    have h0 := grp_0 a [b]
    have h6 := grp_6 a b []
    have h12 := grp_12' a b
    simp only [refB64, sgnsTo, List.length_cons, List.length_nil, show (8 * (0 + 1 + 1) + 5) / 6 = 3 from rfl, show List.range 3 = [0, 1, 2] from rfl, List.map_cons, List.map_nil, Nat.mul_zero, Nat.mul_one, show 6 * 2 = 12 from rfl, h0, h6, h12, b64, padTo]
    rw [show a.toNat / 4 = (a.toNat * 65536 + b.toNat * 256) / 262144 % 64 by omega, show a.toNat % 4 * 16 + b.toNat / 16 = (a.toNat * 65536 + b.toNat * 256) / 4096 % 64 by omega,
      show b.toNat % 16 * 4 = (a.toNat * 65536 + b.toNat * 256) / 64 % 64 by omega]
    rfl
  | case4 a b c t ih =>
    rw [b64, ← ih]
    unfold refB64
    rw [show (8 * (a :: b :: c :: t).length + 5) / 6 = (8 * t.length + 5) / 6 + 4 by simp; omega, sgnsTo_three]
    unfold padTo
    rw [List.append_assoc]
    congr 2
    simp only [List.length_append, show (quad (a.toNat * 65536 + b.toNat * 256 + c.toNat)).length = 4 from rfl]
    congr 1
    omega

/-- a sign's number -/
def sval (n : Nat) : Option Nat := if 65 ≤ n ∧ n ≤ 90 then some (n - 65) else if 97 ≤ n ∧ n ≤ 122 then some (n - 71) else if 48 ≤ n ∧ n ≤ 57 then some (n + 4) else if n = 43 then some 62 else if n = 47 then some 63 else none
theorem sval_lt : ∀ n : Fin 256, ∀ v, sval n.val = some v → v < 64 := by
  intro n v h
  have hn := n.isLt
  unfold sval at h
  repeat' split at h
  all_goals first | (cases h; done) | (injection h with h; omega)
theorem sval_sgn : ∀ k : Fin 64, sval (sgn k.val).toNat = some k.val := by decide
theorem sval_idx : ∀ n : Fin 256, Lib.indexByte signs.data.toList (n.val.toUInt8) = (match sval n.val with | some v => (v : Int) | none => -1) := by decide +kernel

/-- The bytes of four signs, up to the first that is none. -/
def dec4 (a b c d : UInt8) : List UInt8 :=
  match sval a.toNat, sval b.toNat with
  | some x, some y => match sval c.toNat with
    | some z => match sval d.toNat with
      | some u => [UInt8.ofNat ((x * 262144 + y * 4096 + z * 64 + u) / 65536), UInt8.ofNat ((x * 262144 + y * 4096 + z * 64 + u) / 256), UInt8.ofNat (x * 262144 + y * 4096 + z * 64 + u)]
      | none => [UInt8.ofNat ((x * 262144 + y * 4096 + z * 64) / 65536), UInt8.ofNat ((x * 262144 + y * 4096 + z * 64) / 256)]
    | none => [UInt8.ofNat ((x * 262144 + y * 4096) / 65536)]
  | _, _ => []
def unb : List UInt8 → List UInt8
  | a :: b :: c :: d :: t => dec4 a b c d ++ unb t
  | _ => []

theorem ofNat_mod (x : Nat) (a : UInt8) (h : x % 256 = a.toNat) : UInt8.ofNat x = a := by
  apply UInt8.toNat_inj.1
  simpa using h
theorem sv (k : Nat) (h : k < 64) : sval (sgn k).toNat = some k := sval_sgn ⟨k, h⟩

theorem unb_b64 (l : List UInt8) : unb (b64 l) = l := by
  induction l using b64.induct with
  | case1 => rfl
  | case2 a =>
    have ha := a.toNat_lt
    simp only [b64, unb, dec4, sv _ (Nat.mod_lt _ (show 0 < 64 by omega)), show sval (UInt8.toNat 61) = none from rfl, List.append_nil]
    rw [ofNat_mod _ a (by omega)]
  | case3 a b =>
    have ha := a.toNat_lt
    have hb := b.toNat_lt
    simp only [b64, unb, dec4, sv _ (Nat.mod_lt _ (show 0 < 64 by omega)), show sval (UInt8.toNat 61) = none from rfl, List.append_nil]
    rw [ofNat_mod _ a (by omega), ofNat_mod _ b (by omega)]
  | case4 a b c t ih =>
    have ha := a.toNat_lt
    have hb := b.toNat_lt
    have hc := c.toNat_lt
    simp only [b64, quad, List.cons_append, List.nil_append, unb, dec4, sv _ (Nat.mod_lt _ (show 0 < 64 by omega)), ih]
    rw [ofNat_mod _ a (by omega), ofNat_mod _ b (by omega), ofNat_mod _ c (by omega)]

/-- the bits of signs, up to the first that is none -/
def bitsOf : List UInt8 → List Nat
  | [] => []
  | c :: t => match sval c.toNat with
    | some n => [n / 32 % 2, n / 16 % 2, n / 8 % 2, n / 4 % 2, n / 2 % 2, n % 2] ++ bitsOf t
    | none => []
def pack : List Nat → List UInt8
  | a :: b :: c :: d :: e :: f :: g :: h :: t => UInt8.ofNat (128 * a + 64 * b + 32 * c + 16 * d + 8 * e + 4 * f + 2 * g + h) :: pack t
  | _ => []
theorem pk8 (x y : Nat) (a : UInt8) (h1 : x = a.toNat / 4) (h2 : y / 16 = a.toNat % 4) (hy : y < 64) :
    UInt8.ofNat (128 * (x / 32 % 2) + 64 * (x / 16 % 2) + 32 * (x / 8 % 2) + 16 * (x / 4 % 2) + 8 * (x / 2 % 2) + 4 * (x % 2) + 2 * (y / 32 % 2) + y / 16 % 2) = a := by
  have := a.toNat_lt
  apply ofNat_mod
  omega
theorem pk8b (y z : Nat) (b : UInt8) (h1 : y % 16 = b.toNat / 16) (h2 : z / 4 = b.toNat % 16) (hz : z < 64) :
    UInt8.ofNat (128 * (y / 8 % 2) + 64 * (y / 4 % 2) + 32 * (y / 2 % 2) + 16 * (y % 2) + 8 * (z / 32 % 2) + 4 * (z / 16 % 2) + 2 * (z / 8 % 2) + z / 4 % 2) = b := by
  have := b.toNat_lt
  apply ofNat_mod
  omega
theorem pk8c (z u : Nat) (c : UInt8) (h1 : z % 4 = c.toNat / 64) (h2 : u = c.toNat % 64) :
    UInt8.ofNat (128 * (z / 2 % 2) + 64 * (z % 2) + 32 * (u / 32 % 2) + 16 * (u / 16 % 2) + 8 * (u / 8 % 2) + 4 * (u / 4 % 2) + 2 * (u / 2 % 2) + u % 2) = c := by
  have := c.toNat_lt
  apply ofNat_mod
  omega
theorem pack_b64 (l : List UInt8) : pack (bitsOf (b64 l)) = l := by
  induction l using b64.induct with
  | case1 => rfl
  | case2 a =>
    have ha := a.toNat_lt
    simp only [b64, bitsOf, sv _ (Nat.mod_lt _ (show 0 < 64 by omega)), show sval (UInt8.toNat 61) = none from rfl, List.append_nil, List.cons_append, List.nil_append, pack]
    rw [pk8 _ _ a (by omega) (by omega) (by omega)]
  | case3 a b =>
    have ha := a.toNat_lt
    have hb := b.toNat_lt
    simp only [b64, bitsOf, sv _ (Nat.mod_lt _ (show 0 < 64 by omega)), show sval (UInt8.toNat 61) = none from rfl, List.append_nil, List.cons_append, List.nil_append, pack]
    rw [pk8 _ _ a (by omega) (by omega) (by omega), pk8b _ _ b (by omega) (by omega) (by omega)]
  | case4 a b c t ih =>
    have ha := a.toNat_lt
    have hb := b.toNat_lt
    have hc := c.toNat_lt
    simp only [b64, quad, List.cons_append, List.nil_append, bitsOf, sv _ (Nat.mod_lt _ (show 0 < 64 by omega)), pack, ih]
    rw [pk8 _ _ a (by omega) (by omega) (by omega), pk8b _ _ b (by omega) (by omega) (by omega), pk8c _ _ c (by omega) (by omega)]

/-- what Base64 that stands as it is written says -/
def unb64 (s : List UInt8) : Option (List UInt8) := if b64 (unb s) = s then some (unb s) else none
theorem unb64_both (s : List UInt8) : unb64 s = if b64 (pack (bitsOf s)) = s then some (pack (bitsOf s)) else none := by
  unfold unb64
  by_cases h : b64 (unb s) = s
  · have h2 : pack (bitsOf s) = unb s := by
      have := pack_b64 (unb s)
      rwa [h] at this
    rw [h2]
  · by_cases h2 : b64 (pack (bitsOf s)) = s
    · have h3 : unb s = pack (bitsOf s) := by
        have := unb_b64 (pack (bitsOf s))
        rwa [h2] at this
      rw [h3] at h
      exact absurd h2 h
    · rw [if_neg h, if_neg h2]
end Go.Proofs.YtigopfeamjhdpaaDoor

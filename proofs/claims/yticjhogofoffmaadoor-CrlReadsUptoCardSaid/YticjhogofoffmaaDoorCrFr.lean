/- Arguments that are lists of canceled sums, or slices of bytes: opened to their cells. -/
import Derived.Test.YticjhogofoffmaaDoorCrG5
namespace Go.Proofs.YticjhogofoffmaaDoor
open Go.RowKit Go.ChangeShapes Go.WideShapes Go.ChangeAt
set_option linter.unusedSimpArgs false
set_option linter.unusedVariables false

/-- a slice's three parts -/
structure S3 where
  a : Option Addr
  n : Nat
  c : Nat
instance : Inhabited S3 := ⟨⟨none, 0, 0⟩⟩
def S3.val (x : S3) : Value := .slice x.a x.n x.c
/-- a row of slices of bytes reads as the lists -/
def RowS (w : World) (a : Option Addr) (n c : Nat) (Z : Nat → S3) (ls : List (List UInt8)) : Prop :=
  n ≤ c ∧ c ≤ maxLen ∧ (a = none → c = 0) ∧ n = ls.length ∧ (n = 0 ∨ ∃ b o, a = some ⟨b, o, none⟩ ∧ ∀ i, i < n → w.cell? ⟨b, o + i, none⟩ = some (Z i).val) ∧ ∀ i (h : i < ls.length), Sl w (Z i).a (Z i).n (Z i).c ls[i]
theorem RowS.lt {w : World} {a : Option Addr} {n c : Nat} {Z : Nat → S3} {ls : List (List UInt8)} (h : RowS w a n c Z ls) : n = 0 ∨ ∀ b o s, a = some ⟨b, o, s⟩ → b < w.heap.size := by
  by_cases h0 : n = 0
  · exact .inl h0
  · rcases h.2.2.2.2.1 with h4 | ⟨b, o, rfl, h4⟩
    · exact absurd h4 h0
    · refine .inr fun b' o' s e => ?_
      cases e
      exact cell_lt (h4 0 (by omega))
theorem RowS.after {w w' : World} {a : Option Addr} {n c : Nat} {Z : Nat → S3} {ls : List (List UInt8)} (h : RowS w a n c Z ls) (hb : Below w.heap.size w w') : RowS w' a n c Z ls := by
  have hlt := h.lt
  obtain ⟨h1, h2, h3, h4, h5, h6⟩ := h
  refine ⟨h1, h2, h3, h4, ?_, fun i hi => (h6 i hi).after hb⟩
  rcases h5 with h5 | ⟨b, o, rfl, h5⟩
  · exact .inl h5
  · rcases hlt with h0 | h0
    · exact .inl h0
    · exact .inr ⟨b, o, rfl, fun i hi => (World.cell?_of_block (a := ⟨b, o + i, none⟩) (hb.block b (h0 b o none rfl))).trans (h5 i hi)⟩

theorem cells_crl : Tryd.prog.cellsOf 24 = 2 ∧ Tryd.prog.cellsOf 25 = 1 ∧ Tryd.prog.cellsOf 27 = 4 ∧ Tryd.prog.cellsOf 2 = 1 ∧ Tryd.prog.cellsOf 29 = 7 := ⟨by kernel_rfl, by kernel_rfl, by kernel_rfl, by kernel_rfl, by kernel_rfl⟩

section
variable {H : Type} {enc : TypeId × Value → H} {W : World} {held : Bool}

theorem open_key {fuel : Nat} {c1 c2 : Value} {x : DataW H × List MemPlace} (h : DataW.trod enc Tryd.prog W 0 (fun _ => true) held fuel 24 [c1, c2] = some x) :
    ∃ (s : Bool) (a : Option Addr) (n k : Nat) (l : List UInt8), c1 = .bool s ∧ c2 = .slice a n k ∧ Sl W a n k l := by
  obtain ⟨k1, k2, k3, k4, k5⟩ := cells_sx
  obtain ⟨xs, m, _, _, _, hl, hg⟩ := DataW.trod_struct Tryd.underlying24 h
  match xs, hl with
  | [y0, y1], _ =>
    have h0 : DataW.trod enc Tryd.prog W 0 (fun _ => true) held m 4 (([c1, c2].drop 0).take (Tryd.prog.cellsOf 4)) = some y0 := hg 0 _ rfl
    have h1 : DataW.trod enc Tryd.prog W 0 (fun _ => true) held m 22 (([c1, c2].drop 1).take (Tryd.prog.cellsOf 22)) = some y1 := hg 1 _ rfl
    rw [k1] at h0
    rw [k2] at h1
    obtain ⟨s, e0, _⟩ := DataW.trod_bool Tryd.underlying4 h0
    obtain ⟨a, n, k, l, rfl, hs⟩ := open_slU h1
    exact ⟨s, a, n, k, l, by simpa using e0, rfl, hs⟩

theorem open_window {fuel : Nat} {c1 c2 c3 c4 : Value} {x : DataW H × List MemPlace} (h : DataW.trod enc Tryd.prog W 0 (fun _ => true) held fuel 27 [c1, c2, c3, c4] = some x) :
    ∃ (p q : Bool) (f t : Int), c1 = .bool p ∧ c2 = .int .i64 f ∧ c3 = .bool q ∧ c4 = .int .i64 t ∧ (Lit.int .i64 f).wf = true ∧ (Lit.int .i64 t).wf = true := by
  obtain ⟨k1, k2, k3, k4, k5⟩ := cells_crl
  obtain ⟨m1, _⟩ := cells_sx
  obtain ⟨xs, m, _, _, _, hl, hg⟩ := DataW.trod_struct Tryd.underlying27 h
  match xs, hl with
  | [y0, y1, y2, y3], _ =>
    have h0 : DataW.trod enc Tryd.prog W 0 (fun _ => true) held m 4 (([c1, c2, c3, c4].drop 0).take (Tryd.prog.cellsOf 4)) = some y0 := hg 0 _ rfl
    have h1 : DataW.trod enc Tryd.prog W 0 (fun _ => true) held m 2 (([c1, c2, c3, c4].drop 1).take (Tryd.prog.cellsOf 2)) = some y1 := hg 1 _ rfl
    have h2 : DataW.trod enc Tryd.prog W 0 (fun _ => true) held m 4 (([c1, c2, c3, c4].drop 2).take (Tryd.prog.cellsOf 4)) = some y2 := hg 2 _ rfl
    have h3 : DataW.trod enc Tryd.prog W 0 (fun _ => true) held m 2 (([c1, c2, c3, c4].drop 3).take (Tryd.prog.cellsOf 2)) = some y3 := hg 3 _ rfl
    rw [m1] at h0 h2
    rw [k4] at h1 h3
    obtain ⟨p, e0, _⟩ := DataW.trod_bool Tryd.underlying4 h0
    obtain ⟨q, e2, _⟩ := DataW.trod_bool Tryd.underlying4 h2
    obtain ⟨f, e1, _, hf⟩ := DataW.trod_int Tryd.underlying2 h1
    obtain ⟨t, e3, _, ht⟩ := DataW.trod_int Tryd.underlying2 h3
    exact ⟨p, q, f, t, by simpa using e0, by simpa [Value.cells] using e1, by simpa using e2, by simpa [Value.cells] using e3, hf, ht⟩

theorem open_sums {fuel : Nat} {c : Value} {x : DataW H × List MemPlace} (h : DataW.trod enc Tryd.prog W 0 (fun _ => true) held fuel 25 [c] = some x) :
    ∃ (a : Option Addr) (n k : Nat) (Z : Nat → S3) (ls : List (List UInt8)), c = .slice a n k ∧ RowS W a n k Z ls := by
  obtain ⟨m1, m2, _⟩ := cells_sx
  rcases DataW.trod_slice Tryd.underlying25 h with ⟨e4, rfl⟩ | ⟨a, len, cap, elems, rest, m, hm, e4, rfl, _, hlc, hcm, hel, hat, _, _⟩
  · have e4' : c = .slice none 0 0 := by simpa using e4
    subst e4'
    exact ⟨none, 0, 0, fun _ => ⟨none, 0, 0⟩, [], rfl, Nat.le_refl _, Nat.zero_le _, fun _ => rfl, rfl, .inl rfl, fun i hi => by cases hi⟩
  · have e4' : c = .slice (some a) len cap := by simpa using e4
    subst e4'
    have key : ∀ i, i < len → ∃ p : S3 × List UInt8, W.cells? 0 (a.add (i * 1)) 1 = some [p.1.val] ∧ Sl W p.1.a p.1.n p.1.c p.2 := fun i hi => by
      have hi' : i < elems.length := by omega
      have h5 := hat i hi
      rw [m2, List.getElem?_eq_getElem hi'] at h5
      obtain ⟨cs', hc1, hc2⟩ := Option.bind_eq_some_iff.1 h5
      have hlen : cs'.length = 1 := by
        unfold World.cells? at hc1
        rw [if_pos (Nat.zero_le _)] at hc1
        have := mapM_some_length hc1
        simpa using this
      match cs', hlen with
      | [c0], _ =>
        obtain ⟨a0, n0, k0, l0, rfl, hs⟩ := open_slU hc2
        exact ⟨(⟨a0, n0, k0⟩, l0), hc1, hs⟩
    haveI : Inhabited (S3 × List UInt8) := ⟨(⟨none, 0, 0⟩, [])⟩
    obtain ⟨f, hf'⟩ := Go.Deep.choose_lt key
    obtain ⟨b, o, spot⟩ := a
    have hcell : ∀ i, i < len → W.cell? ((⟨b, o, spot⟩ : Addr).add (i * 1)) = some (f i).1.val := fun i hi => by
      have h6 := (hf' i hi).1
      unfold World.cells? at h6
      rw [if_pos (Nat.zero_le _)] at h6
      have h7 := mapM_some_get h6 0 0 (by simp)
      simpa [Addr.add] using h7
    have hsp : len = 0 ∨ spot = none := by
      by_cases h0' : len = 0
      · exact .inl h0'
      · right
        have := World.cell?_spot (hcell 0 (by omega))
        simpa [Addr.add] using this
    refine ⟨some ⟨b, o, spot⟩, len, cap, fun i => (f i).1, (List.range len).map fun i => (f i).2, rfl, hlc, hcm, (fun h => by cases h), by simp, ?_, fun i hi => ?_⟩
    · rcases hsp with h0' | rfl
      · exact .inl h0'
      · refine .inr ⟨b, o, rfl, fun i hi => ?_⟩
        have := hcell i hi
        rw [Addr.add_mid] at this
        simpa using this
    · have hi' : i < len := by simpa using hi
      have := (hf' i hi').2
      simpa using this

set_option maxRecDepth 100000 in
theorem open_crl {r : Reach} {b0 : Nat} {v : Value} {d : DataW H} {p : List MemPlace} (hv : Value.okWide Tryd.prog W r b0 29 v) (h : DataW.Trod enc Tryd.prog W 0 (fun _ => true) held 29 v d p) :
    ∃ (s : Bool) (ka : Option Addr) (kn kc : Nat) (kl : List UInt8) (sa : Option Addr) (sn sc : Nat) (Z : Nat → S3) (ls : List (List UInt8)) (pf pt : Bool) (f t : Int),
      v = .agg #[.bool s, .slice ka kn kc, .slice sa sn sc, .bool pf, .int .i64 f, .bool pt, .int .i64 t] ∧ Sl W ka kn kc kl ∧ RowS W sa sn sc Z ls ∧ (Lit.int .i64 f).wf = true ∧ (Lit.int .i64 t).wf = true := by
  obtain ⟨k1, k2, k3, k4, k5⟩ := cells_crl
  obtain ⟨cs, rfl, hsz⟩ := okWide_struct Tryd.underlying29 hv
  obtain ⟨fuel, hf⟩ := h
  obtain ⟨l⟩ := cs
  match l, hsz.trans k5 with
  | [c0, c1, c2, c3, c4, c5, c6], _ =>
    obtain ⟨xs, m, _, _, _, hl, hg⟩ := DataW.trod_struct Tryd.underlying29 hf
    match xs, hl with
    | [y0, y1, y2], _ =>
      have h0 : DataW.trod enc Tryd.prog W 0 (fun _ => true) held m 24 (([c0, c1, c2, c3, c4, c5, c6].drop 0).take (Tryd.prog.cellsOf 24)) = some y0 := hg 0 _ rfl
      have h1 : DataW.trod enc Tryd.prog W 0 (fun _ => true) held m 25 (([c0, c1, c2, c3, c4, c5, c6].drop 2).take (Tryd.prog.cellsOf 25)) = some y1 := hg 1 _ rfl
      have h2 : DataW.trod enc Tryd.prog W 0 (fun _ => true) held m 27 (([c0, c1, c2, c3, c4, c5, c6].drop 3).take (Tryd.prog.cellsOf 27)) = some y2 := hg 2 _ rfl
      rw [k1] at h0
      rw [k2] at h1
      rw [k3] at h2
      obtain ⟨s, ka, kn, kc, kl, rfl, rfl, hk⟩ := open_key h0
      obtain ⟨sa, sn, sc, Z, ls, rfl, hrow⟩ := open_sums h1
      obtain ⟨pf, pt, f, t, rfl, rfl, rfl, rfl, hwf, hwt⟩ := open_window h2
      exact ⟨s, ka, kn, kc, kl, sa, sn, sc, Z, ls, pf, pt, f, t, rfl, hk, hrow, hwf, hwt⟩
end
end Go.Proofs.YticjhogofoffmaaDoor

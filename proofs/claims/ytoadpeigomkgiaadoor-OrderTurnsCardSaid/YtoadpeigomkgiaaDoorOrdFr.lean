/- An argument that is a range: opened to its cells. -/
import Derived.Test.YtoadpeigomkgiaaDoorSl
import Derived.ChangeSlices
import Derived.WideShapes
namespace Go.Proofs.YtoadpeigomkgiaaDoor
open Go.RowKit Go.ChangeShapes Go.WideShapes Go.ChangeAt

theorem cells_one : Tryd.prog.cellsOf 4 = 1 ∧ Tryd.prog.cellsOf 5 = 1 ∧ Tryd.prog.cellsOf 22 = 1 ∧ Tryd.prog.cellsOf 29 = 3 ∧ Tryd.prog.cellsOf 31 = 7 := ⟨by kernel_rfl, by kernel_rfl, by kernel_rfl, by kernel_rfl, by kernel_rfl⟩

section
variable {H : Type} {enc : TypeId × Value → H} {W : World} {held : Bool}

theorem open_sl {fuel : Nat} {c : Value} {x : DataW H × List MemPlace} (h : DataW.trod enc Tryd.prog W 0 (fun _ => true) held fuel 22 [c] = some x) :
    ∃ (a : Option Addr) (n k : Nat) (z : List Int), c = .slice a n k ∧ IsRow .u8 W a n k z := by
  rcases open_ints Tryd.underlying22 Tryd.underlying5 cells_one.2.1 h with ⟨hcs, _⟩ | ⟨x, l, k, zs, hcs, _, hl, hm, hz, _, hcell, hwz⟩
  · simp at hcs
    exact ⟨none, 0, 0, [], hcs, .inl ⟨rfl, rfl, rfl, rfl⟩⟩
  · simp at hcs
    exact ⟨_, l, k, zs, hcs, .inr ⟨_, rfl, hl, hm, by simpa using hz, hcell, hwz⟩⟩

theorem open_bd {fuel : Nat} {c1 c2 c3 : Value} {x : DataW H × List MemPlace} (h : DataW.trod enc Tryd.prog W 0 (fun _ => true) held fuel 29 [c1, c2, c3] = some x) :
    ∃ (i o : Bool) (a : Option Addr) (n k : Nat) (z : List Int), c1 = .bool i ∧ c2 = .bool o ∧ c3 = .slice a n k ∧ IsRow .u8 W a n k z := by
  obtain ⟨k1, k2, k3, k4, k5⟩ := cells_one
  obtain ⟨xs, m, _, _, _, hl, hg⟩ := DataW.trod_struct Tryd.underlying29 h
  match xs, hl with
  | [y0, y1, y2], _ =>
    have h0 : DataW.trod enc Tryd.prog W 0 (fun _ => true) held m 4 (([c1, c2, c3].drop 0).take (Tryd.prog.cellsOf 4)) = some y0 := hg 0 _ rfl
    have h1 : DataW.trod enc Tryd.prog W 0 (fun _ => true) held m 4 (([c1, c2, c3].drop 1).take (Tryd.prog.cellsOf 4)) = some y1 := hg 1 _ rfl
    have h2 : DataW.trod enc Tryd.prog W 0 (fun _ => true) held m 22 (([c1, c2, c3].drop 2).take (Tryd.prog.cellsOf 22)) = some y2 := hg 2 _ rfl
    rw [k1] at h0 h1
    rw [k3] at h2
    obtain ⟨i, e0, _⟩ := DataW.trod_bool Tryd.underlying4 h0
    obtain ⟨o, e1, _⟩ := DataW.trod_bool Tryd.underlying4 h1
    obtain ⟨a, n, k, z, e2, hr⟩ := open_sl h2
    exact ⟨i, o, a, n, k, z, by simpa using e0, by simpa using e1, e2, hr⟩

set_option maxRecDepth 100000 in
theorem open_rg {r : Reach} {b0 : Nat} {v : Value} {d : DataW H} {p : List MemPlace} (hv : Value.okWide Tryd.prog W r b0 31 v) (h : DataW.Trod enc Tryd.prog W 0 (fun _ => true) held 31 v d p) :
    ∃ (o : Nat) (li lo : Bool) (la : Option Addr) (ln lc : Nat) (ll : List UInt8) (hi ho : Bool) (ha : Option Addr) (hn hc : Nat) (hl : List UInt8),
      v = .agg #[.int .u8 o, .bool li, .bool lo, .slice la ln lc, .bool hi, .bool ho, .slice ha hn hc] ∧ Sl W la ln lc ll ∧ Sl W ha hn hc hl := by
  obtain ⟨k1, k2, k3, k4, k5⟩ := cells_one
  obtain ⟨cs, rfl, hsz⟩ := okWide_struct Tryd.underlying31 hv
  obtain ⟨fuel, hf⟩ := h
  obtain ⟨l⟩ := cs
  match l, hsz.trans k5 with
  | [c0, c1, c2, c3, c4, c5, c6], _ =>
    obtain ⟨xs, m, _, _, _, hl, hg⟩ := DataW.trod_struct Tryd.underlying31 hf
    match xs, hl with
    | [y0, y1, y2], _ =>
      have h0 : DataW.trod enc Tryd.prog W 0 (fun _ => true) held m 5 (([c0, c1, c2, c3, c4, c5, c6].drop 0).take (Tryd.prog.cellsOf 5)) = some y0 := hg 0 _ rfl
      have h1 : DataW.trod enc Tryd.prog W 0 (fun _ => true) held m 29 (([c0, c1, c2, c3, c4, c5, c6].drop 1).take (Tryd.prog.cellsOf 29)) = some y1 := hg 1 _ rfl
      have h2 : DataW.trod enc Tryd.prog W 0 (fun _ => true) held m 29 (([c0, c1, c2, c3, c4, c5, c6].drop 4).take (Tryd.prog.cellsOf 29)) = some y2 := hg 2 _ rfl
      rw [k2] at h0
      rw [k4] at h1 h2
      obtain ⟨z, e0, _, hz⟩ := DataW.trod_int Tryd.underlying5 h0
      obtain ⟨li, lo, la, ln, lc, zl, rfl, rfl, rfl, hl⟩ := open_bd h1
      obtain ⟨hi, ho, ha, hn, hc, zh, rfl, rfl, rfl, hh⟩ := open_bd h2
      obtain ⟨ll, sl⟩ := hl.sl
      obtain ⟨hl', sh⟩ := hh.sl
      have e0' : c0 = .int .u8 z := by simpa [Value.cells] using e0
      have hz' : 0 ≤ z := by simp [Lit.wf, IntKind.min, IntKind.max, IntKind.bits, IntKind.signed] at hz; omega
      obtain ⟨o, rfl⟩ : ∃ o : Nat, z = o := ⟨z.toNat, by omega⟩
      subst e0'
      exact ⟨o, li, lo, la, ln, lc, ll, hi, ho, ha, hn, hc, hl', rfl, sl, sh⟩
end
end Go.Proofs.YtoadpeigomkgiaaDoor

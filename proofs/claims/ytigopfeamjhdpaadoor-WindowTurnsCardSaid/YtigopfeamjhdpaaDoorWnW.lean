/- Windows that came in, opened; WindowMeets. -/
import Derived.Test.YtigopfeamjhdpaaDoorWn2
namespace Go.Proofs.YtigopfeamjhdpaaDoor
open Go.RowKit Go.ChangeShapes Go.WideShapes Go.ChangeAt
set_option linter.unusedSimpArgs false
set_option linter.unusedVariables false

set_option maxRecDepth 100000 in
theorem cells_win : Tryd.prog.cellsOf 4 = 1 ∧ Tryd.prog.cellsOf 2 = 1 ∧ Tryd.prog.cellsOf 23 = 4 := ⟨by kernel_rfl, by kernel_rfl, by kernel_rfl⟩
section
variable {H : Type} {enc : TypeId × Value → H} {W : World} {held : Bool}
set_option maxRecDepth 100000 in
theorem open_win {r : Reach} {b0 : Nat} {v : Value} {d : DataW H} {p : List MemPlace} (hv : Value.okWide Tryd.prog W r b0 23 v) (h : DataW.Trod enc Tryd.prog W 0 (fun _ => true) held 23 v d p) :
    ∃ (p : Bool) (f : Int) (q : Bool) (t : Int), v = .agg #[.bool p, .int .i64 f, .bool q, .int .i64 t] ∧ (Lit.int .i64 f).wf = true ∧ (Lit.int .i64 t).wf = true := by
  obtain ⟨m1, k4, k5⟩ := cells_win
  obtain ⟨cs, rfl, hsz⟩ := okWide_struct Tryd.underlying23 hv
  obtain ⟨fuel, hf⟩ := h
  obtain ⟨l⟩ := cs
  match l, hsz.trans k5 with
  | [c1, c2, c3, c4], _ =>
    obtain ⟨xs, m, _, _, _, hl, hg⟩ := DataW.trod_struct Tryd.underlying23 hf
    match xs, hl with
    | [y0, y1, y2, y3], _ =>
      have h0 : DataW.trod enc Tryd.prog W 0 (fun _ => true) held m 4 (([c1, c2, c3, c4].drop 0).take (Tryd.prog.cellsOf 4)) = some y0 := hg 0 _ rfl
      have h1 : DataW.trod enc Tryd.prog W 0 (fun _ => true) held m 2 (([c1, c2, c3, c4].drop 1).take (Tryd.prog.cellsOf 2)) = some y1 := hg 1 _ rfl
      have h2 : DataW.trod enc Tryd.prog W 0 (fun _ => true) held m 4 (([c1, c2, c3, c4].drop 2).take (Tryd.prog.cellsOf 4)) = some y2 := hg 2 _ rfl
      have h3 : DataW.trod enc Tryd.prog W 0 (fun _ => true) held m 2 (([c1, c2, c3, c4].drop 3).take (Tryd.prog.cellsOf 2)) = some y3 := hg 3 _ rfl
      rw [m1] at h0 h2
      rw [k4] at h1 h3
      obtain ⟨p, e0, _⟩ := DataW.trod_bool Tryd.underlying4 h0
      obtain ⟨q, e2, _⟩ := DataW.trod_bool Tryd.underlying4 h2
      obtain ⟨f, e1, _, hf_⟩ := DataW.trod_int Tryd.underlying2 h1
      obtain ⟨t, e3, _, ht⟩ := DataW.trod_int Tryd.underlying2 h3
      obtain rfl : c1 = .bool p := by simpa using e0
      obtain rfl : c2 = .int .i64 f := by simpa [Value.cells] using e1
      obtain rfl : c3 = .bool q := by simpa using e2
      obtain rfl : c4 = .int .i64 t := by simpa [Value.cells] using e3
      exact ⟨p, f, q, t, rfl, hf_, ht⟩
end

def W4.inn (x : W4) (t : Int) : Bool := winIn x.p x.f x.q x.t t
theorem meet_inn (a b : W4) (t : Int) : (a.meet b).inn t = (a.inn t && b.inn t) := by
  obtain ⟨p, f, q, u⟩ := a
  obtain ⟨p2, f2, q2, u2⟩ := b
  unfold W4.inn W4.meet winIn
  rw [Bool.eq_iff_iff]
  cases p <;> cases p2 <;> cases q <;> cases q2 <;> simp <;> omega
theorem empty_inn (a : W4) (t : Int) (h : a.empty = true) : a.inn t = false := by
  obtain ⟨p, f, q, u⟩ := a
  unfold W4.empty at h
  simp at h
  obtain ⟨rfl, rfl, h⟩ := h
  unfold W4.inn winIn
  simp
  omega

end Go.Proofs.YtigopfeamjhdpaaDoor

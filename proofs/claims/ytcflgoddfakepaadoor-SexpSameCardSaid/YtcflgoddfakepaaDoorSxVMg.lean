/- Clones that are written: plain. -/
import Derived.Test.YtcflgoddfakepaaDoorSxUMg
namespace Go.Proofs.YtcflgoddfakepaaDoor
open Go.RowKit
set_option linter.unusedSimpArgs false
set_option linter.unusedVariables false

theorem cell_set_same {w : World} {p : Addr} {u v : Value} (h : w.cell? p = some u) : (w.setCell p v).cell? p = some v := World.cell?_setCell_same' w p v (by rw [h]; rfl)
theorem cell_set_other {w : World} {p q : Addr} {v : Value} (h : p ≠ q) : (w.setCell p v).cell? q = w.cell? q := by
  first | exact World.cell?_setCell_other w p q v h | exact World.cell?_setCell_other w p v q h | exact World.cell?_setCell_other _ _ _ _ h
/-- bytes that may be written, in blocks of a range -/
def TB (w : World) (B E : Nat) (a : Option Addr) (n : Nat) : Prop := n = 0 ∨ ∃ b o, a = some ⟨b, o, none⟩ ∧ B ≤ b ∧ b < E ∧ ∀ j, j < n → (∃ z : Int, w.cell? ⟨b, o + j, none⟩ = some (.int .u8 z)) ∧ w.frozen? ⟨b, o + j, none⟩ = false
/-- a clone that may be written: its bytes, its kids' marks and bytes -/
structure CW (w : World) (B E : Nat) (v : SV) (K : Nat → SV) : Prop where
  hint : TB w B E v.a1 v.n1
  data : TB w B E v.a2 v.n2
  row : v.n3 = 0 ∨ ∃ b o, v.a3 = some ⟨b, o, none⟩ ∧ B ≤ b ∧ b < E ∧ ∀ i, i < v.n3 → (∃ x : Bool, w.cell? ⟨b, o + i * 5 + 1, none⟩ = some (.bool x)) ∧ w.frozen? ⟨b, o + i * 5 + 1, none⟩ = false ∧ w.cell? ⟨b, o + i * 5 + 3, none⟩ = some (.slice (K i).a2 (K i).n2 (K i).c2)
  kids : ∀ i, i < v.n3 → TB w B E (K i).a2 (K i).n2

section
variable {w w' : World} {B E : Nat} {v : SV} {K : Nat → SV}
theorem TB.keep {a : Option Addr} {n : Nat} (h : TB w B E a n) (hk : ∀ k, k < E → w'.heap[k]? = w.heap[k]?) : TB w' B E a n := by
  rcases h with h | ⟨b, o, e, h1, h2, h3⟩
  · exact .inl h
  · refine .inr ⟨b, o, e, h1, h2, fun j hj => ?_⟩
    rw [World.cell?_of_block (a := ⟨b, o + j, none⟩) (hk b h2), World.frozen?_of_block (a := ⟨b, o + j, none⟩) (hk b h2)]
    exact h3 j hj
theorem CW.keep (h : CW w B E v K) (hk : ∀ k, k < E → w'.heap[k]? = w.heap[k]?) : CW w' B E v K := by
  refine ⟨h.hint.keep hk, h.data.keep hk, ?_, fun i hi => (h.kids i hi).keep hk⟩
  rcases h.row with h0 | ⟨b, o, e, h1, h2, h3⟩
  · exact .inl h0
  · refine .inr ⟨b, o, e, h1, h2, fun i hi => ?_⟩
    rw [World.cell?_of_block (a := ⟨b, o + i * 5 + 1, none⟩) (hk b h2), World.frozen?_of_block (a := ⟨b, o + i * 5 + 1, none⟩) (hk b h2), World.cell?_of_block (a := ⟨b, o + i * 5 + 3, none⟩) (hk b h2)]
    exact h3 i hi
theorem TB.byte {a : Option Addr} {n : Nat} (h : TB w B E a n) {p : Addr} {z : Int} (hp : w.cell? p = some (.int .u8 z)) (z' : Int) : TB (w.setCell p (.int .u8 z')) B E a n := by
  rcases h with h | ⟨b, o, e, h1, h2, h3⟩
  · exact .inl h
  · refine .inr ⟨b, o, e, h1, h2, fun j hj => ?_⟩
    obtain ⟨⟨x, hx⟩, hf⟩ := h3 j hj
    refine ⟨?_, (World.frozen?_setCell _ _ _ _).trans hf⟩
    by_cases hq : p = ⟨b, o + j, none⟩
    · subst hq
      exact ⟨z', cell_set_same hx⟩
    · exact ⟨x, (cell_set_other hq).trans hx⟩
theorem TB.bool {a : Option Addr} {n : Nat} (h : TB w B E a n) {p : Addr} {y : Bool} (hp : w.cell? p = some (.bool y)) (u : Value) : TB (w.setCell p u) B E a n := by
  rcases h with h | ⟨b, o, e, h1, h2, h3⟩
  · exact .inl h
  · refine .inr ⟨b, o, e, h1, h2, fun j hj => ?_⟩
    obtain ⟨⟨x, hx⟩, hf⟩ := h3 j hj
    have hq : p ≠ ⟨b, o + j, none⟩ := fun e => by rw [e, hx] at hp; cases hp
    exact ⟨⟨x, (cell_set_other hq).trans hx⟩, (World.frozen?_setCell _ _ _ _).trans hf⟩
/-- a byte is written -/
theorem CW.byte (h : CW w B E v K) {p : Addr} {z : Int} (hp : w.cell? p = some (.int .u8 z)) (z' : Int) : CW (w.setCell p (.int .u8 z')) B E v K := by
  refine ⟨h.hint.byte hp z', h.data.byte hp z', ?_, fun i hi => (h.kids i hi).byte hp z'⟩
  rcases h.row with h0 | ⟨b, o, e, h1, h2, h3⟩
  · exact .inl h0
  · refine .inr ⟨b, o, e, h1, h2, fun i hi => ?_⟩
    obtain ⟨⟨x, hx⟩, hf, hs⟩ := h3 i hi
    have q1 : p ≠ ⟨b, o + i * 5 + 1, none⟩ := fun e => by rw [e, hx] at hp; cases hp
    have q2 : p ≠ ⟨b, o + i * 5 + 3, none⟩ := fun e => by rw [e, hs] at hp; cases hp
    exact ⟨⟨x, (cell_set_other q1).trans hx⟩, (World.frozen?_setCell _ _ _ _).trans hf, (cell_set_other q2).trans hs⟩
/-- a mark is written -/
theorem CW.bool (h : CW w B E v K) {p : Addr} {y : Bool} (hp : w.cell? p = some (.bool y)) (y' : Bool) : CW (w.setCell p (.bool y')) B E v K := by
  refine ⟨h.hint.bool hp _, h.data.bool hp _, ?_, fun i hi => (h.kids i hi).bool hp _⟩
  rcases h.row with h0 | ⟨b, o, e, h1, h2, h3⟩
  · exact .inl h0
  · refine .inr ⟨b, o, e, h1, h2, fun i hi => ?_⟩
    obtain ⟨⟨x, hx⟩, hf, hs⟩ := h3 i hi
    have q2 : p ≠ ⟨b, o + i * 5 + 3, none⟩ := fun e => by rw [e, hs] at hp; cases hp
    refine ⟨?_, (World.frozen?_setCell _ _ _ _).trans hf, (cell_set_other q2).trans hs⟩
    by_cases hq : p = ⟨b, o + i * 5 + 1, none⟩
    · subst hq
      exact ⟨y', cell_set_same hx⟩
    · exact ⟨x, (cell_set_other hq).trans hx⟩
theorem TB.of {a : Option Addr} {n c : Nat} {l : List UInt8} (hs : Sl w a n c l) (hi : InB (fun k => B ≤ k) a n) (ht : There1 w a n) : TB w B w.heap.size a n := by
  rcases ht with h | ⟨b, o, rfl, h⟩
  · exact .inl h
  · by_cases h0 : n = 0
    · exact .inl h0
    · rcases hi with hi | hi
      · exact .inl hi
      · rcases hs.2.2.2.2 with h4 | ⟨b', o', e, h4⟩
        · exact .inl h4
        · cases e
          exact .inr ⟨b, o, rfl, hi b o none rfl, cell_lt (h4 0 (by omega)), fun j hj => ⟨⟨_, h4 j hj⟩, (h j hj).2⟩⟩
/-- a clone may be written -/
theorem CL.cw {s : Sx} (h : CL w B v s) : ∃ K, CW w B w.heap.size v K ∧ ∀ i, i < v.n3 → (K i).n2 ≤ maxLen := by
  obtain ⟨_, _, hs1, hs2, hn3, _⟩ := h.rd.parts
  obtain ⟨K, hrow, hk⟩ := h.kids
  obtain ⟨K', hrow', hrd'⟩ := h.rd.parts.2.2.2.2.2.2.2
  have hsame : ∀ i, i < v.n3 → K i = K' i := fun i hi => by
    rcases hrow.2.2.2 with h0 | ⟨b, o, e, h1⟩
    · omega
    · rcases hrow'.2.2.2 with h0 | ⟨b', o', e', h1'⟩
      · omega
      · rw [e] at e'
        cases e'
        have q : ∀ j x y, (K i).cells[j]? = some x → (K' i).cells[j]? = some y → x = y := fun j x y hx hy => by
          have a1 := h1 i hi j x hx
          have a2 := h1' i hi j y hy
          rw [a1] at a2
          exact Option.some.inj a2
        have c0 := q 0 (.bool (K i).l) (.bool (K' i).l) rfl rfl
        have c1 := q 1 (.bool (K i).h) (.bool (K' i).h) rfl rfl
        have c2 := q 2 (.slice (K i).a1 (K i).n1 (K i).c1) (.slice (K' i).a1 (K' i).n1 (K' i).c1) rfl rfl
        have c3 := q 3 (.slice (K i).a2 (K i).n2 (K i).c2) (.slice (K' i).a2 (K' i).n2 (K' i).c2) rfl rfl
        have c4 := q 4 (.slice (K i).a3 (K i).n3 (K i).c3) (.slice (K' i).a3 (K' i).n3 (K' i).c3) rfl rfl
        generalize K i = x at *
        generalize K' i = y at *
        cases x
        cases y
        simp only [Value.bool.injEq, Value.slice.injEq] at c0 c1 c2 c3 c4
        obtain ⟨r1, r2, r3⟩ := c2
        obtain ⟨r4, r5, r6⟩ := c3
        obtain ⟨r7, r8, r9⟩ := c4
        subst c0 c1 r1 r2 r3 r4 r5 r6 r7 r8 r9
        rfl
  refine ⟨K, ⟨TB.of hs1 h.rd.inb.1 h.self.1, TB.of hs2 h.rd.inb.2.1 h.self.2, ?_, fun i hi => ?_⟩, fun i hi => ?_⟩
  · by_cases h0 : v.n3 = 0
    · exact .inl h0
    · rcases h.row with h1 | ⟨b, o, e, h1⟩
      · exact .inl h1
      · rcases h.rd.inb.2.2 with h2 | h2
        · exact .inl h2
        · rcases hrow.2.2.2 with h3 | ⟨b', o', e', h3⟩
          · exact .inl h3
          · rw [e] at e'
            cases e'
            refine .inr ⟨b, o, e, h2 b o none e, cell_lt (h3 0 (by omega) 0 _ rfl), fun i hi => ⟨⟨(K i).h, h3 i hi 1 _ rfl⟩, ?_, h3 i hi 3 _ rfl⟩⟩
            have := (h1 (i * 5 + 1) (by omega)).2
            rwa [← Nat.add_assoc] at this
  · have hi' : i < s.ks.length := by rw [← hn3]; exact hi
    have h1 := hrd' i hi'
    rw [← hsame i hi] at h1
    obtain ⟨_, _, _, hs2', _⟩ := h1.parts
    exact TB.of hs2' (hk i hi).2.2 (hk i hi).1.2
  · have hi' : i < s.ks.length := by rw [← hn3]; exact hi
    have h1 := hrd' i hi'
    rw [← hsame i hi] at h1
    obtain ⟨_, _, _, hs2', _⟩ := h1.parts
    exact Nat.le_trans hs2'.2.1 hs2'.2.2.1
end

/-- the state of the loops that write: since w0 nothing but blocks of the range -/
structure LS (w0 u : World) (B E : Nat) (v : SV) (K : Nat → SV) : Prop where
  cw : CW u B E v K
  but : But (fun k => B ≤ k ∧ k < E) w0 u
theorem LS.byte {w0 u : World} {B E : Nat} {v : SV} {K : Nat → SV} (h : LS w0 u B E v K) {b o : Nat} {z : Int} (hp : u.cell? ⟨b, o, none⟩ = some (.int .u8 z)) (h1 : B ≤ b) (h2 : b < E) (z' : Int) : LS w0 (u.setCell ⟨b, o, none⟩ (.int .u8 z')) B E v K :=
  ⟨h.cw.byte hp z', h.but.setCell (p := ⟨b, o, none⟩) (.inl ⟨h1, h2⟩) _⟩
theorem LS.after {w0 u u' : World} {B E : Nat} {v : SV} {K : Nat → SV} (h : LS w0 u B E v K) (hb : Below u.heap.size u u') (hE : E ≤ w0.heap.size) : LS w0 u' B E v K :=
  ⟨h.cw.keep (fun k hk => hb.block k (by have := h.but.size; omega)), h.but.trans (But.ofBelow (S := fun _ => False) hb) (fun k hk => hk.elim)⟩
theorem LS.bool {w0 u : World} {B E : Nat} {v : SV} {K : Nat → SV} (h : LS w0 u B E v K) {b o : Nat} {y : Bool} (hp : u.cell? ⟨b, o, none⟩ = some (.bool y)) (h1 : B ≤ b) (h2 : b < E) (y' : Bool) : LS w0 (u.setCell ⟨b, o, none⟩ (.bool y')) B E v K :=
  ⟨h.cw.bool hp y', h.but.setCell (p := ⟨b, o, none⟩) (.inl ⟨h1, h2⟩) _⟩
/-- a mark is stored in a cell -/
theorem wp_store_bool {P : Program} {Q : Exit → Act → World → Prop} {o : Oper} {a : Act} {w : World} {K : Act → World → Prop} (ty : TypeId) (x y : Operand) (ho : o.op = .store ty x y)
    {b off : Nat} {t : Bool} (hx : a.eval x = .pointer (some ⟨b, off, none⟩)) (hy : a.eval y = .bool t) {u : Value} (hc : w.cell? ⟨b, off, none⟩ = some u) (hf : w.frozen? ⟨b, off, none⟩ = false) (hz : ∀ w, (sizeOf ty).run P w = .ok 1 w)
    (h : K (a.put o.dst undef) (w.setCell ⟨b, off, none⟩ (.bool t))) : o.wp P a w K Q := by
  unfold Oper.wp execOp
  simp only [ho, hx, hy]
  simp [go_sem, hz, hc, hf]
  exact h
end Go.Proofs.YtcflgoddfakepaaDoor

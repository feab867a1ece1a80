/- Slices of uint64: how they read as lists of numbers; appending. -/
import Derived.Test.YtpkoniebbkkmjaaCellMg
import Derived.Test.YtpkoniebbkkmjaaScMathMg
import Derived.Deep.OwnRows
namespace Go.Proofs.Ytpkoniebbkkmjaa
open Go.RowKit

/-- A slice of uint64 that reads as the list l. -/
def Su (w : World) (a : Option Addr) (len cap : Nat) (l : List Nat) : Prop :=
  len = l.length ∧ len ≤ cap ∧ cap ≤ maxLen ∧ (a = none → cap = 0) ∧ (len = 0 ∨ ∃ b o, a = some ⟨b, o, none⟩ ∧ ∀ i, i < len → w.cell? ⟨b, o + i, none⟩ = some (.int .u64 ((l.getD i 0 : Nat) : Int)))

theorem Su.after {w w' : World} {a : Option Addr} {len cap : Nat} {l : List Nat} (h : Su w a len cap l) (hb : Below w.heap.size w w') : Su w' a len cap l := by
  obtain ⟨h1, h2, h3, h5, h4⟩ := h
  refine ⟨h1, h2, h3, h5, ?_⟩
  rcases h4 with h4 | ⟨b, o, rfl, h4⟩
  · exact .inl h4
  · exact .inr ⟨b, o, rfl, fun i hi => (hb.cell (cell_lt (h4 i hi))).trans (h4 i hi)⟩
theorem Su.drew {w : World} {a : Option Addr} {len cap : Nat} {l : List Nat} (h : Su w a len cap l) : Su w.drew a len cap l := h

def uCells (l : List Nat) : List Value := l.map fun n => .int .u64 ((n : Nat) : Int)
theorem uCells_append (a b : List Nat) : uCells a ++ uCells b = uCells (a ++ b) := by simp [uCells]
theorem uCells_length (a : List Nat) : (uCells a).length = a.length := by simp [uCells]

/-- A row that the call itself owns, as a slice that reads. -/
theorem Su.ofOwns {w : World} {B e n : Nat} {v : Value} {l : List Nat} (h : w.ownsRow B e 1 v n (uCells l)) : ∃ a cap, v = .slice a n cap ∧ Su w a n cap l := by
  have hl : l.length = n := by have := h.1; simpa [uCells] using this
  rcases h.2 with ⟨rfl, rfl⟩ | ⟨g, cap, cur, rfl, hg, hb, hn, hm, hs, ht⟩
  · exact ⟨none, 0, rfl, hl.symm, Nat.le_refl _, Nat.zero_le _, fun _ => rfl, .inl rfl⟩
  · refine ⟨some ⟨g, 0, none⟩, cap, rfl, hl.symm, hn, hm, (fun h => by cases h), .inr ⟨g, 0, rfl, fun i hi => ?_⟩⟩
    have := h.cellAt i (by simpa using hi)
    rw [Nat.zero_add, this]
    simp [uCells, List.getD_eq_getElem?_getD, show i < l.length by omega]

theorem own_after {w w' : World} {B e n s : Nat} {v : Value} {xs : List Value} (h : w.ownsRow B e s v n xs) (hb : Below w.heap.size w w') : w'.ownsRow B e s v n xs := by
  refine ⟨h.1, ?_⟩
  rcases h.2 with h2 | ⟨g, cap, cur, h1, h2, h3, h4, h5, h6, h7⟩
  · exact .inl h2
  · exact .inr ⟨g, cap, cur, h1, h2, (hb.block g (Array.getElem?_eq_some_iff.1 h3).1).trans h3, h4, h5, h6, h7⟩
theorem own_base {w : World} {B B' e n s : Nat} {v : Value} {xs : List Value} (h : w.ownsRow B e s v n xs) (hb : B' ≤ B) : w.ownsRow B' e s v n xs := by
  refine ⟨h.1, ?_⟩
  rcases h.2 with h2 | ⟨g, cap, cur, h1, h2, h3⟩
  · exact .inl h2
  · exact .inr ⟨g, cap, cur, h1, Nat.le_trans hb h2, h3⟩

/-- 'append(out, x...)': out the call's own, x a slice that reads as l2 -/
theorem wp_append_su {P : Program} {w : World} {o : Oper} {a : Act} {K : Act → World → Prop} {Q : Exit → Act → World → Prop} (s x : Operand) (t : TypeId)
    (ho : o.op = .call { callee := .builtin .append, args := #[s, x], argTypes := #[t, t] })
    (base : Nat) (e : TypeId) (i : TypeInfo) (ht : P.underlying t = some (.slice e)) (hi : P.info? e = some i) (hz : i.zero = some (.int .u64 0)) (hsize : i.size = 1) (hby : i.bytes = 8)
    (v : Value) (n : Nat) (l : List Nat) (hs : a.eval s = v) (hown : w.ownsRow base e 1 v n (uCells l))
    (ad : Addr) (m c : Nat) (l2 : List Nat) (hx : a.eval x = .slice (some ad) m c) (hsl : Su w (some ad) m c l2)
    (hbytes : (n + m) * 8 ≤ 140737488355328) (hbase : base ≤ w.heap.size)
    (h : ∀ v' w', w'.ownsRow base e 1 v' (n + m) (uCells (l ++ l2)) → w.grownBy w' v.ownBlock → K (a.put o.dst v') w') : o.wp P a w K Q := by
  obtain ⟨h1, h2, h3, h5, h4⟩ := hsl
  refine wp_append_own w s x t ho base e i (.int .u64 0) 1 8 ht hi hz hsize hby rfl (by decide) v n _ hs hown ad m c (uCells l2) hx (by simp [uCells, h1]) ?_ ?_ (by unfold maxLen; omega) (by omega) hbase ?_
  · intro j u hj
    rcases h4 with h4 | ⟨b, o', e', h4⟩
    · have hl2 : l2 = [] := List.eq_nil_of_length_eq_zero (by omega)
      subst hl2
      simp [uCells] at hj
    · obtain rfl := Option.some.inj e'
      have hlt : j < l2.length := by
        rcases Nat.lt_or_ge j l2.length with h' | h'
        · exact h'
        · simp [uCells, List.getElem?_eq_none h'] at hj
      simp [uCells, hlt] at hj
      rw [Addr.add_lit, h4 j (by omega), ← hj]
      simp [List.getD_eq_getElem?_getD, hlt]
  · intro u hu
    obtain ⟨_, _, rfl⟩ := List.mem_map.1 hu
    rfl
  · intro v' w' ho' hg' _
    exact h v' w' (by rw [← uCells_append]; exact ho') hg'

theorem infoU64 : (Try.prog.info? 24).map (fun i => (i.zero, i.size, i.bytes)) = some (some (.int .u64 0), 1, 8) := by kernel_rfl

theorem suOne (w : World) (e : TypeId) (x : Nat) : Su (w.alloc (.cells #[.int .u64 (x : Int)] e)) (some ⟨w.heap.size, 0, none⟩) 1 1 [x] := by
  refine ⟨rfl, Nat.le_refl _, by unfold maxLen; omega, (fun h => by cases h), .inr ⟨_, 0, rfl, fun i hi => ?_⟩⟩
  obtain rfl : i = 0 := by omega
  rw [World.cell?_alloc_mark]; rfl

/-- 'append(out, x)' in a plain region: the slice of one is made, and put behind -/
theorem wpList_put1 {ops : Array Oper} {rest : List Oper} {o o' : Oper} {a : Act} {w : World} {Q : Exit → Act → World → Prop} (hgd : Region.wanted o (yielded ops a.tmps) = true) (x : Nat)
    (hrun : ∀ w : World, (execOp a.eval o).run Try.prog w = .ok (.value (.slice (some ⟨w.heap.size, 0, none⟩) 1 1)) (w.alloc (.cells #[.int .u64 (x : Int)] 24)))
    (hgd' : ∀ p, Region.wanted o' (yielded ops (a.put o.dst (.slice (some ⟨p, 0, none⟩) 1 1)).tmps) = true)
    (s y : Operand) (ho : o'.op = .call { callee := .builtin .append, args := #[s, y], argTypes := #[104, 104] })
    (base : Nat) (v : Value) (n : Nat) (l : List Nat) (hs : ∀ p, (a.put o.dst (.slice (some ⟨p, 0, none⟩) 1 1)).eval s = v) (hy : ∀ p, (a.put o.dst (.slice (some ⟨p, 0, none⟩) 1 1)).eval y = .slice (some ⟨p, 0, none⟩) 1 1)
    (hown : w.ownsRow base 24 1 v n (uCells l)) (hbytes : (n + 1) * 8 ≤ 140737488355328) (hbase : base ≤ w.heap.size)
    (h : ∀ p v' w', w'.ownsRow base 24 1 v' (n + 1) (uCells (l ++ [x])) → Below base w w' → wpList Try.prog ops Q rest ((a.put o.dst (.slice (some ⟨p, 0, none⟩) 1 1)).put o'.dst v') w') : wpList Try.prog ops Q (o :: o' :: rest) a w := by
  obtain ⟨i0, hi, hz0, hz1, hz2⟩ := info_parts infoU64
  refine wpList_want hgd fun K hK => ?_
  unfold Oper.wp
  rw [hrun]
  refine hK _ _ ?_
  refine wpList_want (hgd' _) fun K' hK' => ?_
  have ha : (w.alloc (.cells #[.int .u64 (x : Int)] 24)).ownsRow base 24 1 v n (uCells l) := hown.alloc _
  refine wp_append_su s y 104 ho base 24 i0 Try.underlying104 hi hz0 hz1 hz2 v n l (hs _) ha ⟨w.heap.size, 0, none⟩ 1 1 [x] (hy _) (suOne w _ x) hbytes (by simp; omega) ?_
  intro v' w' hown' hg
  refine hK' _ _ (h _ v' w' hown' ?_)
  exact ((Below.refl base w).alloc hbase _).grown hg (by simp; omega) (fun j hj => (ha.lt j hj).1)

theorem made_zeros (n : Nat) : madeCells #[Value.int .u64 0] n = (uCells (List.replicate n 0)).toArray := by
  apply Array.ext
  · simp [size_madeCells, uCells]
  · intro i h1 h2
    simp [madeCells, uCells, Nat.mod_one]
theorem su_box {w : World} {g : Nat} {T : TypeId} {l : List Nat} (h : Box w g T (uCells l).toArray) (hl : l.length ≤ maxLen) : Su w (some ⟨g, 0, none⟩) l.length l.length l := by
  refine ⟨rfl, Nat.le_refl _, hl, (fun h => by cases h), .inr ⟨g, 0, rfl, fun i hi => ?_⟩⟩
  rw [Nat.zero_add, h.cell i (v := .int .u64 ((l.getD i 0 : Nat) : Int)) (by simp [uCells, hi])]

/-- 'make([]uint64, n)' -/
theorem wpList_zeros {ops : Array Oper} {rest : List Oper} {o : Oper} {a : Act} {w : World} {Q : Exit → Act → World → Prop} (hgd : Region.wanted o (yielded ops a.tmps) = true) (x y : Operand) (ho : o.op = .makeSlice 104 x y)
    (n : Nat) (hx : a.eval x = .int .i64 (n : Int)) (hy : a.eval y = .int .i64 (n : Int)) (hn : n ≤ 100000)
    (h : ∀ g w', Box w' g 24 (uCells (List.replicate n 0)).toArray → w.heap.size ≤ g → Below w.heap.size w w' → wpList Try.prog ops Q rest (a.put o.dst (.slice (some ⟨g, 0, none⟩) n n)) w') : wpList Try.prog ops Q (o :: rest) a w := by
  refine wpList_want hgd fun K hK => ?_
  have hr := run_make_row' 104 24 (.int .u64 0) 8 Try.underlying104 infoU64 rfl .i64 .i64 n (by omega) (by omega) w
  unfold Oper.wp execOp
  simp only [ho, hx, hy, Sem.run_bind, Sem.run_pure, Result.andThen_ok, hr]
  rw [made_zeros]
  exact hK _ _ (h _ _ (Box.new _ _ _) (Nat.le_refl _) ((Below.refl _ _).alloc (Nat.le_refl _) _))

/-- the k lowest digits of n -/
def digs (n k : Nat) : List Nat := (List.range k).map (dig n)
theorem digs_len (n k : Nat) : (digs n k).length = k := by simp [digs]
theorem digs_get (n k i : Nat) (h : i < k) : (digs n k).getD i 0 = dig n i := by simp [digs, h]
theorem digs_succ (n k : Nat) : digs n (k + 1) = digs n k ++ [dig n k] := by simp [digs, List.range_succ]

theorem dig_cmp (A B p : Nat) (h : A / 65536 ^ (p + 1) = B / 65536 ^ (p + 1)) : (dig A p ≠ dig B p → (A < B ↔ dig A p < dig B p)) ∧ (dig A p = dig B p → A / 65536 ^ p = B / 65536 ^ p) := by
  unfold dig
  rw [Nat.pow_succ, ← Nat.div_div_eq_div_mul, ← Nat.div_div_eq_div_mul] at h
  have h0 : 0 < 65536 ^ p := Nat.pow_pos (by omega)
  have m1 : A / 65536 ^ p < B / 65536 ^ p → A < B := fun hx => Nat.lt_of_not_le fun hle => by have := Nat.div_le_div_right (c := 65536 ^ p) hle; omega
  have m2 : B / 65536 ^ p < A / 65536 ^ p → B < A := fun hx => Nat.lt_of_not_le fun hle => by have := Nat.div_le_div_right (c := 65536 ^ p) hle; omega
  generalize A / 65536 ^ p = x at *
  generalize B / 65536 ^ p = y at *
  refine ⟨fun hne => ?_, fun he => by omega⟩
  constructor
  · intro hlt
    rcases Nat.lt_trichotomy x y with hx | hx | hx
    · omega
    · omega
    · have := m2 hx; omega
  · intro hlt
    exact m1 (by omega)
end Go.Proofs.Ytpkoniebbkkmjaa

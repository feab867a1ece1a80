/- Slices of bytes: how they read as lists; cutting, appending. -/
import Derived.Test.YtcflgoddfakepaaDoorRows
import Derived.WalkKit
import Derived.Handy
import Derived.Lib.Hide
import Derived.Lib.UnsafeStr
import Derived.Laws.AppendOwnNone
namespace Go.Proofs.YtcflgoddfakepaaDoor
open Go.RowKit

/-- what the frame tells of a slice of integers that came in -/
def IsRow (k : IntKind) (w : World) (a : Option Addr) (len cap : Nat) (zs : List Int) : Prop :=
  (a = none ∧ len = 0 ∧ cap = 0 ∧ zs = []) ∨
  ∃ x, a = some x ∧ len ≤ cap ∧ cap ≤ maxLen ∧ zs.length = cap ∧ (∀ i, i < zs.length → w.cell? (x.add i) = some (.int k (zs.getD i 0))) ∧ ∀ n ∈ zs, (Lit.int k n).wf = true

/-- A slice of bytes that reads as the list l. -/
def Sl (w : World) (a : Option Addr) (len cap : Nat) (l : List UInt8) : Prop :=
  len = l.length ∧ len ≤ cap ∧ cap ≤ maxLen ∧ (a = none → cap = 0) ∧ (len = 0 ∨ ∃ b o, a = some ⟨b, o, none⟩ ∧ ∀ i, i < len → w.cell? ⟨b, o + i, none⟩ = some (.int .u8 ((l.getD i 0).toNat : Int)))

theorem Sl.mk' {w : World} {a : Option Addr} {len cap : Nat} {l : List UInt8} (h1 : len = l.length) (h2 : len ≤ cap) (h3 : cap ≤ maxLen) (h5 : a = none → cap = 0)
    (h4 : len = 0 ∨ ∃ b o, a = some ⟨b, o, none⟩ ∧ ∀ i, i < len → w.cell? ⟨b, o + i, none⟩ = some (.int .u8 ((l.getD i 0).toNat : Int))) : Sl w a len cap l := ⟨h1, h2, h3, h5, h4⟩

theorem Sl.below {w w' : World} {a : Option Addr} {len cap : Nat} {l : List UInt8} {B : Nat} (h : Sl w a len cap l) (hb : Below B w w')
    (hB : ∀ b o, len ≠ 0 → a = some ⟨b, o, none⟩ → b < B) : Sl w' a len cap l := by
  obtain ⟨h1, h2, h3, h5, h4⟩ := h
  refine ⟨h1, h2, h3, h5, ?_⟩
  rcases h4 with h4 | ⟨b, o, rfl, h4⟩
  · exact .inl h4
  · by_cases h0 : len = 0
    · exact .inl h0
    · exact .inr ⟨b, o, rfl, fun i hi => (hb.cell (hB b o h0 rfl)).trans (h4 i hi)⟩

theorem cell_lt {w : World} {b o : Nat} {v : Value} (h : w.cell? ⟨b, o, none⟩ = some v) : b < w.heap.size := by
  rcases Nat.lt_or_ge b w.heap.size with h' | h'
  · exact h'
  · simp [World.cell?, Array.getElem?_eq_none h'] at h

theorem Sl.lt {w : World} {a : Option Addr} {len cap : Nat} {l : List UInt8} (h : Sl w a len cap l) : ∀ b o, len ≠ 0 → a = some ⟨b, o, none⟩ → b < w.heap.size := by
  obtain ⟨h1, h2, h3, h5, h4⟩ := h
  intro b o h0 ha
  rcases h4 with h4 | ⟨b', o', rfl, h4⟩
  · exact absurd h4 h0
  · obtain ⟨rfl, rfl⟩ : b' = b ∧ o' = o := by simpa using ha
    exact cell_lt (h4 0 (by omega))

/-- What lay in old memory reads as before. -/
theorem Sl.after {w w' : World} {a : Option Addr} {len cap : Nat} {l : List UInt8} (h : Sl w a len cap l) (hb : Below w.heap.size w w') : Sl w' a len cap l := h.below hb h.lt

theorem Sl.drop {w : World} {b o len cap : Nat} {l : List UInt8} (n : Nat) (h : Sl w (some ⟨b, o, none⟩) len cap l) (hn : n ≤ len) :
    Sl w (if cap = n then some ⟨b, o, none⟩ else some ⟨b, o + n, none⟩) (len - n) (cap - n) (l.drop n) := by
  obtain ⟨h1, h2, h3, h5, h4⟩ := h
  refine ⟨by simp [h1], by omega, by omega, (by intro h; split at h <;> cases h), ?_⟩
  by_cases h0 : len - n = 0
  · exact .inl h0
  · right
    rcases h4 with h4 | ⟨b', o', e, h4⟩
    · omega
    · obtain ⟨rfl, rfl⟩ : b = b' ∧ o = o' := by simpa using e
      refine ⟨b, o + n, by rw [if_neg (by omega)], fun i hi => ?_⟩
      rw [Nat.add_assoc, h4 (n + i) (by omega)]
      simp [List.getD_eq_getElem?_getD, List.getElem?_drop]

theorem Sl.take {w : World} {a : Option Addr} {len cap : Nat} {l : List UInt8} (n : Nat) (h : Sl w a len cap l) (hn : n ≤ len) :
    Sl w a n cap (l.take n) := by
  obtain ⟨h1, h2, h3, h5, h4⟩ := h
  refine ⟨by simp; omega, by omega, h3, h5, ?_⟩
  by_cases h0 : n = 0
  · exact .inl h0
  · right
    rcases h4 with h4 | ⟨b', o', e, h4⟩
    · omega
    · refine ⟨b', o', e, fun i hi => ?_⟩
      rw [h4 i (by omega)]
      simp [List.getD_eq_getElem?_getD, hi]

/-- What the frame tells of a slice of bytes is that it reads as a list. -/
theorem IsRow.sl {w : World} {a : Option Addr} {len cap : Nat} {zs : List Int} (h : IsRow .u8 w a len cap zs) : ∃ l, Sl w a len cap l := by
  rcases h with ⟨rfl, rfl, rfl, rfl⟩ | ⟨x, rfl, h1, h2, h3, h4, h5⟩
  · exact ⟨[], rfl, Nat.le_refl _, Nat.zero_le _, fun _ => rfl, .inl rfl⟩
  · refine ⟨(zs.take len).map fun n => UInt8.ofNat n.toNat, by simp; omega, h1, h2, (fun h => by cases h), ?_⟩
    by_cases h0 : len = 0
    · exact .inl h0
    · right
      obtain ⟨b, o, spot⟩ := x
      have hc := h4 0 (by omega)
      have hspot : spot = none := by simpa [Addr.add] using World.cell?_spot hc
      subst hspot
      refine ⟨b, o, rfl, fun i hi => ?_⟩
      have hc := h4 i (by omega)
      replace hc := (congrArg w.cell? (Addr.add_lit b o i)).symm.trans hc
      rw [hc]
      have hlt : i < zs.length := by omega
      obtain ⟨z, hz⟩ : ∃ z, z = zs.getD i 0 := ⟨_, rfl⟩
      have hwf := h5 z (by rw [hz]; simp [List.getD_eq_getElem?_getD, hlt])
      rw [← hz]
      have hbd : 0 ≤ z ∧ z < 256 := by
        simp [Lit.wf, IntKind.min, IntKind.max, IntKind.bits, IntKind.signed] at hwf
        omega
      have e : ((zs.take len).map fun n => UInt8.ofNat n.toNat).getD i 0 = UInt8.ofNat z.toNat := by
        rw [hz]
        simp [List.getD_eq_getElem?_getD, hi, hlt]
      rw [e]
      congr 2
      simp
      omega

/-- A row that the call itself owns, as a slice that reads. -/
theorem Sl.ofOwns {w : World} {B e n : Nat} {v : Value} {l : List UInt8} (h : w.ownsRow B e 1 v n (Lib.byteCells l)) : ∃ a cap, v = .slice a n cap ∧ Sl w a n cap l := by
  have hl : l.length = n := by have := h.1; simpa [Lib.byteCells] using this
  rcases h.2 with ⟨rfl, rfl⟩ | ⟨g, cap, cur, rfl, hg, hb, hn, hm, hs, ht⟩
  · exact ⟨none, 0, rfl, hl.symm, Nat.le_refl _, Nat.zero_le _, fun _ => rfl, .inl rfl⟩
  · refine ⟨some ⟨g, 0, none⟩, cap, rfl, hl.symm, hn, hm, (fun h => by cases h), .inr ⟨g, 0, rfl, fun i hi => ?_⟩⟩
    have := h.cellAt i (by simpa using hi)
    rw [Nat.zero_add, this]
    simp [Lib.byteCells, List.getD_eq_getElem?_getD, show i < l.length by omega]

theorem byteCells_append (a b : List UInt8) : Lib.byteCells a ++ Lib.byteCells b = Lib.byteCells (a ++ b) := by simp [Lib.byteCells]
theorem byteCells_length (a : List UInt8) : (Lib.byteCells a).length = a.length := by simp [Lib.byteCells]

/-- 'append(out, x...)': out the call's own, x a slice of bytes that reads as l2, nil or empty too. -/
theorem wp_append_sl {P : Program} {w : World} {o : Oper} {a : Act} {K : Act → World → Prop} {Q : Exit → Act → World → Prop} (s x : Operand) (t : TypeId)
    (ho : o.op = .call { callee := .builtin .append, args := #[s, x], argTypes := #[t, t] })
    (base : Nat) (e : TypeId) (i : TypeInfo) (ht : P.underlying t = some (.slice e)) (hi : P.info? e = some i) (hz : i.zero = some (.int .u8 0)) (hsize : i.size = 1) (hby : i.bytes = 1)
    (v : Value) (n : Nat) (l : List UInt8) (hs : a.eval s = v) (hown : w.ownsRow base e 1 v n (Lib.byteCells l))
    (ax : Option Addr) (m c : Nat) (l2 : List UInt8) (hx : a.eval x = .slice ax m c) (hsl : Sl w ax m c l2)
    (hbytes : n + m ≤ 140737488355328) (hbase : base ≤ w.heap.size)
    (h : ∀ v' w', w'.ownsRow base e 1 v' (n + m) (Lib.byteCells (l ++ l2)) → w.grownBy w' v.ownBlock → K (a.put o.dst v') w') : o.wp P a w K Q := by
  obtain ⟨h1, h2, h3, h5, h4⟩ := hsl
  cases ax with
  | none =>
    have hc := h5 rfl
    subst hc
    obtain rfl : m = 0 := by omega
    have hl2 : l2 = [] := List.eq_nil_of_length_eq_zero h1.symm
    subst hl2
    have hrun := run_append_owned_none (P := P) (w := w) base t o.type e i 1 ht hi v n _ hown
    unfold Oper.wp
    simp [execOp, ho, resolve, invoke, builtin, hs, hx, hrun, Result.andThen]
    exact h v w (by simpa using hown) (World.grownBy.refl w _)
  | some ad =>
    refine wp_append_own w s x t ho base e i (.int .u8 0) 1 1 ht hi hz hsize hby rfl (by decide) v n _ hs hown ad m c (Lib.byteCells l2) hx (by simp [Lib.byteCells, h1]) ?_ ?_ (by unfold maxLen; omega) (by omega) hbase ?_
    · intro j u hj
      rcases h4 with h4 | ⟨b, o', e', h4⟩
      · have hl2 : l2 = [] := List.eq_nil_of_length_eq_zero (by omega)
        subst hl2
        simp [Lib.byteCells] at hj
      · obtain rfl := Option.some.inj e'
        have hlt : j < l2.length := by
          rcases Nat.lt_or_ge j l2.length with h' | h'
          · exact h'
          · simp [Lib.byteCells, List.getElem?_eq_none h'] at hj
        simp [Lib.byteCells, hlt] at hj
        rw [Addr.add_lit, h4 j (by omega), ← hj]
        simp [List.getD_eq_getElem?_getD, hlt]
    · intro u hu
      obtain ⟨_, _, rfl⟩ := List.mem_map.1 hu
      rfl
    · intro v' w' ho' hg' _
      exact h v' w' (by rw [← byteCells_append]; exact ho') hg'

theorem wpList_append_sl {P : Program} {w : World} {ops : Array Oper} {rest : List Oper} {o : Oper} {a : Act} {Q : Exit → Act → World → Prop} (hgd : o.guard = none) (s x : Operand) (t : TypeId)
    (ho : o.op = .call { callee := .builtin .append, args := #[s, x], argTypes := #[t, t] })
    (base : Nat) (e : TypeId) (i : TypeInfo) (ht : P.underlying t = some (.slice e)) (hi : P.info? e = some i) (hz : i.zero = some (.int .u8 0)) (hsize : i.size = 1) (hby : i.bytes = 1)
    (v : Value) (n : Nat) (l : List UInt8) (hs : a.eval s = v) (hown : w.ownsRow base e 1 v n (Lib.byteCells l))
    (ax : Option Addr) (m c : Nat) (l2 : List UInt8) (hx : a.eval x = .slice ax m c) (hsl : Sl w ax m c l2)
    (hbytes : n + m ≤ 140737488355328) (hbase : base ≤ w.heap.size)
    (h : ∀ v' w', w'.ownsRow base e 1 v' (n + m) (Lib.byteCells (l ++ l2)) → w.grownBy w' v.ownBlock → wpList P ops Q rest (a.put o.dst v') w') : wpList P ops Q (o :: rest) a w :=
  wpList_plain hgd fun _ hK => wp_append_sl s x t ho base e i ht hi hz hsize hby v n l hs hown ax m c l2 hx hsl hbytes hbase fun v' w' h2 h3 => hK _ _ (h v' w' h2 h3)

/-- the same as a step of a region that draws its order -/
theorem step_append_sl {P : Program} {w : World} {ops : Array Oper} {o : Oper} {a : Act} {K : Act → World → Prop} {Q : Exit → Act → World → Prop} {E : Prop} (hgd : o.guard = none) (s x : Operand) (t : TypeId)
    (ho : o.op = .call { callee := .builtin .append, args := #[s, x], argTypes := #[t, t] })
    (base : Nat) (e : TypeId) (i : TypeInfo) (ht : P.underlying t = some (.slice e)) (hi : P.info? e = some i) (hz : i.zero = some (.int .u8 0)) (hsize : i.size = 1) (hby : i.bytes = 1)
    (v : Value) (n : Nat) (l : List UInt8) (hs : a.eval s = v) (hown : w.ownsRow base e 1 v n (Lib.byteCells l))
    (ax : Option Addr) (m c : Nat) (l2 : List UInt8) (hx : a.eval x = .slice ax m c) (hsl : Sl w ax m c l2)
    (hbytes : n + m ≤ 140737488355328) (hbase : base ≤ w.heap.size)
    (h : ∀ v' w', w'.ownsRow base e 1 v' (n + m) (Lib.byteCells (l ++ l2)) → w.grownBy w' v.ownBlock → K (a.put o.dst v') w') :
    if Region.wanted o (yielded ops a.tmps) = true then Oper.wp P o a w K Q else E := by
  have hw : Region.wanted o (yielded ops a.tmps) = true := by simp [Region.wanted, hgd]
  rw [if_pos hw]
  exact wp_append_sl s x t ho base e i ht hi hz hsize hby v n l hs hown ax m c l2 hx hsl hbytes hbase h
end Go.Proofs.YtcflgoddfakepaaDoor

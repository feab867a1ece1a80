/- Regions that draw their order, whose operations leave alone all memory below a bound: one walk in the order of the text. Blocks of memory that are known whole: loads and stores of whole arrays and structs. Slices of bytes: how they read as lists; cutting, appending. Strings out of bytes, and bytes out of strings. Slices of bytes: two small words more. Regions that draw their order and end in an append. Regions that draw their order: a value or a call, whichever comes up. Regions that draw their order: a call, or a variable made, whichever comes up. S-expressions: how they lie in memory, as trees. How many values a tree holds; the document's nodes. The document's deep, clean and Great: what they compute. The document's Same: what it computes. Slices that the call itself has made, whatever their elements and wherever in a block: append. octet.PutLen: what it computes; the library's table behind other calls. Operations that leave alone all memory below a bound, at the head of a plain region. -/
import Derived.WalkKit
import Derived.Laws.Rows
import Derived.Deep.MidRow
import Derived.Deep.Quiet
import Derived.Below
import Derived.Deep.Cut
import Derived.OrdersHeld
import Derived.RegionTactic
import Derived.Test.YtkbblhioncecmaaGreatDoorRows
import Derived.Handy
import Derived.Lib.Hide
import Derived.Lib.UnsafeStr
import Derived.Laws.AppendOwnNone
import Derived.Lib.ConvBytes
import Derived.Laws.BytesString
import Derived.Laws.Cells
import Derived.OwnWalk
import Derived.Deep.Upon
import Derived.Test.YtkbblhioncecmaaGreatDoorShelf
import Derived.Lib.AppendIntMem
import Derived.Lib.LaidTab
import Derived.Lib.ItoaNum
namespace Go.Proofs.YtkbblhioncecmaaGreatDoor
open Go.RowKit

variable {P : Program} {ops : Array Oper} {W : World} {B : Nat}

theorem wp_region_made {id : Nat} {Q : Exit → Act → World → Prop} {a : Act} {w : World} {l : List Oper} (B : Nat) (W : World) (hm : P.follows .mixedOrders = true) (hB : Region.lexB .any l.toArray = true) (h0 : Below B W w)
    (h : wpQuiet P l.toArray (fun w' => Below B W w') (fun a' => ∀ w', Below B W w' → Q .normal a' w') l a) : (Code.region id l.toArray true).wp P Q a w :=
  wp_region_quiet (C := fun w' => Below B W w') hm hB h0.drew (by simpa using h)

theorem wpQ_plain {C : World → Prop} {Q : Act → Prop} {a : Act} {o : Oper} {rest : List Oper} (hgd : Region.wanted o (yielded ops a.tmps) = true) (h : o.quiet P a C (wpQuiet P ops C Q rest)) : wpQuiet P ops C Q (o :: rest) a := by
  unfold wpQuiet
  rw [if_pos hgd]
  exact h

/-- an operation whose run is known in each world of the class -/
theorem wpQ_run {C : World → Prop} {Q : Act → Prop} {a : Act} {o : Oper} {rest : List Oper} (hgd : Region.wanted o (yielded ops a.tmps) = true) (v : Value) (hr : ∀ w, C w → (execOp a.eval o).run P w = .ok (.value v) w)
    (h : wpQuiet P ops C Q rest (a.put o.dst v)) : wpQuiet P ops C Q (o :: rest) a :=
  wpQ_plain hgd ⟨v, fun w hw => by unfold Oper.quietAt; rw [hr w hw]; exact ⟨rfl, rfl⟩, h⟩

/-- a call by its contract -/
theorem wpQ_call {Q : Act → Prop} {a : Act} {o : Oper} {rest : List Oper} (hgd : Region.wanted o (yielded ops a.tmps) = true) (f : FuncId) (args : Array Value) (hr : ∀ w, (execOp a.eval o).run P w = .ok (.enter f args) w) (v : Value) (hB : B ≤ W.heap.size)
    (hc : ∀ w, Calls P f args w fun e w' => e = .returned v ∧ Below w.heap.size w w')
    (h : wpQuiet P ops (fun w' => Below B W w') Q rest (a.put o.dst v)) : wpQuiet P ops (fun w' => Below B W w') Q (o :: rest) a :=
  wpQ_plain hgd ⟨v, fun w hw => by
    unfold Oper.quietAt
    rw [hr w]
    exact ⟨rfl, (hc w).mono fun e w'' ⟨he, hb⟩ => ⟨he, hw.trans (hb.mono (by have := hw.size; omega))⟩⟩, h⟩

end Go.Proofs.YtkbblhioncecmaaGreatDoor
namespace Go.Proofs.YtkbblhioncecmaaGreatDoor
open Go.RowKit

/-- a variable of an array's or a struct's type, in a block of its own -/
def Box (w : World) (g : Nat) (T : TypeId) (cs : Array Value) : Prop := w.heap[g]? = some (.cells cs T (0, 0))

theorem Box.lt {w : World} {g : Nat} {T : TypeId} {cs : Array Value} (h : Box w g T cs) : g < w.heap.size := by
  rcases Nat.lt_or_ge g w.heap.size with h' | h'
  · exact h'
  · unfold Box at h; simp [Array.getElem?_eq_none h'] at h
theorem Box.below {w w' : World} {g B : Nat} {T : TypeId} {cs : Array Value} (h : Box w g T cs) (hb : Below B w w') (hg : g < B) : Box w' g T cs := (hb.block g hg).trans h
theorem Box.after {w w' : World} {g : Nat} {T : TypeId} {cs : Array Value} (h : Box w g T cs) (hb : Below w.heap.size w w') : Box w' g T cs := h.below hb h.lt
theorem Box.new (w : World) (T : TypeId) (cs : Array Value) : Box (w.alloc (.cells cs T)) w.heap.size T cs := heap_alloc_new _ _
theorem Box.alloc {w : World} {g : Nat} {T : TypeId} {cs : Array Value} (h : Box w g T cs) (o : Obj) : Box (w.alloc o) g T cs := (heap_alloc_old _ _ h.lt).trans h
theorem Box.drew {w : World} {g : Nat} {T : TypeId} {cs : Array Value} (h : Box w g T cs) : Box w.drew g T cs := h
theorem Box.set {w : World} {g : Nat} {T : TypeId} {cs : Array Value} (h : Box w g T cs) (i : Nat) (v : Value) : Box (w.setCell ⟨g, i, none⟩ v) g T (cs.setIfInBounds i v) := heap_setCell_same _ _ _ _ _ _ h
theorem Box.far {w : World} {g : Nat} {T : TypeId} {cs : Array Value} (h : Box w g T cs) (a : Addr) (v : Value) (hne : g ≠ a.block) : Box (w.setCell a v) g T cs := (heap_setCell_other _ _ _ _ hne).trans h
theorem Box.cell {w : World} {g : Nat} {T : TypeId} {cs : Array Value} (h : Box w g T cs) (j : Nat) {v : Value} (hv : cs[j]? = some v) : w.cell? ⟨g, j, none⟩ = some v := (cell_of_row w g j cs T _ h).trans hv
theorem Box.frozen {w : World} {g : Nat} {T : TypeId} {cs : Array Value} (h : Box w g T cs) (j : Nat) : w.frozen? ⟨g, j, none⟩ = false := frozen_of_row w g j cs T h

/-- what is left of a world behind a store into block g -/
structure Stored (w w' : World) (g : Nat) : Prop where
  other : ∀ k, k ≠ g → w'.heap[k]? = w.heap[k]?
  size : w'.heap.size = w.heap.size
  below : ∀ (B : Nat) (W : World), B ≤ g → Below B W w → Below B W w'

theorem Stored.refl (w : World) (g : Nat) : Stored w w g := ⟨fun _ _ => rfl, rfl, fun _ _ _ h => h⟩
theorem Stored.setCell {w w' : World} {g : Nat} (h : Stored w w' g) (i : Nat) (v : Value) : Stored w (w'.setCell ⟨g, i, none⟩ v) g :=
  ⟨fun k hk => (heap_setCell_other _ _ _ _ hk).trans (h.other k hk), by simp [h.size], fun B W hB hb => (h.below B W hB hb).setCell hB _⟩
theorem Stored.box {w w' : World} {g k : Nat} {T : TypeId} {cs : Array Value} (h : Stored w w' g) (hb : Box w k T cs) (hk : k ≠ g) : Box w' k T cs := (h.other k hk).trans hb

theorem setCells_box (g : Nat) (T : TypeId) : ∀ (vs : List Value) (o : Nat) (w : World) (pre : List Value) (post : List Value), pre.length = o → post.length = vs.length → Box w g T (pre ++ post).toArray →
    Box (w.setCells g o vs) g T (pre ++ vs).toArray ∧ Stored w (w.setCells g o vs) g
  | [], o, w, pre, post, _, hl, h => by
    have : post = [] := List.eq_nil_of_length_eq_zero hl
    subst this
    exact ⟨h, Stored.refl _ _⟩
  | v :: vs, o, w, pre, [], _, hl, _ => by cases hl
  | v :: vs, o, w, pre, p :: post, hp, hl, h => by
    have h1 := h.set o v
    have e : (pre ++ p :: post).toArray.setIfInBounds o v = ((pre ++ [v]) ++ post).toArray := by
      subst hp
      simp
    rw [e] at h1
    have h2 := setCells_box g T vs (o + 1) (w.setCell ⟨g, o, none⟩ v) (pre ++ [v]) post (by simp [hp]) (by simpa using hl) h1
    refine ⟨by simpa [World.setCells] using h2.1, ?_⟩
    have h3 := (Stored.refl w g).setCell o v
    exact ⟨fun k hk => (h2.2.other k hk).trans (h3.other k hk), h2.2.size.trans h3.size, fun B W hB hb => h2.2.below B W hB (h3.below B W hB hb)⟩

theorem box_there {w : World} {g : Nat} {T : TypeId} {cs : Array Value} (h : Box w g T cs) : w.there g 0 cs.size := fun j hj => by
  rw [Nat.zero_add]
  exact ⟨by rw [cell_of_row w g j cs T _ h]; simp [hj], h.frozen j⟩

variable {P : Program} {ops : Array Oper}

theorem run_load_box {o : Oper} {a : Act} {w : World} {ty : TypeId} {x : Operand} (ho : o.op = .load ty x)
    {g : Nat} {T : TypeId} {cs : Array Value} (hg : Box w g T cs) (hx : a.eval x = .pointer (some ⟨g, 0, none⟩)) {d : TypeDesc}
    (hu : P.underlying ty = some d) (hd : (match d with | .struct _ | .array _ _ => true | _ => false) = true) (hi : (P.info? ty).map (·.size) = some cs.size) : (execOp a.eval o).run P w = .ok (.value (.agg cs)) w := by
  unfold execOp
  simp only [ho, hx, Instr.loadAt, Instr.sureAddr, Sem.run_bind, Sem.run_pure, Result.andThen_ok, run_loadVar_row w g T ty cs (0, 0) d hg hu hd hi]

theorem wpList_want {rest : List Oper} {o : Oper} {a : Act} {w : World} {Q : Exit → Act → World → Prop} (hgd : Region.wanted o (yielded ops a.tmps) = true)
    (h : ∀ K : Act → World → Prop, (∀ a w, wpList P ops Q rest a w → K a w) → o.wp P a w K Q) : wpList P ops Q (o :: rest) a w :=
  wpList_step fun K hK => by rw [if_pos hgd]; exact h K hK

theorem wpList_load_box {rest : List Oper} {o : Oper} {a : Act} {w : World} {Q : Exit → Act → World → Prop} (hgd : Region.wanted o (yielded ops a.tmps) = true) (ty : TypeId) (x : Operand) (ho : o.op = .load ty x)
    {g : Nat} {T : TypeId} {cs : Array Value} (hg : Box w g T cs) (hx : a.eval x = .pointer (some ⟨g, 0, none⟩)) {d : TypeDesc}
    (hu : P.underlying ty = some d) (hd : (match d with | .struct _ | .array _ _ => true | _ => false) = true) (hi : (P.info? ty).map (·.size) = some cs.size)
    (h : wpList P ops Q rest (a.put o.dst (.agg cs)) w) : wpList P ops Q (o :: rest) a w :=
  wpList_want hgd fun _ hK => wp_load_row ty x ho g hx T cs (0, 0) d hg hu hd hi (hK _ _ h)

theorem wpList_store_box {rest : List Oper} {o : Oper} {a : Act} {w : World} {Q : Exit → Act → World → Prop} (hgd : Region.wanted o (yielded ops a.tmps) = true) (ty : TypeId) (x y : Operand) (ho : o.op = .store ty x y)
    {g : Nat} {T : TypeId} {old cells : Array Value} (hg : Box w g T old) (hx : a.eval x = .pointer (some ⟨g, 0, none⟩)) (hy : a.eval y = .agg cells) (hsz : old.size = cells.size)
    (hi : (P.info? ty).map (·.size) = some cells.size) (h1 : cells.all (·.oneCell') = true)
    (h : ∀ w', Box w' g T cells → Stored w w' g → wpList P ops Q rest (a.put o.dst undef) w') : wpList P ops Q (o :: rest) a w := by
  have hs := setCells_box g T cells.toList 0 w [] old.toList rfl (by simpa using hsz) (by simpa using hg)
  exact wpList_want hgd fun _ hK => wp_store_mid ty x y ho g 0 cells hx hy (hsz ▸ box_there hg) hi h1 (hK _ _ (h _ (by simpa using hs.1) hs.2))

theorem wp_store_box {o : Oper} {a : Act} {w : World} {K : Act → World → Prop} {Q : Exit → Act → World → Prop} (ty : TypeId) (x y : Operand) (ho : o.op = .store ty x y)
    {g : Nat} {T : TypeId} {old cells : Array Value} (hg : Box w g T old) (hx : a.eval x = .pointer (some ⟨g, 0, none⟩)) (hy : a.eval y = .agg cells) (hsz : old.size = cells.size)
    (hi : (P.info? ty).map (·.size) = some cells.size) (h1 : cells.all (·.oneCell') = true)
    (h : ∀ w', Box w' g T cells → Stored w w' g → K (a.put o.dst undef) w') : o.wp P a w K Q := by
  have hs := setCells_box g T cells.toList 0 w [] old.toList rfl (by simpa using hsz) (by simpa using hg)
  exact wp_store_mid ty x y ho g 0 cells hx hy (hsz ▸ box_there hg) hi h1 (h _ (by simpa using hs.1) hs.2)

theorem op_of_drop {i : Nat} {oi : Oper} {tl : List Oper} (hi : ops.toList.drop i = oi :: tl) : ops[i]? = some oi := by
  have h : (ops.toList.drop i)[0]? = some oi := by rw [hi]; rfl
  simpa using h

theorem box_result {fn : Func} {p : Tmp} {ty : TypeId} (h : fn.results = #[.cell p ty]) (tmps : Array Value) (w : World) {g : Nat} {T : TypeId} {cs : Array Value} {d : TypeDesc}
    (hp : tmps.getD p undef = .pointer (some ⟨g, 0, none⟩)) (hg : Box w g T cs) (hu : P.underlying ty = some d) (hd : (match d with | .struct _ | .array _ _ => true | _ => false) = true) (hi : (P.info? ty).map (·.size) = some cs.size) :
    (results fn tmps).run P w = .ok (.agg cs) w :=
  results_cell_row h tmps w g T cs (0, 0) d hp hg hu hd hi
theorem box_result2 {fn : Func} {p q : Tmp} {ty : TypeId} (h : fn.results = #[.cell p ty, .tmp q]) (tmps : Array Value) (w : World) {g : Nat} {T : TypeId} {cs : Array Value} {d : TypeDesc}
    (hp : tmps.getD p undef = .pointer (some ⟨g, 0, none⟩)) (hg : Box w g T cs) (hu : P.underlying ty = some d) (hd : (match d with | .struct _ | .array _ _ => true | _ => false) = true) (hi : (P.info? ty).map (·.size) = some cs.size) :
    (results fn tmps).run P w = .ok (.tuple #[.agg cs, tmps.getD q undef]) w := by
  have hp' : tmps[p]?.getD undef = .pointer (some ⟨g, 0, none⟩) := by simpa using hp
  simp [results, h, hp', asAddr, run_loadVar_row w g T ty cs (0, 0) d hg hu hd hi]
end Go.Proofs.YtkbblhioncecmaaGreatDoor
namespace Go.Proofs.YtkbblhioncecmaaGreatDoor
open Go.RowKit

/-- what the frame tells of a slice of integers that came in -/
def IsRow (k : IntKind) (w : World) (a : Option Addr) (len cap : Nat) (zs : List Int) : Prop :=
  (a = none ∧ len = 0 ∧ cap = 0 ∧ zs = []) ∨
  ∃ x, a = some x ∧ len ≤ cap ∧ cap ≤ maxLen ∧ zs.length = cap ∧ (∀ i, i < zs.length → w.cell? (x.add i) = some (.int k (zs.getD i 0))) ∧ ∀ n ∈ zs, (Lit.int k n).wf = true

/-- A slice of bytes that reads as the list l. -/
def Sl (w : World) (a : Option Addr) (len cap : Nat) (l : List UInt8) : Prop :=
  len = l.length ∧ len ≤ cap ∧ cap ≤ maxLen ∧ (a = none → cap = 0) ∧ (len = 0 ∨ ∃ b o, a = some ⟨b, o, none⟩ ∧ ∀ i, i < len → w.cell? ⟨b, o + i, none⟩ = some (.int .u8 ((l.getD i 0).toNat : Int)))

theorem Sl.mk' {w : World} {a : Option Addr} {len cap : Nat} {l : List UInt8} (h1 : len = l.length) (h2 : len ≤ cap) (h3 : cap ≤ maxLen) (h5 : a = none → cap = 0)
    (h4 : len = 0 ∨ ∃ b o, a = some ⟨b, o, none⟩ ∧ ∀ i, i < len → w.cell? ⟨b, o + i, none⟩ = some (.int .u8 ((l.getD i 0).toNat : Int))) : Sl w a len cap l := ⟨h1, h2, h3, h5, h4⟩

theorem Sl.below {w w' : World} {a : Option Addr} {len cap : Nat} {l : List UInt8} {B : Nat} (h : Sl w a len cap l) (hb : Below B w w')
    (hB : ∀ b o, len ≠ 0 → a = some ⟨b, o, none⟩ → b < B) : Sl w' a len cap l := by
  obtain ⟨h1, h2, h3, h5, h4⟩ := h
  refine ⟨h1, h2, h3, h5, ?_⟩
  rcases h4 with h4 | ⟨b, o, rfl, h4⟩
  · exact .inl h4
  · by_cases h0 : len = 0
    · exact .inl h0
    · exact .inr ⟨b, o, rfl, fun i hi => (hb.cell (hB b o h0 rfl)).trans (h4 i hi)⟩

theorem cell_lt {w : World} {b o : Nat} {v : Value} (h : w.cell? ⟨b, o, none⟩ = some v) : b < w.heap.size := by
  rcases Nat.lt_or_ge b w.heap.size with h' | h'
  · exact h'
  · simp [World.cell?, Array.getElem?_eq_none h'] at h

theorem Sl.lt {w : World} {a : Option Addr} {len cap : Nat} {l : List UInt8} (h : Sl w a len cap l) : ∀ b o, len ≠ 0 → a = some ⟨b, o, none⟩ → b < w.heap.size := by
  obtain ⟨h1, h2, h3, h5, h4⟩ := h
  intro b o h0 ha
  rcases h4 with h4 | ⟨b', o', rfl, h4⟩
  · exact absurd h4 h0
  · obtain ⟨rfl, rfl⟩ : b' = b ∧ o' = o := by simpa using ha
    exact cell_lt (h4 0 (by omega))

/-- What lay in old memory reads as before. -/
theorem Sl.after {w w' : World} {a : Option Addr} {len cap : Nat} {l : List UInt8} (h : Sl w a len cap l) (hb : Below w.heap.size w w') : Sl w' a len cap l := h.below hb h.lt

theorem Sl.drop {w : World} {b o len cap : Nat} {l : List UInt8} (n : Nat) (h : Sl w (some ⟨b, o, none⟩) len cap l) (hn : n ≤ len) :
    Sl w (if cap = n then some ⟨b, o, none⟩ else some ⟨b, o + n, none⟩) (len - n) (cap - n) (l.drop n) := by
  obtain ⟨h1, h2, h3, h5, h4⟩ := h
  refine ⟨by simp [h1], by omega, by omega, (by intro h; split at h <;> cases h), ?_⟩
  by_cases h0 : len - n = 0
  · exact .inl h0
  · right
    rcases h4 with h4 | ⟨b', o', e, h4⟩
    · omega
    · obtain ⟨rfl, rfl⟩ : b = b' ∧ o = o' := by simpa using e
      refine ⟨b, o + n, by rw [if_neg (by omega)], fun i hi => ?_⟩
      rw [Nat.add_assoc, h4 (n + i) (by omega)]
      simp [List.getD_eq_getElem?_getD, List.getElem?_drop]

theorem Sl.take {w : World} {a : Option Addr} {len cap : Nat} {l : List UInt8} (n : Nat) (h : Sl w a len cap l) (hn : n ≤ len) :
    Sl w a n cap (l.take n) := by
  obtain ⟨h1, h2, h3, h5, h4⟩ := h
  refine ⟨by simp; omega, by omega, h3, h5, ?_⟩
  by_cases h0 : n = 0
  · exact .inl h0
  · right
    rcases h4 with h4 | ⟨b', o', e, h4⟩
    · omega
    · refine ⟨b', o', e, fun i hi => ?_⟩
      rw [h4 i (by omega)]
      simp [List.getD_eq_getElem?_getD, hi]

/-- What the frame tells of a slice of bytes is that it reads as a list. -/
theorem IsRow.sl {w : World} {a : Option Addr} {len cap : Nat} {zs : List Int} (h : IsRow .u8 w a len cap zs) : ∃ l, Sl w a len cap l := by
  rcases h with ⟨rfl, rfl, rfl, rfl⟩ | ⟨x, rfl, h1, h2, h3, h4, h5⟩
  · exact ⟨[], rfl, Nat.le_refl _, Nat.zero_le _, fun _ => rfl, .inl rfl⟩
  · refine ⟨(zs.take len).map fun n => UInt8.ofNat n.toNat, by simp; omega, h1, h2, (fun h => by cases h), ?_⟩
    by_cases h0 : len = 0
    · exact .inl h0
    · right
      obtain ⟨b, o, spot⟩ := x
      have hc := h4 0 (by omega)
      have hspot : spot = none := by simpa [Addr.add] using World.cell?_spot hc
      subst hspot
      refine ⟨b, o, rfl, fun i hi => ?_⟩
      have hc := h4 i (by omega)
      replace hc := (congrArg w.cell? (Addr.add_lit b o i)).symm.trans hc
      rw [hc]
      have hlt : i < zs.length := by omega
      obtain ⟨z, hz⟩ : ∃ z, z = zs.getD i 0 := ⟨_, rfl⟩
      have hwf := h5 z (by rw [hz]; simp [List.getD_eq_getElem?_getD, hlt])
      rw [← hz]
      have hbd : 0 ≤ z ∧ z < 256 := by
        simp [Lit.wf, IntKind.min, IntKind.max, IntKind.bits, IntKind.signed] at hwf
        omega
      have e : ((zs.take len).map fun n => UInt8.ofNat n.toNat).getD i 0 = UInt8.ofNat z.toNat := by
        rw [hz]
        simp [List.getD_eq_getElem?_getD, hi, hlt]
      rw [e]
      congr 2
      simp
      omega

/-- A row that the call itself owns, as a slice that reads. -/
theorem Sl.ofOwns {w : World} {B e n : Nat} {v : Value} {l : List UInt8} (h : w.ownsRow B e 1 v n (Lib.byteCells l)) : ∃ a cap, v = .slice a n cap ∧ Sl w a n cap l := by
  have hl : l.length = n := by have := h.1; simpa [Lib.byteCells] using this
  rcases h.2 with ⟨rfl, rfl⟩ | ⟨g, cap, cur, rfl, hg, hb, hn, hm, hs, ht⟩
  · exact ⟨none, 0, rfl, hl.symm, Nat.le_refl _, Nat.zero_le _, fun _ => rfl, .inl rfl⟩
  · refine ⟨some ⟨g, 0, none⟩, cap, rfl, hl.symm, hn, hm, (fun h => by cases h), .inr ⟨g, 0, rfl, fun i hi => ?_⟩⟩
    have := h.cellAt i (by simpa using hi)
    rw [Nat.zero_add, this]
    simp [Lib.byteCells, List.getD_eq_getElem?_getD, show i < l.length by omega]

theorem byteCells_append (a b : List UInt8) : Lib.byteCells a ++ Lib.byteCells b = Lib.byteCells (a ++ b) := by simp [Lib.byteCells]
theorem byteCells_length (a : List UInt8) : (Lib.byteCells a).length = a.length := by simp [Lib.byteCells]

/-- 'append(out, x...)': out the call's own, x a slice of bytes that reads as l2, nil or empty too. -/
theorem wp_append_sl {P : Program} {w : World} {o : Oper} {a : Act} {K : Act → World → Prop} {Q : Exit → Act → World → Prop} (s x : Operand) (t : TypeId)
    (ho : o.op = .call { callee := .builtin .append, args := #[s, x], argTypes := #[t, t] })
    (base : Nat) (e : TypeId) (i : TypeInfo) (ht : P.underlying t = some (.slice e)) (hi : P.info? e = some i) (hz : i.zero = some (.int .u8 0)) (hsize : i.size = 1) (hby : i.bytes = 1)
    (v : Value) (n : Nat) (l : List UInt8) (hs : a.eval s = v) (hown : w.ownsRow base e 1 v n (Lib.byteCells l))
    (ax : Option Addr) (m c : Nat) (l2 : List UInt8) (hx : a.eval x = .slice ax m c) (hsl : Sl w ax m c l2)
    (hbytes : n + m ≤ 140737488355328) (hbase : base ≤ w.heap.size)
    (h : ∀ v' w', w'.ownsRow base e 1 v' (n + m) (Lib.byteCells (l ++ l2)) → w.grownBy w' v.ownBlock → K (a.put o.dst v') w') : o.wp P a w K Q := by
  obtain ⟨h1, h2, h3, h5, h4⟩ := hsl
  cases ax with
  | none =>
    have hc := h5 rfl
    subst hc
    obtain rfl : m = 0 := by omega
    have hl2 : l2 = [] := List.eq_nil_of_length_eq_zero h1.symm
    subst hl2
    have hrun := run_append_owned_none (P := P) (w := w) base t o.type e i 1 ht hi v n _ hown
    unfold Oper.wp
    simp [execOp, ho, resolve, invoke, builtin, hs, hx, hrun, Result.andThen]
    exact h v w (by simpa using hown) (World.grownBy.refl w _)
  | some ad =>
    refine wp_append_own w s x t ho base e i (.int .u8 0) 1 1 ht hi hz hsize hby rfl (by decide) v n _ hs hown ad m c (Lib.byteCells l2) hx (by simp [Lib.byteCells, h1]) ?_ ?_ (by unfold maxLen; omega) (by omega) hbase ?_
    · intro j u hj
      rcases h4 with h4 | ⟨b, o', e', h4⟩
      · have hl2 : l2 = [] := List.eq_nil_of_length_eq_zero (by omega)
        subst hl2
        simp [Lib.byteCells] at hj
      · obtain rfl := Option.some.inj e'
        have hlt : j < l2.length := by
          rcases Nat.lt_or_ge j l2.length with h' | h'
          · exact h'
          · simp [Lib.byteCells, List.getElem?_eq_none h'] at hj
        simp [Lib.byteCells, hlt] at hj
        rw [Addr.add_lit, h4 j (by omega), ← hj]
        simp [List.getD_eq_getElem?_getD, hlt]
    · intro u hu
      obtain ⟨_, _, rfl⟩ := List.mem_map.1 hu
      rfl
    · intro v' w' ho' hg' _
      exact h v' w' (by rw [← byteCells_append]; exact ho') hg'

theorem wpList_append_sl {P : Program} {w : World} {ops : Array Oper} {rest : List Oper} {o : Oper} {a : Act} {Q : Exit → Act → World → Prop} (hgd : o.guard = none) (s x : Operand) (t : TypeId)
    (ho : o.op = .call { callee := .builtin .append, args := #[s, x], argTypes := #[t, t] })
    (base : Nat) (e : TypeId) (i : TypeInfo) (ht : P.underlying t = some (.slice e)) (hi : P.info? e = some i) (hz : i.zero = some (.int .u8 0)) (hsize : i.size = 1) (hby : i.bytes = 1)
    (v : Value) (n : Nat) (l : List UInt8) (hs : a.eval s = v) (hown : w.ownsRow base e 1 v n (Lib.byteCells l))
    (ax : Option Addr) (m c : Nat) (l2 : List UInt8) (hx : a.eval x = .slice ax m c) (hsl : Sl w ax m c l2)
    (hbytes : n + m ≤ 140737488355328) (hbase : base ≤ w.heap.size)
    (h : ∀ v' w', w'.ownsRow base e 1 v' (n + m) (Lib.byteCells (l ++ l2)) → w.grownBy w' v.ownBlock → wpList P ops Q rest (a.put o.dst v') w') : wpList P ops Q (o :: rest) a w :=
  wpList_plain hgd fun _ hK => wp_append_sl s x t ho base e i ht hi hz hsize hby v n l hs hown ax m c l2 hx hsl hbytes hbase fun v' w' h2 h3 => hK _ _ (h v' w' h2 h3)

end Go.Proofs.YtkbblhioncecmaaGreatDoor
namespace Go.Proofs.YtkbblhioncecmaaGreatDoor
open Go.RowKit

theorem foldl_push (l : List UInt8) : ∀ s : ByteArray, (l.map fun c => (c.toNat : Int)).foldl (fun r n => r.push (UInt8.ofNat n.toNat)) s = ⟨s.data ++ l.toArray⟩ := by
  induction l with
  | nil => intro s; simp
  | cons a t ih =>
    intro s
    simp only [List.map_cons, List.foldl_cons]
    rw [ih]
    apply ByteArray.ext
    show (s.data.push (UInt8.ofNat ((a.toNat : Int).toNat))) ++ t.toArray = s.data ++ (a :: t).toArray
    simp [UInt8.ofNat_toNat]

/-- 'string(b)' -/
theorem conv_sl {w : World} {a : Option Addr} {len cap : Nat} {l : List UInt8} (h : Sl w a len cap l) :
    (convert 23 9 (.slice a len cap)).run Tryz.prog w = .ok (.string ⟨l.toArray⟩) w := by
  rw [run_convert_bytes_string w 23 9 5 a len cap Tryz.underlying23 Tryz.underlying5 Tryz.underlying9]
  obtain ⟨h1, h2, h3, h5, h4⟩ := h
  cases a with
  | none =>
    have hc := h5 rfl
    have : l = [] := List.eq_nil_of_length_eq_zero (by omega)
    subst this
    rfl
  | some ad =>
    rw [run_bytesToString w ad len cap (l.map fun c => (c.toNat : Int))]
    · rw [foldl_push]; simp [ByteArray.empty, ByteArray.emptyWithCapacity]; rfl
    · have hh := run_loadCells_list (P := Tryz.prog) (w := w) ad (l.map fun c => Value.int .u8 (c.toNat : Int)) ?_
      · rw [show ((l.map fun c => (c.toNat : Int)).map (Value.int .u8)) = l.map fun c => Value.int .u8 (c.toNat : Int) by simp]
        rw [← hh, h1]; simp
      · intro j v hj
        rcases h4 with h4 | ⟨b, o, e, h4⟩
        · have : l = [] := List.eq_nil_of_length_eq_zero (by omega)
          subst this
          simp at hj
        · obtain rfl := Option.some.inj e
          have hlt : j < l.length := by
            rcases Nat.lt_or_ge j l.length with h' | h'
            · exact h'
            · simp [List.getElem?_eq_none h'] at hj
          simp [hlt] at hj
          rw [Addr.add_lit, h4 j (by omega), ← hj]
          simp [List.getD_eq_getElem?_getD, hlt]

/-- A block of bytes, known whole: its first cells are the list; its row may be written. -/
def Blk (w : World) (g : Nat) (l : List UInt8) : Prop :=
  ∃ cur fr, w.heap[g]? = some (.cells cur 5 fr) ∧ (fr = (0, 0) ∨ fr = (cur.size, cur.size + 1)) ∧ l.length ≤ cur.size ∧ cur.size ≤ maxLen ∧ ∀ j, j < l.length → cur[j]? = some (.int .u8 ((l.getD j 0).toNat : Int))

theorem Blk.cell {w : World} {g : Nat} {l : List UInt8} (h : Blk w g l) (j : Nat) (hj : j < l.length) : w.cell? ⟨g, j, none⟩ = some (.int .u8 ((l.getD j 0).toNat : Int)) := by
  obtain ⟨cur, fr, hb, _, _, _, hc⟩ := h
  simp only [World.cell?, hb]
  simpa using hc j hj

theorem Blk.frozen {w : World} {g : Nat} {l : List UInt8} (h : Blk w g l) (j : Nat) (hj : j < l.length) : w.frozen? ⟨g, j, none⟩ = false := by
  obtain ⟨cur, fr, hb, hf, hl, _, hc⟩ := h
  simp only [World.frozen?, hb]
  rcases hf with rfl | rfl <;> simp <;> omega

theorem Blk.lt {w : World} {g : Nat} {l : List UInt8} (h : Blk w g l) : g < w.heap.size := by
  obtain ⟨cur, fr, hb, _⟩ := h
  rcases Nat.lt_or_ge g w.heap.size with h' | h'
  · exact h'
  · simp [Array.getElem?_eq_none h'] at hb

theorem Blk.set {w : World} {g : Nat} {l : List UInt8} (h : Blk w g l) (j : Nat) (c : UInt8) (hj : j < l.length) : Blk (w.setCell ⟨g, j, none⟩ (.int .u8 (c.toNat : Int))) g (l.set j c) := by
  obtain ⟨cur, fr, hb, hf, hl, hm, hc⟩ := h
  refine ⟨cur.setIfInBounds j (.int .u8 (c.toNat : Int)), fr, ?_, by simpa using hf, by simpa using hl, by simpa using hm, ?_⟩
  · simp [World.setCell, Array.getElem?_modify, hb]
  · intro i hi
    simp only [List.length_set] at hi
    by_cases e : j = i
    · subst e
      simp [List.getD_eq_getElem?_getD, hi, show j < cur.size by omega]
    · have := hc i hi
      simp only [List.getD_eq_getElem?_getD] at this ⊢
      rw [Array.getElem?_setIfInBounds_ne e, this, List.getElem?_set_ne e]

theorem Blk.below {w w' : World} {g : Nat} {l : List UInt8} (h : Blk w g l) {B : Nat} (hb : Below B w w') (hg : g < B) : Blk w' g l := by
  obtain ⟨cur, fr, h1, h2⟩ := h
  exact ⟨cur, fr, (hb.block g hg).trans h1, h2⟩

theorem Blk.sl {w : World} {g : Nat} {l : List UInt8} (h : Blk w g l) (cap : Nat) (h1 : l.length ≤ cap) (h2 : cap ≤ maxLen) : Sl w (some ⟨g, 0, none⟩) l.length cap l := by
  refine ⟨rfl, h1, h2, (fun h => by cases h), .inr ⟨g, 0, rfl, fun i hi => ?_⟩⟩
  rw [Nat.zero_add]
  exact h.cell i hi

/-- '[]byte(s)' -/
theorem conv_str (w : World) (s : ByteArray) (hs : s.size ≤ 140737488355328) : ∃ c w', (convert 9 23 (.string s)).run Tryz.prog w = .ok (.slice (some ⟨w.heap.size, 0, none⟩) s.size c) w' ∧
    Blk w' w.heap.size s.data.toList ∧ s.size ≤ c ∧ c ≤ maxLen ∧ Below w.heap.size w w' := by
  refine ⟨_, _, Lib.run_convert_string_bytes w 9 23 5 s Tryz.underlying9 Tryz.underlying23 Tryz.underlying5, ?_, grownCap_ge _ _ _ _, grownCap_le_maxLen _ _ _ _ (by unfold maxLen; omega), ?_⟩
  · have hn := Lib.bytesWorld_at_new w 5 s
    have hsz : (Lib.bytesCells w 5 s).size = grownCap w s.size 0 5 := by
      have := grownCap_ge w s.size 0 5
      simp [Lib.bytesCells]
      have : s.data.size = s.size := rfl
      omega
    refine ⟨_, _, hn, .inr rfl, ?_, ?_, ?_⟩
    · rw [hsz]; simpa using grownCap_ge w s.size 0 5
    · rw [hsz]; exact grownCap_le_maxLen _ _ _ _ (by unfold maxLen; omega)
    · intro j hj
      have hj2 : j < s.size := by simpa using hj
      simp [Lib.bytesCells, Array.getElem?_append, hj2, List.getD_eq_getElem?_getD]
  · refine ⟨?_, ?_, ?_, ?_, ?_⟩
    · simp [Lib.bytesWorld, World.freeze, World.alloc, World.drew, -World.alloc_eq, -World.drew_eq]
    · simp [Lib.bytesWorld, World.freeze, World.alloc, World.drew, -World.alloc_eq, -World.drew_eq]
    · simp [Lib.bytesWorld, World.freeze, World.alloc, World.drew, -World.alloc_eq, -World.drew_eq]
    · simp [Lib.bytesWorld, World.freeze, World.alloc, World.drew, -World.alloc_eq, -World.drew_eq]
    · intro k hk; exact Lib.bytesWorld_at_old w 5 s k hk
end Go.Proofs.YtkbblhioncecmaaGreatDoor
namespace Go.Proofs.YtkbblhioncecmaaGreatDoor
open Go.RowKit

end Go.Proofs.YtkbblhioncecmaaGreatDoor
namespace Go.Proofs.YtkbblhioncecmaaGreatDoor
open Go.RowKit

variable {P : Program} {ops : Array Oper}

end Go.Proofs.YtkbblhioncecmaaGreatDoor
namespace Go.Proofs.YtkbblhioncecmaaGreatDoor
open Go.RowKit

variable {P : Program} {ops : Array Oper}

end Go.Proofs.YtkbblhioncecmaaGreatDoor
namespace Go.Proofs.YtkbblhioncecmaaGreatDoor
open Go.RowKit

variable {P : Program} {ops : Array Oper}

theorem run_alloc_box {o : Oper} {a : Act} {w : World} {ty : TypeId} (ho : o.op = .alloc ty) (cells : Array Value)
    (hr : (Instr.alloc ty true (.tuple #[])).run P w = .ok (.pointer (some ⟨w.heap.size, 0, none⟩)) (w.alloc (.cells cells ty))) :
    (execOp a.eval o).run P w = .ok (.value (.pointer (some ⟨w.heap.size, 0, none⟩))) (w.alloc (.cells cells ty)) := by
  unfold execOp
  simp only [ho, Sem.run_bind, Sem.run_pure, Result.andThen_ok, hr]

end Go.Proofs.YtkbblhioncecmaaGreatDoor
namespace Go.Proofs.YtkbblhioncecmaaGreatDoor
open Go.RowKit

/-- a tree: a list's mark, a hint's mark, the hint, the data, the values within -/
inductive Sx where
  | mk (l h : Bool) (hi da : List UInt8) (ks : List Sx)

instance : Inhabited Sx := ⟨.mk false false [] [] []⟩

def Sx.l : Sx → Bool | .mk l _ _ _ _ => l
def Sx.h : Sx → Bool | .mk _ h _ _ _ => h
def Sx.hi : Sx → List UInt8 | .mk _ _ x _ _ => x
def Sx.da : Sx → List UInt8 | .mk _ _ _ x _ => x
def Sx.ks : Sx → List Sx | .mk _ _ _ _ x => x

/-- what holds of a tree if it holds of one whose parts all have it, holds of all -/
theorem Sx.ind {p : Sx → Prop} (h : ∀ l hh hi da ks, (∀ k ∈ ks, p k) → p (.mk l hh hi da ks)) (s : Sx) : p s :=
  Sx.rec (motive_1 := p) (motive_2 := fun ks => ∀ k ∈ ks, p k) (fun l hh hi da ks ih => h l hh hi da ks ih) (fun k hk => by cases hk)
    (fun k ks hk ih j hj => by
      rcases List.mem_cons.1 hj with rfl | hj
      · exact hk
      · exact ih j hj) s

/-- the five cells of a value -/
structure SV where
  l : Bool
  h : Bool
  a1 : Option Addr
  n1 : Nat
  c1 : Nat
  a2 : Option Addr
  n2 : Nat
  c2 : Nat
  a3 : Option Addr
  n3 : Nat
  c3 : Nat
def SV.cells (v : SV) : Array Value := #[.bool v.l, .bool v.h, .slice v.a1 v.n1 v.c1, .slice v.a2 v.n2 v.c2, .slice v.a3 v.n3 v.c3]
def SV.val (v : SV) : Value := .agg #[.bool v.l, .bool v.h, .slice v.a1 v.n1 v.c1, .slice v.a2 v.n2 v.c2, .slice v.a3 v.n3 v.c3]
def SV.nil : SV := ⟨false, false, none, 0, 0, none, 0, 0, none, 0, 0⟩
instance : Inhabited SV := ⟨SV.nil⟩
theorem SV.cells_size (v : SV) : v.cells.size = 5 := rfl

/-- what a slice reads lies in blocks that are ok -/
def InB (ok : Nat → Prop) (a : Option Addr) (n : Nat) : Prop := n = 0 ∨ ∀ b o s, a = some ⟨b, o, s⟩ → ok b
theorem InB.mono {ok ok' : Nat → Prop} {a : Option Addr} {n : Nat} (h : InB ok a n) (hm : ∀ b, ok b → ok' b) : InB ok' a n :=
  h.imp id fun h b o s e => hm b (h b o s e)

/-- a row of values: the cells of each -/
def RowAt (w : World) (a : Option Addr) (n c : Nat) (K : Nat → SV) : Prop :=
  n ≤ c ∧ c ≤ maxLen ∧ (a = none → c = 0) ∧ (n = 0 ∨ ∃ b o, a = some ⟨b, o, none⟩ ∧ ∀ i, i < n → ∀ j v, (K i).cells[j]? = some v → w.cell? ⟨b, o + i * 5 + j, none⟩ = some v)

/-- a value reads as a tree, through blocks that are ok -/
inductive RdI (ok : Nat → Prop) (w : World) : SV → Sx → Prop
  | mk (v : SV) (hi da : List UInt8) (ks : List Sx) (K : Nat → SV) : Sl w v.a1 v.n1 v.c1 hi → InB ok v.a1 v.n1 → Sl w v.a2 v.n2 v.c2 da → InB ok v.a2 v.n2 →
      RowAt w v.a3 v.n3 v.c3 K → InB ok v.a3 v.n3 → v.n3 = ks.length → (∀ i (hi : i < ks.length), RdI ok w (K i) ks[i]) → RdI ok w v (.mk v.l v.h hi da ks)
abbrev Rd (w : World) (v : SV) (s : Sx) : Prop := RdI (fun _ => True) w v s

theorem RdI.parts {ok : Nat → Prop} {w : World} {v : SV} {s : Sx} (h : RdI ok w v s) :
    v.l = s.l ∧ v.h = s.h ∧ Sl w v.a1 v.n1 v.c1 s.hi ∧ Sl w v.a2 v.n2 v.c2 s.da ∧ v.n3 = s.ks.length ∧ v.n3 ≤ v.c3 ∧ v.c3 ≤ maxLen ∧
    ∃ K, RowAt w v.a3 v.n3 v.c3 K ∧ ∀ i (hi : i < s.ks.length), RdI ok w (K i) s.ks[i] := by
  cases h with
  | mk v hi da ks K h1 h2 h3 h4 h5 h6 h7 h8 => exact ⟨rfl, rfl, h1, h3, h7, h5.1, h5.2.1, K, h5, h8⟩

theorem RdI.inb {ok : Nat → Prop} {w : World} {v : SV} {s : Sx} (h : RdI ok w v s) : InB ok v.a1 v.n1 ∧ InB ok v.a2 v.n2 ∧ InB ok v.a3 v.n3 := by
  cases h with
  | mk v hi da ks K h1 h2 h3 h4 h5 h6 h7 h8 => exact ⟨h2, h4, h6⟩
theorem SV.one (v : SV) : v.cells.all (·.oneCell') = true := by simp [SV.cells, Value.oneCell']

theorem RowAt.keep {w w' : World} {a : Option Addr} {n c : Nat} {K : Nat → SV} (h : RowAt w a n c K) (hk : n = 0 ∨ ∀ b o s, a = some ⟨b, o, s⟩ → w'.heap[b]? = w.heap[b]?) : RowAt w' a n c K := by
  obtain ⟨h1, h2, h3, h4⟩ := h
  refine ⟨h1, h2, h3, ?_⟩
  rcases h4 with h4 | ⟨b, o, rfl, h4⟩
  · exact .inl h4
  · rcases hk with hk | hk
    · exact .inl hk
    · exact .inr ⟨b, o, rfl, fun i hi j v hv => (World.cell?_of_block (a := ⟨b, o + i * 5 + j, none⟩) (hk b o none rfl)).trans (h4 i hi j v hv)⟩

theorem Sl.keep {w w' : World} {a : Option Addr} {n c : Nat} {l : List UInt8} (h : Sl w a n c l) (hk : n = 0 ∨ ∀ b o s, a = some ⟨b, o, s⟩ → w'.heap[b]? = w.heap[b]?) : Sl w' a n c l := by
  obtain ⟨h1, h2, h3, h5, h4⟩ := h
  refine ⟨h1, h2, h3, h5, ?_⟩
  rcases h4 with h4 | ⟨b, o, rfl, h4⟩
  · exact .inl h4
  · rcases hk with hk | hk
    · exact .inl hk
    · exact .inr ⟨b, o, rfl, fun i hi => (World.cell?_of_block (a := ⟨b, o + i, none⟩) (hk b o none rfl)).trans (h4 i hi)⟩

theorem InB.heap {ok : Nat → Prop} {w w' : World} {a : Option Addr} {n : Nat} (h : InB ok a n) (hk : ∀ b, ok b → w'.heap[b]? = w.heap[b]?) : n = 0 ∨ ∀ b o s, a = some ⟨b, o, s⟩ → w'.heap[b]? = w.heap[b]? :=
  h.imp id fun h b o s e => hk b (h b o s e)

/-- what lies in blocks that are as they were reads as it did -/
theorem RdI.keep {ok : Nat → Prop} {w w' : World} {v : SV} {s : Sx} (h : RdI ok w v s) (hk : ∀ b, ok b → w'.heap[b]? = w.heap[b]?) : RdI ok w' v s := by
  induction h with
  | mk v hi da ks K h1 h2 h3 h4 h5 h6 h7 h8 ih => exact .mk v hi da ks K (h1.keep (h2.heap hk)) h2 (h3.keep (h4.heap hk)) h4 (h5.keep (h6.heap hk)) h6 h7 ih

theorem RdI.mono {ok ok' : Nat → Prop} {w : World} {v : SV} {s : Sx} (h : RdI ok w v s) (hm : ∀ b, ok b → ok' b) : RdI ok' w v s := by
  induction h with
  | mk v hi da ks K h1 h2 h3 h4 h5 h6 h7 h8 ih => exact .mk v hi da ks K h1 (h2.mono hm) h3 (h4.mono hm) h5 (h6.mono hm) h7 ih

theorem RowAt.lt {w : World} {a : Option Addr} {n c : Nat} {K : Nat → SV} (h : RowAt w a n c K) : InB (fun b => b < w.heap.size) a n := by
  by_cases h0 : n = 0
  · exact .inl h0
  · rcases h.2.2.2 with h4 | ⟨b, o, rfl, h4⟩
    · exact absurd h4 h0
    · refine .inr fun b' o' s e => ?_
      cases e
      exact cell_lt (h4 0 (by omega) 0 _ rfl)

theorem Sl.inB {w : World} {a : Option Addr} {n c : Nat} {l : List UInt8} (h : Sl w a n c l) : InB (fun b => b < w.heap.size) a n := by
  by_cases h0 : n = 0
  · exact .inl h0
  · rcases h.2.2.2.2 with h4 | ⟨b, o, rfl, h4⟩
    · exact absurd h4 h0
    · refine .inr fun b' o' s e => ?_
      cases e
      exact cell_lt (h4 0 (by omega))

theorem InB.both {p q : Nat → Prop} {a : Option Addr} {n : Nat} (h : InB p a n) (h' : InB q a n) : InB (fun b => p b ∧ q b) a n := by
  rcases h with h | h
  · exact .inl h
  · rcases h' with h' | h'
    · exact .inl h'
    · exact .inr fun b o s e => ⟨h b o s e, h' b o s e⟩

/-- it reads through blocks that are there -/
theorem RdI.there {ok : Nat → Prop} {w : World} {v : SV} {s : Sx} (h : RdI ok w v s) : RdI (fun b => ok b ∧ b < w.heap.size) w v s := by
  induction h with
  | mk v hi da ks K h1 h2 h3 h4 h5 h6 h7 h8 ih => exact .mk v hi da ks K h1 (h2.both h1.inB) h3 (h4.both h3.inB) h5 (h6.both h5.lt) h7 ih

theorem RdI.after {ok : Nat → Prop} {w w' : World} {v : SV} {s : Sx} (h : RdI ok w v s) (hb : Below w.heap.size w w') : RdI ok w' v s :=
  (h.there.keep fun b hb' => hb.block b hb'.2).mono fun _ h => h.1
theorem RdI.drew {ok : Nat → Prop} {w : World} {v : SV} {s : Sx} (h : RdI ok w v s) : RdI ok w.drew v s := h.keep fun _ _ => rfl
theorem RowAt.after {w w' : World} {a : Option Addr} {n c : Nat} {K : Nat → SV} (h : RowAt w a n c K) (hb : Below w.heap.size w w') : RowAt w' a n c K :=
  h.keep (h.lt.imp id fun h b o s e => hb.block b (h b o s e))

/-- a value within a row, as cells in the midst of a block -/
theorem RowAt.range {w : World} {a : Option Addr} {n c : Nat} {K : Nat → SV} (h : RowAt w a n c K) {i : Nat} (hi : i < n) :
    ∃ b o, a = some ⟨b, o, none⟩ ∧ w.rangeAt b (o + i * 5) (K i).cells.toList := by
  rcases h.2.2.2 with h4 | ⟨b, o, rfl, h4⟩
  · omega
  · exact ⟨b, o, rfl, fun j v hv => h4 i hi j v (by simpa using hv)⟩

/-- the tree of no value -/
def Sx.nil : Sx := .mk false false [] [] []
theorem Sl.nil (w : World) : Sl w none 0 0 [] := ⟨rfl, Nat.le_refl _, Nat.zero_le _, fun _ => rfl, .inl rfl⟩
theorem rd_nil (ok : Nat → Prop) (w : World) : RdI ok w SV.nil Sx.nil :=
  .mk SV.nil [] [] [] (fun _ => SV.nil) (Sl.nil w) (.inl rfl) (Sl.nil w) (.inl rfl) ⟨Nat.le_refl _, Nat.zero_le _, fun _ => rfl, .inl rfl⟩ (.inl rfl) rfl (fun i hi => by cases hi)
end Go.Proofs.YtkbblhioncecmaaGreatDoor
namespace Go.Proofs.YtkbblhioncecmaaGreatDoor
open Go.RowKit

mutual
def Sx.nodes : Sx → Nat
  | .mk _ _ _ _ ks => 1 + Sx.nodesL ks
def Sx.nodesL : List Sx → Nat
  | [] => 0
  | k :: r => k.nodes + Sx.nodesL r
end
theorem Sx.nodesL_append (a b : List Sx) : Sx.nodesL (a ++ b) = Sx.nodesL a + Sx.nodesL b := by
  induction a with
  | nil => simp [Sx.nodesL]
  | cons k a ih => simp [Sx.nodesL, ih]; omega
theorem Sx.nodesL_snoc (ks : List Sx) (k : Nat) (h : k < ks.length) : Sx.nodesL (ks.take (k + 1)) = Sx.nodesL (ks.take k) + ks[k].nodes := by
  rw [List.take_succ_eq_append_getElem h, Sx.nodesL_append]
  simp [Sx.nodesL]

theorem wrap_two (a b : Int) : wrap64 (wrap64 a + wrap64 b) = wrap64 (a + b) := by unfold wrap64; omega
theorem wrap_of (a : Int) (h : -9223372036854775808 ≤ a ∧ a < 9223372036854775808) : wrap64 a = a := by unfold wrap64; omega

/-- a value within a row is loaded -/
theorem wpList_load_sv {ops : Array Oper} {rest : List Oper} {o : Oper} {a : Act} {w : World} {Q : Exit → Act → World → Prop} (hgd : o.guard = none) (x : Operand) (ho : o.op = .load 26 x)
    (b k : Nat) (hx : a.eval x = .pointer (some ⟨b, k, none⟩)) (v : SV) (hc : w.rangeAt b k v.cells.toList) (h : wpList Tryz.prog ops Q rest (a.put o.dst v.val) w) : wpList Tryz.prog ops Q (o :: rest) a w :=
  wpList_load_mid hgd 26 x ho b k hx _ _ hc Tryz.underlying26 rfl (by kernel_rfl) h

set_option maxHeartbeats 1000000 in
set_option maxRecDepth 100000 in
theorem nodes_any (s : Sx) : ∀ (v : SV) (w : World), Rd w v s → Calls Tryz.prog 51 #[v.val] w fun e w' => e = .returned (.int .i64 (wrap64 (s.nodes : Int))) ∧ Below w.heap.size w w' := by
  induction s using Sx.ind with
  | h l hh hi da ks ih =>
  intro v w hr
  obtain ⟨hvl, hvh, _, _, hn, hnc, hcm, K, hrow, hk⟩ := hr.parts
  obtain ⟨vl, vh, a1, n1, c1, a2, n2, c2, a3, n3, c3⟩ := v
  dsimp only at hn hnc hcm hrow hk
  replace hn : n3 = ks.length := hn
  replace hk : ∀ i (hi : i < ks.length), RdI (fun _ => True) w (K i) ks[i] := hk
  have IH := Lib.hid ih
  have HK := Lib.hid hk
  have HR := Lib.hid hrow
  clear ih hk hrow hr hvl hvh
  subst hn
  have hb0 : Below w.heap.size w (w.alloc (.cells #[.bool vl, .bool vh, .slice a1 n1 c1, .slice a2 n2 c2, .slice a3 ks.length c3] 26)) := (Below.refl _ _).alloc (Nat.le_refl _) _
  have hx0 := Box.new w 26 #[.bool vl, .bool vh, .slice a1 n1 c1, .slice a2 n2 c2, .slice a3 ks.length c3]
  unfold maxLen at hcm
  show Calls _ _ #[.agg #[.bool vl, .bool vh, .slice a1 n1 c1, .slice a2 n2 c2, .slice a3 ks.length c3]] _ _
  go_enter Tryz.func51, Tryz.ntmps51
  go_wp2_with fail
  go_loopw [3, 4, 8] (fun s i k wr => ∃ n : Nat, n ≤ ks.length ∧ k = .int .i64 n ∧ s = .int .i64 (wrap64 (1 + (Sx.nodesL (ks.take n) : Int))) ∧ Below w.heap.size w wr ∧ Box wr w.heap.size 26 #[.bool vl, .bool vh, .slice a1 n1 c1, .slice a2 n2 c2, .slice a3 ks.length c3]) (fun _ _ k _ => ks.length - (intOf k).toNat)
  case atStart => exact ⟨0, Nat.zero_le _, rfl, by simp [Sx.nodesL, wrap_of], hb0, hx0⟩
  case round =>
    obtain ⟨n, hnl, rfl, rfl, hb, hx⟩ := hrel
    have c4 := hx.cell 4 rfl
    by_cases hlt : n < ks.length
    · obtain ⟨b, o, rfl, hld⟩ := (HR.out.after hb).range hlt
      have HL := Lib.hid hld
      clear hld
      have hrd := (HK.out n hlt).after hb
      have HRd := Lib.hid hrd
      clear hrd
      go_wp2_with (refine wpList_load_sv rfl _ rfl b _ rfl _ HL.out ?_)
      refine (IH.out _ (List.getElem_mem hlt) _ _ HRd.out).mono ?_
      rintro e w1 ⟨rfl, hb1⟩
      have HB := hb.trans (hb1.mono hb.size)
      have HX := hx.after hb1
      have HS := Lib.hid (Sx.nodesL_snoc ks n hlt)
      go_wp2_with fail
      go_roundw
      case rel => exact ⟨n + 1, by omega, by go_num, by rw [HS.out]; exact congrArg _ (by rw [wrap_two]; congr 1; simp; omega), HB, HX⟩
      case measure => simp [intOf]; omega
    · go_wp2_with fail
      go_ret
      have : n = ks.length := by omega
      subst this
      exact ⟨by simp [Sx.nodes], hb⟩
end Go.Proofs.YtkbblhioncecmaaGreatDoor
namespace Go.Proofs.YtkbblhioncecmaaGreatDoor
open Go.RowKit

mutual
def Sx.deep : Sx → Nat
  | .mk l _ _ _ ks => if l then Sx.deepL ks + 1 else 0
def Sx.deepL : List Sx → Nat
  | [] => 0
  | k :: r => max k.deep (Sx.deepL r)
end
mutual
def Sx.clean : Sx → Bool
  | .mk l h hi da ks => (if l then !h && hi.length == 0 && da.length == 0 else ks.length == 0 && (h || hi.length == 0)) && Sx.cleanL ks
def Sx.cleanL : List Sx → Bool
  | [] => true
  | k :: r => k.clean && Sx.cleanL r
end
mutual
/-- 'Great' but for the number of all values -/
def Sx.wide : Sx → Nat → Bool
  | .mk _ _ hi da ks, at_ => decide (60 < at_) || decide (700 < ks.length) || decide (5000 < hi.length) || decide (5000 < da.length) || Sx.wideL ks (at_ + 1)
def Sx.wideL : List Sx → Nat → Bool
  | [], _ => false
  | k :: r, at_ => k.wide at_ || Sx.wideL r at_
end
theorem Sx.deepL_snoc (ks : List Sx) (k : Nat) (h : k < ks.length) : Sx.deepL (ks.take (k + 1)) = max (Sx.deepL (ks.take k)) ks[k].deep := by
  induction ks generalizing k with
  | nil => simp at h
  | cons a r ih =>
    cases k with
    | zero => simp [Sx.deepL]
    | succ k => simp only [List.take_succ_cons, Sx.deepL, List.getElem_cons_succ]; rw [ih k (by simpa using h)]; omega
theorem Sx.deepL_mem {ks : List Sx} {k : Sx} (h : k ∈ ks) : k.deep ≤ Sx.deepL ks := by
  induction ks with
  | nil => cases h
  | cons a r ih => rcases List.mem_cons.1 h with rfl | h
                   · simp only [Sx.deepL]; omega
                   · have := ih h; simp only [Sx.deepL]; omega
theorem Sx.deepL_take (ks : List Sx) (k : Nat) : Sx.deepL (ks.take k) ≤ Sx.deepL ks := by
  induction ks generalizing k with
  | nil => simp
  | cons a r ih => cases k with
    | zero => simp [Sx.deepL]
    | succ k => have := ih k; simp only [List.take_succ_cons, Sx.deepL]; omega
theorem Sx.cleanL_snoc (ks : List Sx) (k : Nat) (h : k < ks.length) : Sx.cleanL (ks.take (k + 1)) = (Sx.cleanL (ks.take k) && ks[k].clean) := by
  induction ks generalizing k with
  | nil => simp at h
  | cons a r ih =>
    cases k with
    | zero => simp [Sx.cleanL]
    | succ k => simp only [List.take_succ_cons, Sx.cleanL, List.getElem_cons_succ]; rw [ih k (by simpa using h), Bool.and_assoc]
theorem Sx.cleanL_no {ks : List Sx} {k : Sx} (h : k ∈ ks) (hk : k.clean = false) : Sx.cleanL ks = false := by
  induction ks with
  | nil => cases h
  | cons a r ih => rcases List.mem_cons.1 h with rfl | h
                   · simp [Sx.cleanL, hk]
                   · simp [Sx.cleanL, ih h]
theorem Sx.wideL_yes {ks : List Sx} {k : Sx} {m : Nat} (h : k ∈ ks) (hk : k.wide m = true) : Sx.wideL ks m = true := by
  induction ks with
  | nil => cases h
  | cons a r ih => rcases List.mem_cons.1 h with rfl | h
                   · simp [Sx.wideL, hk]
                   · simp [Sx.wideL, ih h]

set_option maxHeartbeats 2000000 in
set_option maxRecDepth 100000 in
theorem deep_any (s : Sx) : ∀ (v : SV) (w : World), Rd w v s → s.deep ≤ 4611686018427387904 → Calls Tryz.prog 52 #[v.val] w fun e w' => e = .returned (.int .i64 (s.deep : Int)) ∧ Below w.heap.size w w' := by
  induction s using Sx.ind with
  | h l hh hi da ks ih =>
  intro v w hr hd
  have HRR := Lib.hid hr
  obtain ⟨hvl, hvh, hs1, hs2, hn, hnc, hcm, K, hrow, hk⟩ := hr.parts
  obtain ⟨vl, vh, a1, n1, k1, a2, n2, k2, a3, n3, k3⟩ := v
  dsimp only at hn hnc hcm hrow hk hvl hvh hs1 hs2
  obtain rfl : vl = l := hvl
  obtain rfl : vh = hh := hvh
  replace hn : n3 = ks.length := hn
  replace hs1 : Sl w a1 n1 k1 hi := hs1
  replace hs2 : Sl w a2 n2 k2 da := hs2
  replace hk : ∀ i (hi : i < ks.length), RdI (fun _ => True) w (K i) ks[i] := hk
  obtain ⟨l1, hl1⟩ : ∃ l1, l1 = hi := ⟨_, rfl⟩
  have hn1 := hs1.1
  have hn2 := hs2.1
  have hm1 := hs1.2.1
  have hm2 := hs2.2.1
  have hx1 := hs1.2.2.1
  have hx2 := hs2.2.2.1
  have IH := Lib.hid ih
  have HK := Lib.hid hk
  have HR := Lib.hid hrow
  have HS1 := Lib.hid hs1
  have HS2 := Lib.hid hs2
  have HN1 := Lib.hid hn1
  have HN2 := Lib.hid hn2
  clear ih hk hrow hr hs1 hs2 hn1 hn2 hl1
  subst hn
  unfold maxLen at hcm hx1 hx2
  have HD := Lib.hid hd
  clear hd
  have hb0 : Below w.heap.size w (w.alloc (.cells #[.bool vl, .bool vh, .slice a1 n1 k1, .slice a2 n2 k2, .slice a3 ks.length k3] 26)) := (Below.refl _ _).alloc (Nat.le_refl _) _
  have hx0 := Box.new w 26 #[.bool vl, .bool vh, .slice a1 n1 k1, .slice a2 n2 k2, .slice a3 ks.length k3]
  cases vl with
  | false =>
    have c0 := hx0.cell 0 rfl
    show Calls _ _ #[.agg #[.bool false, .bool vh, .slice a1 n1 k1, .slice a2 n2 k2, .slice a3 ks.length k3]] _ _
    go_enter Tryz.func52, Tryz.ntmps52
    go_wp2_with fail
    go_ret
    exact ⟨by simp [Sx.deep], hb0⟩
  | true =>
    have hdL : Sx.deepL ks < 4611686018427387904 := by have := HD.out; simp only [Sx.deep, if_true] at this; omega
    have c0 := hx0.cell 0 rfl
    have c4 := hx0.cell 4 rfl
    show Calls _ _ #[.agg #[.bool true, .bool vh, .slice a1 n1 k1, .slice a2 n2 k2, .slice a3 ks.length k3]] _ _
    go_enter Tryz.func52, Tryz.ntmps52
    go_wp2_with fail
    go_loopw [3, 4, 11] (fun s i k wr => ∃ n : Nat, n ≤ ks.length ∧ k = .int .i64 n ∧ s = .int .i64 (Sx.deepL (ks.take n) : Int) ∧ Below w.heap.size w wr ∧ Box wr w.heap.size 26 #[.bool true, .bool vh, .slice a1 n1 k1, .slice a2 n2 k2, .slice a3 ks.length k3]) (fun _ _ k _ => ks.length - (intOf k).toNat)
    case atStart => exact ⟨0, Nat.zero_le _, rfl, rfl, hb0, hx0⟩
    case round =>
      obtain ⟨n, hnl, rfl, rfl, hb, hx⟩ := hrel
      clear c4 c0
      have c4 := hx.cell 4 rfl
      have htk := Sx.deepL_take ks n
      by_cases hlt : n < ks.length
      · obtain ⟨b, o, rfl, hld⟩ := (HR.out.after hb).range hlt
        have HL := Lib.hid hld
        have hrd := (HK.out n hlt).after hb
        have HRd := Lib.hid hrd
        have hkd := Sx.deepL_mem (List.getElem_mem hlt)
        clear hrd hld
        go_wp2_with (refine wpList_load_sv rfl _ rfl b _ rfl _ HL.out ?_)
        refine (IH.out _ (List.getElem_mem hlt) _ _ HRd.out (by omega)).mono ?_
        rintro e w1 ⟨rfl, hb1⟩
        have HB := hb.trans (hb1.mono hb.size)
        have HX := hx.after hb1
        have HS := Lib.hid (Sx.deepL_snoc ks n hlt)
        go_wp2_with fail
        go_roundw
        case rel => exact ⟨n + 1, by omega, by go_num, by rw [HS.out]; exact congrArg _ (by omega), HB, HX⟩
        case measure => simp [intOf]; omega
      · go_wp2_with fail
        go_ret
        have : n = ks.length := by omega
        subst this
        exact ⟨by simp [Sx.deep], hb⟩

def headOk (l h : Bool) (a b c : Nat) : Bool := if l then !h && a == 0 && b == 0 else c == 0 && (h || a == 0)
theorem headOk1 (a b c : Nat) : headOk true true a b c = false := rfl
theorem headOk2 {a : Nat} (b c : Nat) (h : 0 < a) : headOk true false a b c = false := by unfold headOk; simp; omega
theorem headOk3 (a : Nat) {b : Nat} (c : Nat) (h : 0 < b) : headOk true false a b c = false := by unfold headOk; simp; omega
theorem headOk4 {a b : Nat} (c : Nat) (h : a = 0) (h' : b = 0) : headOk true false a b c = true := by subst h h'; rfl
theorem headOk5 (hh : Bool) (a b : Nat) {c : Nat} (h : 0 < c) : headOk false hh a b c = false := by unfold headOk; simp; omega
theorem headOk6 (a b : Nat) {c : Nat} (h : c = 0) : headOk false true a b c = true := by subst h; rfl
theorem headOk7 {a : Nat} (b c : Nat) (h : 0 < a) : headOk false false a b c = false := by unfold headOk; simp; omega
theorem headOk8 {a : Nat} (b : Nat) {c : Nat} (h : a = 0) (h' : c = 0) : headOk false false a b c = true := by subst h h'; rfl
theorem clean_def (l h : Bool) (hi da : List UInt8) (ks : List Sx) : (Sx.mk l h hi da ks).clean = (headOk l h hi.length da.length ks.length && Sx.cleanL ks) := by simp only [Sx.clean, headOk]
set_option maxHeartbeats 2000000 in
set_option maxRecDepth 100000 in
theorem clean_any (s : Sx) : ∀ (v : SV) (w : World), Rd w v s → Calls Tryz.prog 50 #[v.val] w fun e w' => e = .returned (.bool s.clean) ∧ Below w.heap.size w w' := by
  induction s using Sx.ind with
  | h l hh hi da ks ih =>
  intro v w hr
  have HRR := Lib.hid hr
  obtain ⟨hvl, hvh, hs1, hs2, hn, hnc, hcm, K, hrow, hk⟩ := hr.parts
  obtain ⟨vl, vh, a1, n1, k1, a2, n2, k2, a3, n3, k3⟩ := v
  dsimp only at hn hnc hcm hrow hk hvl hvh hs1 hs2
  obtain rfl : vl = l := hvl
  obtain rfl : vh = hh := hvh
  replace hn : n3 = ks.length := hn
  replace hs1 : Sl w a1 n1 k1 hi := hs1
  replace hs2 : Sl w a2 n2 k2 da := hs2
  replace hk : ∀ i (hi : i < ks.length), RdI (fun _ => True) w (K i) ks[i] := hk
  obtain ⟨l1, hl1⟩ : ∃ l1, l1 = hi := ⟨_, rfl⟩
  have hn1 := hs1.1
  have hn2 := hs2.1
  have hm1 := hs1.2.1
  have hm2 := hs2.2.1
  have hx1 := hs1.2.2.1
  have hx2 := hs2.2.2.1
  have IH := Lib.hid ih
  have HK := Lib.hid hk
  have HR := Lib.hid hrow
  have HS1 := Lib.hid hs1
  have HS2 := Lib.hid hs2
  have HN1 := Lib.hid hn1
  have HN2 := Lib.hid hn2
  clear ih hk hrow hr hs1 hs2 hn1 hn2 hl1
  subst hn
  unfold maxLen at hcm hx1 hx2
  cases vl with
  | true =>
    cases vh with
    | true =>
      have hfact : headOk true true hi.length da.length ks.length = false := by
        have e1 := HN1.out
        have e2 := HN2.out
        exact headOk1 _ _ _
      have HF := Lib.hid hfact
      clear hfact
      have hb0 : Below w.heap.size w (w.alloc (.cells #[.bool true, .bool true, .slice a1 n1 k1, .slice a2 n2 k2, .slice a3 ks.length k3] 26)) := (Below.refl _ _).alloc (Nat.le_refl _) _
      have hx0 := Box.new w 26 #[.bool true, .bool true, .slice a1 n1 k1, .slice a2 n2 k2, .slice a3 ks.length k3]
      have c0 := hx0.cell 0 rfl
      have c1 := hx0.cell 1 rfl
      have c2 := hx0.cell 2 rfl
      have c3 := hx0.cell 3 rfl
      have c4 := hx0.cell 4 rfl
      show Calls _ _ #[.agg #[.bool true, .bool true, .slice a1 n1 k1, .slice a2 n2 k2, .slice a3 ks.length k3]] _ _
      go_enter Tryz.func50, Tryz.ntmps50
      go_wp2_with fail
      go_ret
      exact ⟨by rw [clean_def, HF.out]; rfl, hb0⟩
    | false =>
      by_cases h1 : 0 < n1
      · have h1' : 0 < (n1 : Int) := by omega
        have hfact : headOk true false hi.length da.length ks.length = false := by
          have e1 := HN1.out
          have e2 := HN2.out
          exact headOk2 _ _ (by omega)
        have HF := Lib.hid hfact
        clear hfact
        have hb0 : Below w.heap.size w (w.alloc (.cells #[.bool true, .bool false, .slice a1 n1 k1, .slice a2 n2 k2, .slice a3 ks.length k3] 26)) := (Below.refl _ _).alloc (Nat.le_refl _) _
        have hx0 := Box.new w 26 #[.bool true, .bool false, .slice a1 n1 k1, .slice a2 n2 k2, .slice a3 ks.length k3]
        have c0 := hx0.cell 0 rfl
        have c1 := hx0.cell 1 rfl
        have c2 := hx0.cell 2 rfl
        have c3 := hx0.cell 3 rfl
        have c4 := hx0.cell 4 rfl
        show Calls _ _ #[.agg #[.bool true, .bool false, .slice a1 n1 k1, .slice a2 n2 k2, .slice a3 ks.length k3]] _ _
        go_enter Tryz.func50, Tryz.ntmps50
        go_wp2_with fail
        go_ret
        exact ⟨by rw [clean_def, HF.out]; rfl, hb0⟩
      · obtain rfl : n1 = 0 := by omega
        by_cases h2 : 0 < n2
        · have h2' : 0 < (n2 : Int) := by omega
          have hfact : headOk true false hi.length da.length ks.length = false := by
            have e1 := HN1.out
            have e2 := HN2.out
            exact headOk3 _ _ (by omega)
          have HF := Lib.hid hfact
          clear hfact
          have hb0 : Below w.heap.size w (w.alloc (.cells #[.bool true, .bool false, .slice a1 0 k1, .slice a2 n2 k2, .slice a3 ks.length k3] 26)) := (Below.refl _ _).alloc (Nat.le_refl _) _
          have hx0 := Box.new w 26 #[.bool true, .bool false, .slice a1 0 k1, .slice a2 n2 k2, .slice a3 ks.length k3]
          have c0 := hx0.cell 0 rfl
          have c1 := hx0.cell 1 rfl
          have c2 := hx0.cell 2 rfl
          have c3 := hx0.cell 3 rfl
          have c4 := hx0.cell 4 rfl
          show Calls _ _ #[.agg #[.bool true, .bool false, .slice a1 0 k1, .slice a2 n2 k2, .slice a3 ks.length k3]] _ _
          go_enter Tryz.func50, Tryz.ntmps50
          go_wp2_with fail
          go_ret
          exact ⟨by rw [clean_def, HF.out]; rfl, hb0⟩
        · obtain rfl : n2 = 0 := by omega
          have hfact : headOk true false hi.length da.length ks.length = true := by
            have e1 := HN1.out
            have e2 := HN2.out
            exact headOk4 _ (by omega) (by omega)
          have HF := Lib.hid hfact
          clear hfact
          have hb0 : Below w.heap.size w (w.alloc (.cells #[.bool true, .bool false, .slice a1 0 k1, .slice a2 0 k2, .slice a3 ks.length k3] 26)) := (Below.refl _ _).alloc (Nat.le_refl _) _
          have hx0 := Box.new w 26 #[.bool true, .bool false, .slice a1 0 k1, .slice a2 0 k2, .slice a3 ks.length k3]
          have c0 := hx0.cell 0 rfl
          have c1 := hx0.cell 1 rfl
          have c2 := hx0.cell 2 rfl
          have c3 := hx0.cell 3 rfl
          have c4 := hx0.cell 4 rfl
          show Calls _ _ #[.agg #[.bool true, .bool false, .slice a1 0 k1, .slice a2 0 k2, .slice a3 ks.length k3]] _ _
          go_enter Tryz.func50, Tryz.ntmps50
          go_wp2_with fail
          go_loopw [3, 47] (fun i k wr => ∃ n : Nat, n ≤ ks.length ∧ k = .int .i64 n ∧ Sx.cleanL (ks.take n) = true ∧ Below w.heap.size w wr ∧ Box wr w.heap.size 26 #[.bool true, .bool false, .slice a1 0 k1, .slice a2 0 k2, .slice a3 ks.length k3]) (fun _ k _ => ks.length - (intOf k).toNat)
          case atStart => exact ⟨0, Nat.zero_le _, rfl, rfl, hb0, hx0⟩
          case round =>
            obtain ⟨n, hnl, rfl, hcl, hb, hx⟩ := hrel
            have HC := Lib.hid hcl
            clear c0 c1 c2 c3 c4 hcl
            have c4 := hx.cell 4 rfl
            by_cases hlt : n < ks.length
            · obtain ⟨b, o, rfl, hld⟩ := (HR.out.after hb).range hlt
              have HL := Lib.hid hld
              have hrd := (HK.out n hlt).after hb
              have HRd := Lib.hid hrd
              clear hrd hld
              obtain ⟨ck, hck⟩ : ∃ ck, ck = ks[n].clean := ⟨_, rfl⟩
              have IH2 := Lib.hid (IH.out _ (List.getElem_mem hlt) _ _ HRd.out)
              rw [← hck] at IH2
              have HCK := Lib.hid hck
              clear hck
              cases ck with
              | false =>
                go_wp2_with (refine wpList_load_sv rfl _ rfl b _ rfl _ HL.out ?_)
                refine IH2.out.mono ?_
                rintro e w1 ⟨rfl, hb1⟩
                have HB := hb.trans (hb1.mono hb.size)
                go_wp2_with fail
                go_ret
                exact ⟨by rw [clean_def, HF.out, Sx.cleanL_no (List.getElem_mem hlt) HCK.out.symm]; simp, HB⟩
              | true =>
                go_wp2_with (refine wpList_load_sv rfl _ rfl b _ rfl _ HL.out ?_)
                refine IH2.out.mono ?_
                rintro e w1 ⟨rfl, hb1⟩
                have HB := hb.trans (hb1.mono hb.size)
                have HX := hx.after hb1
                go_wp2_with fail
                go_roundw
                case rel => exact ⟨n + 1, by omega, by go_num, by rw [Sx.cleanL_snoc ks n hlt, HC.out, ← HCK.out]; rfl, HB, HX⟩
                case measure => simp [intOf]; omega
            · go_wp2_with fail
              go_ret
              have : n = ks.length := by omega
              subst this
              rw [List.take_length] at HC
              exact ⟨by rw [clean_def, HF.out, HC.out]; simp, hb⟩
  | false =>
    by_cases h3 : 0 < ks.length
    · have h3' : 0 < (ks.length : Int) := by omega
      have hfact : headOk false vh hi.length da.length ks.length = false := by
        have e1 := HN1.out
        have e2 := HN2.out
        exact headOk5 _ _ _ (by omega)
      have HF := Lib.hid hfact
      clear hfact
      have hb0 : Below w.heap.size w (w.alloc (.cells #[.bool false, .bool vh, .slice a1 n1 k1, .slice a2 n2 k2, .slice a3 ks.length k3] 26)) := (Below.refl _ _).alloc (Nat.le_refl _) _
      have hx0 := Box.new w 26 #[.bool false, .bool vh, .slice a1 n1 k1, .slice a2 n2 k2, .slice a3 ks.length k3]
      have c0 := hx0.cell 0 rfl
      have c1 := hx0.cell 1 rfl
      have c2 := hx0.cell 2 rfl
      have c3 := hx0.cell 3 rfl
      have c4 := hx0.cell 4 rfl
      show Calls _ _ #[.agg #[.bool false, .bool vh, .slice a1 n1 k1, .slice a2 n2 k2, .slice a3 ks.length k3]] _ _
      go_enter Tryz.func50, Tryz.ntmps50
      go_wp2_with fail
      go_ret
      exact ⟨by rw [clean_def, HF.out]; rfl, hb0⟩
    · have h3' : ¬ 0 < (ks.length : Int) := by omega
      cases vh with
      | true =>
        have hfact : headOk false true hi.length da.length ks.length = true := by
          have e1 := HN1.out
          have e2 := HN2.out
          exact headOk6 _ _ (by omega)
        have HF := Lib.hid hfact
        clear hfact
        have hb0 : Below w.heap.size w (w.alloc (.cells #[.bool false, .bool true, .slice a1 n1 k1, .slice a2 n2 k2, .slice a3 ks.length k3] 26)) := (Below.refl _ _).alloc (Nat.le_refl _) _
        have hx0 := Box.new w 26 #[.bool false, .bool true, .slice a1 n1 k1, .slice a2 n2 k2, .slice a3 ks.length k3]
        have c0 := hx0.cell 0 rfl
        have c1 := hx0.cell 1 rfl
        have c2 := hx0.cell 2 rfl
        have c3 := hx0.cell 3 rfl
        have c4 := hx0.cell 4 rfl
        show Calls _ _ #[.agg #[.bool false, .bool true, .slice a1 n1 k1, .slice a2 n2 k2, .slice a3 ks.length k3]] _ _
        go_enter Tryz.func50, Tryz.ntmps50
        go_wp2_with fail
        go_loopw [3, 47] (fun i k wr => ∃ n : Nat, n ≤ ks.length ∧ k = .int .i64 n ∧ Sx.cleanL (ks.take n) = true ∧ Below w.heap.size w wr ∧ Box wr w.heap.size 26 #[.bool false, .bool true, .slice a1 n1 k1, .slice a2 n2 k2, .slice a3 ks.length k3]) (fun _ k _ => ks.length - (intOf k).toNat)
        case atStart => exact ⟨0, Nat.zero_le _, rfl, rfl, hb0, hx0⟩
        case round =>
          obtain ⟨n, hnl, rfl, hcl, hb, hx⟩ := hrel
          have HC := Lib.hid hcl
          clear c0 c1 c2 c3 c4 hcl
          have c4 := hx.cell 4 rfl
          by_cases hlt : n < ks.length
          · exact absurd hlt (by omega)
          · go_wp2_with fail
            go_ret
            have : n = ks.length := by omega
            subst this
            rw [List.take_length] at HC
            exact ⟨by rw [clean_def, HF.out, HC.out]; simp, hb⟩
      | false =>
        by_cases h1 : 0 < n1
        · have h1' : 0 < (n1 : Int) := by omega
          have hfact : headOk false false hi.length da.length ks.length = false := by
            have e1 := HN1.out
            have e2 := HN2.out
            exact headOk7 _ _ (by omega)
          have HF := Lib.hid hfact
          clear hfact
          have hb0 : Below w.heap.size w (w.alloc (.cells #[.bool false, .bool false, .slice a1 n1 k1, .slice a2 n2 k2, .slice a3 ks.length k3] 26)) := (Below.refl _ _).alloc (Nat.le_refl _) _
          have hx0 := Box.new w 26 #[.bool false, .bool false, .slice a1 n1 k1, .slice a2 n2 k2, .slice a3 ks.length k3]
          have c0 := hx0.cell 0 rfl
          have c1 := hx0.cell 1 rfl
          have c2 := hx0.cell 2 rfl
          have c3 := hx0.cell 3 rfl
          have c4 := hx0.cell 4 rfl
          show Calls _ _ #[.agg #[.bool false, .bool false, .slice a1 n1 k1, .slice a2 n2 k2, .slice a3 ks.length k3]] _ _
          go_enter Tryz.func50, Tryz.ntmps50
          go_wp2_with fail
          go_ret
          exact ⟨by rw [clean_def, HF.out]; rfl, hb0⟩
        · obtain rfl : n1 = 0 := by omega
          have hfact : headOk false false hi.length da.length ks.length = true := by
            have e1 := HN1.out
            have e2 := HN2.out
            exact headOk8 _ (by omega) (by omega)
          have HF := Lib.hid hfact
          clear hfact
          have hb0 : Below w.heap.size w (w.alloc (.cells #[.bool false, .bool false, .slice a1 0 k1, .slice a2 n2 k2, .slice a3 ks.length k3] 26)) := (Below.refl _ _).alloc (Nat.le_refl _) _
          have hx0 := Box.new w 26 #[.bool false, .bool false, .slice a1 0 k1, .slice a2 n2 k2, .slice a3 ks.length k3]
          have c0 := hx0.cell 0 rfl
          have c1 := hx0.cell 1 rfl
          have c2 := hx0.cell 2 rfl
          have c3 := hx0.cell 3 rfl
          have c4 := hx0.cell 4 rfl
          show Calls _ _ #[.agg #[.bool false, .bool false, .slice a1 0 k1, .slice a2 n2 k2, .slice a3 ks.length k3]] _ _
          go_enter Tryz.func50, Tryz.ntmps50
          go_wp2_with fail
          go_loopw [3, 47] (fun i k wr => ∃ n : Nat, n ≤ ks.length ∧ k = .int .i64 n ∧ Sx.cleanL (ks.take n) = true ∧ Below w.heap.size w wr ∧ Box wr w.heap.size 26 #[.bool false, .bool false, .slice a1 0 k1, .slice a2 n2 k2, .slice a3 ks.length k3]) (fun _ k _ => ks.length - (intOf k).toNat)
          case atStart => exact ⟨0, Nat.zero_le _, rfl, rfl, hb0, hx0⟩
          case round =>
            obtain ⟨n, hnl, rfl, hcl, hb, hx⟩ := hrel
            have HC := Lib.hid hcl
            clear c0 c1 c2 c3 c4 hcl
            have c4 := hx.cell 4 rfl
            by_cases hlt : n < ks.length
            · exact absurd hlt (by omega)
            · go_wp2_with fail
              go_ret
              have : n = ks.length := by omega
              subst this
              rw [List.take_length] at HC
              exact ⟨by rw [clean_def, HF.out, HC.out]; simp, hb⟩

theorem wide_def (l h : Bool) (hi da : List UInt8) (ks : List Sx) (m : Nat) : (Sx.mk l h hi da ks).wide m = (decide (60 < m) || decide (700 < ks.length) || decide (5000 < hi.length) || decide (5000 < da.length) || Sx.wideL ks (m + 1)) := by simp only [Sx.wide]
end Go.Proofs.YtkbblhioncecmaaGreatDoor
namespace Go.Proofs.YtkbblhioncecmaaGreatDoor
open Go.RowKit

theorem wpQ_callS {P : Program} {ops : Array Oper} {W : World} {B : Nat} {Q : Act → Prop} {a : Act} {o : Oper} {rest : List Oper} (hgd : Region.wanted o (yielded ops a.tmps) = true) (f : FuncId) (args : Array Value) (hr : ∀ w, (execOp a.eval o).run P w = .ok (.enter f args) w) (v : Value) (hB : B ≤ W.heap.size)
    (hc : ∀ w, Below B W w → Calls P f args w fun e w' => e = .returned v ∧ Below w.heap.size w w')
    (h : wpQuiet P ops (fun w' => Below B W w') Q rest (a.put o.dst v)) : wpQuiet P ops (fun w' => Below B W w') Q (o :: rest) a :=
  wpQ_plain hgd ⟨v, fun w hw => by
    unfold Oper.quietAt
    rw [hr w]
    exact ⟨rfl, (hc w hw).mono fun e w'' ⟨he, hb⟩ => ⟨he, hw.trans (hb.mono (by have := hw.size; omega))⟩⟩, h⟩

theorem run_load_sv {o : Oper} {a : Act} {w : World} (x : Operand) (ho : o.op = .load 26 x) (b k : Nat) (hx : a.eval x = .pointer (some ⟨b, k, none⟩)) (v : SV) (hc : w.rangeAt b k v.cells.toList) : (execOp a.eval o).run Tryz.prog w = .ok (.value v.val) w := by
  unfold execOp
  simp only [ho, hx, Instr.loadAt, Instr.sureAddr, Sem.run_bind, Sem.run_pure, Result.andThen_ok, run_loadVar_mid w b k 26 _ _ hc Tryz.underlying26 rfl (by kernel_rfl)]
  rfl
theorem RowAt.rangeA {w : World} {b o n c : Nat} {K : Nat → SV} (h : RowAt w (some ⟨b, o, none⟩) n c K) {i : Nat} (hi : i < n) : w.rangeAt b (o + i * 5) (K i).cells.toList := by
  obtain ⟨b', o', e, h⟩ := h.range hi
  cases e
  exact h
theorem RowAt.rangeB {w : World} {a : Option Addr} {n c : Nat} {K : Nat → SV} (h : RowAt w a n c K) {i : Nat} (hi : i < n) : ∃ b o, a = some ⟨b, o, none⟩ ∧ True := by
  obtain ⟨b', o', e, h⟩ := h.range hi
  exact ⟨b', o', e, trivial⟩

mutual
/-- the same trees? -/
def Sx.same : Sx → Sx → Bool
  | .mk l h hi da ks, .mk l2 h2 hi2 da2 ks2 => l == l2 && h == h2 && hi == hi2 && da == da2 && Sx.sameL ks ks2
def Sx.sameL : List Sx → List Sx → Bool
  | [], [] => true
  | a :: r, b :: s => a.same b && Sx.sameL r s
  | _, _ => false
end
theorem same_def (l h : Bool) (hi da : List UInt8) (ks : List Sx) (l2 h2 : Bool) (hi2 da2 : List UInt8) (ks2 : List Sx) : (Sx.mk l h hi da ks).same (.mk l2 h2 hi2 da2 ks2) = (l == l2 && h == h2 && hi == hi2 && da == da2 && Sx.sameL ks ks2) := by simp only [Sx.same]
theorem sameL_len {a b : List Sx} (h : a.length ≠ b.length) : Sx.sameL a b = false := by
  induction a generalizing b with
  | nil => cases b with
    | nil => exact absurd rfl h
    | cons y s => rfl
  | cons x r ih => cases b with
    | nil => rfl
    | cons y s => simp only [Sx.sameL]; rw [ih (fun e => h (by simp [e]))]; simp
theorem sameL_snoc {a b : List Sx} (k : Nat) (h : k < a.length) (h' : k < b.length) : Sx.sameL (a.take (k + 1)) (b.take (k + 1)) = (Sx.sameL (a.take k) (b.take k) && a[k].same b[k]) := by
  induction a generalizing b k with
  | nil => simp at h
  | cons x r ih =>
    cases b with
    | nil => simp at h'
    | cons y s =>
      cases k with
      | zero => simp [Sx.sameL]
      | succ k => simp only [List.take_succ_cons, Sx.sameL, List.getElem_cons_succ]; rw [ih k (by simpa using h) (by simpa using h'), Bool.and_assoc]
theorem sameL_no {a b : List Sx} (k : Nat) (h : k < a.length) (h' : k < b.length) (hk : a[k].same b[k] = false) : Sx.sameL a b = false := by
  induction a generalizing b k with
  | nil => simp at h
  | cons x r ih =>
    cases b with
    | nil => simp at h'
    | cons y s =>
      cases k with
      | zero => simp only [List.getElem_cons_zero] at hk; simp [Sx.sameL, hk]
      | succ k => simp only [Sx.sameL, ih k (by simpa using h) (by simpa using h') (by simpa using hk), Bool.and_false]
set_option maxHeartbeats 4000000 in
set_option maxRecDepth 100000 in
theorem refSame_any (s : Sx) : ∀ (t : Sx) (v vb : SV) (w : World), Rd w v s → Rd w vb t → Calls Tryz.prog 7 #[v.val, vb.val] w fun e w' => e = .returned (.bool (s.same t)) ∧ Below w.heap.size w w' := by
  induction s using Sx.ind with
  | h l hh hi da ks ih =>
  intro t v vb w hr hrb
  obtain ⟨lb, hhb, hib, dab, ksb⟩ := t
  have IH := Lib.hid ih
  clear ih
  have HRR := Lib.hid hr
  obtain ⟨hvl, hvh, hs1, hs2, hn, hnc, hcm, K, hrow, hk⟩ := hr.parts
  obtain ⟨vl, vh, a1, n1, k1, a2, n2, k2, a3, n3, k3⟩ := v
  dsimp only at hn hnc hcm hrow hk hvl hvh hs1 hs2
  obtain rfl : vl = l := hvl
  obtain rfl : vh = hh := hvh
  replace hn : n3 = ks.length := hn
  replace hs1 : Sl w a1 n1 k1 hi := hs1
  replace hs2 : Sl w a2 n2 k2 da := hs2
  replace hk : ∀ i (hi : i < ks.length), RdI (fun _ => True) w (K i) ks[i] := hk
  have HK := Lib.hid hk
  have HR := Lib.hid hrow
  have HS1 := Lib.hid hs1
  have HS2 := Lib.hid hs2
  have HN3 := Lib.hid hn
  clear hk hrow hr hs1 hs2 hn
  unfold maxLen at hcm
  have HRRb := Lib.hid hrb
  obtain ⟨hvl, hvh, hs1, hs2, hn, hncb, hcmb, Kb, hrow, hk⟩ := hrb.parts
  obtain ⟨vlb, vhb, a1b, n1b, k1b, a2b, n2b, k2b, a3b, n3b, k3b⟩ := vb
  dsimp only at hn hncb hcmb hrow hk hvl hvh hs1 hs2
  obtain rfl : vlb = lb := hvl
  obtain rfl : vhb = hhb := hvh
  replace hn : n3b = ksb.length := hn
  replace hs1 : Sl w a1b n1b k1b hib := hs1
  replace hs2 : Sl w a2b n2b k2b dab := hs2
  replace hk : ∀ i (hi : i < ksb.length), RdI (fun _ => True) w (Kb i) ksb[i] := hk
  have HKb := Lib.hid hk
  have HRb := Lib.hid hrow
  have HS1b := Lib.hid hs1
  have HS2b := Lib.hid hs2
  have HN3b := Lib.hid hn
  clear hk hrow hrb hs1 hs2 hn
  unfold maxLen at hcmb
  by_cases e0 : vl = vlb
  case neg =>
    have HQ := Lib.hid e0
    have hb0 : Below w.heap.size w ((w.alloc (.cells #[.bool vl, .bool vh, .slice a1 n1 k1, .slice a2 n2 k2, .slice a3 n3 k3] 26)).alloc (.cells #[.bool vlb, .bool vhb, .slice a1b n1b k1b, .slice a2b n2b k2b, .slice a3b n3b k3b] 26)) := ((Below.refl _ _).alloc (Nat.le_refl _) _).alloc (by simp) _
    have A0 : Box ((w.alloc (.cells #[.bool vl, .bool vh, .slice a1 n1 k1, .slice a2 n2 k2, .slice a3 n3 k3] 26)).alloc (.cells #[.bool vlb, .bool vhb, .slice a1b n1b k1b, .slice a2b n2b k2b, .slice a3b n3b k3b] 26)) w.heap.size 26 #[.bool vl, .bool vh, .slice a1 n1 k1, .slice a2 n2 k2, .slice a3 n3 k3] := (Box.new _ _ _).alloc _
    have B0 : Box ((w.alloc (.cells #[.bool vl, .bool vh, .slice a1 n1 k1, .slice a2 n2 k2, .slice a3 n3 k3] 26)).alloc (.cells #[.bool vlb, .bool vhb, .slice a1b n1b k1b, .slice a2b n2b k2b, .slice a3b n3b k3b] 26)) (w.heap.size + 1) 26 #[.bool vlb, .bool vhb, .slice a1b n1b k1b, .slice a2b n2b k2b, .slice a3b n3b k3b] := by
      have := Box.new (w.alloc (.cells #[.bool vl, .bool vh, .slice a1 n1 k1, .slice a2 n2 k2, .slice a3 n3 k3] 26)) 26 #[.bool vlb, .bool vhb, .slice a1b n1b k1b, .slice a2b n2b k2b, .slice a3b n3b k3b]
      simpa using this
    have x0 := A0.cell 0 rfl
    have x1 := A0.cell 1 rfl
    have x2 := A0.cell 2 rfl
    have x3 := A0.cell 3 rfl
    have x4 := A0.cell 4 rfl
    have y0 := B0.cell 0 rfl
    have y1 := B0.cell 1 rfl
    have y2 := B0.cell 2 rfl
    have y3 := B0.cell 3 rfl
    have y4 := B0.cell 4 rfl
    have c1 := conv_sl (HS1.out.after hb0)
    have c2 := conv_sl (HS2.out.after hb0)
    have d1 := conv_sl (HS1b.out.after hb0)
    have d2 := conv_sl (HS2b.out.after hb0)
    show Calls _ _ #[.agg #[.bool vl, .bool vh, .slice a1 n1 k1, .slice a2 n2 k2, .slice a3 n3 k3], .agg #[.bool vlb, .bool vhb, .slice a1b n1b k1b, .slice a2b n2b k2b, .slice a3b n3b k3b]] _ _
    go_enter Tryz.func7, Tryz.ntmps7
    go_wp2_with fail
    go_ret
    exact ⟨by rw [same_def]; simp [HQ.out], hb0⟩
  subst e0
  by_cases e1 : vh = vhb
  case neg =>
    have HQ := Lib.hid e1
    have hb0 : Below w.heap.size w ((w.alloc (.cells #[.bool vl, .bool vh, .slice a1 n1 k1, .slice a2 n2 k2, .slice a3 n3 k3] 26)).alloc (.cells #[.bool vl, .bool vhb, .slice a1b n1b k1b, .slice a2b n2b k2b, .slice a3b n3b k3b] 26)) := ((Below.refl _ _).alloc (Nat.le_refl _) _).alloc (by simp) _
    have A0 : Box ((w.alloc (.cells #[.bool vl, .bool vh, .slice a1 n1 k1, .slice a2 n2 k2, .slice a3 n3 k3] 26)).alloc (.cells #[.bool vl, .bool vhb, .slice a1b n1b k1b, .slice a2b n2b k2b, .slice a3b n3b k3b] 26)) w.heap.size 26 #[.bool vl, .bool vh, .slice a1 n1 k1, .slice a2 n2 k2, .slice a3 n3 k3] := (Box.new _ _ _).alloc _
    have B0 : Box ((w.alloc (.cells #[.bool vl, .bool vh, .slice a1 n1 k1, .slice a2 n2 k2, .slice a3 n3 k3] 26)).alloc (.cells #[.bool vl, .bool vhb, .slice a1b n1b k1b, .slice a2b n2b k2b, .slice a3b n3b k3b] 26)) (w.heap.size + 1) 26 #[.bool vl, .bool vhb, .slice a1b n1b k1b, .slice a2b n2b k2b, .slice a3b n3b k3b] := by
      have := Box.new (w.alloc (.cells #[.bool vl, .bool vh, .slice a1 n1 k1, .slice a2 n2 k2, .slice a3 n3 k3] 26)) 26 #[.bool vl, .bool vhb, .slice a1b n1b k1b, .slice a2b n2b k2b, .slice a3b n3b k3b]
      simpa using this
    have x0 := A0.cell 0 rfl
    have x1 := A0.cell 1 rfl
    have x2 := A0.cell 2 rfl
    have x3 := A0.cell 3 rfl
    have x4 := A0.cell 4 rfl
    have y0 := B0.cell 0 rfl
    have y1 := B0.cell 1 rfl
    have y2 := B0.cell 2 rfl
    have y3 := B0.cell 3 rfl
    have y4 := B0.cell 4 rfl
    have c1 := conv_sl (HS1.out.after hb0)
    have c2 := conv_sl (HS2.out.after hb0)
    have d1 := conv_sl (HS1b.out.after hb0)
    have d2 := conv_sl (HS2b.out.after hb0)
    show Calls _ _ #[.agg #[.bool vl, .bool vh, .slice a1 n1 k1, .slice a2 n2 k2, .slice a3 n3 k3], .agg #[.bool vl, .bool vhb, .slice a1b n1b k1b, .slice a2b n2b k2b, .slice a3b n3b k3b]] _ _
    go_enter Tryz.func7, Tryz.ntmps7
    go_wp2_with fail
    go_ret
    exact ⟨by rw [same_def]; simp [HQ.out], hb0⟩
  subst e1
  by_cases e2 : hi = hib
  case neg =>
    have HQ := Lib.hid e2
    have q2 : (hi == hib) = false := by simpa using e2
    clear e2
    have hb0 : Below w.heap.size w ((w.alloc (.cells #[.bool vl, .bool vh, .slice a1 n1 k1, .slice a2 n2 k2, .slice a3 n3 k3] 26)).alloc (.cells #[.bool vl, .bool vh, .slice a1b n1b k1b, .slice a2b n2b k2b, .slice a3b n3b k3b] 26)) := ((Below.refl _ _).alloc (Nat.le_refl _) _).alloc (by simp) _
    have A0 : Box ((w.alloc (.cells #[.bool vl, .bool vh, .slice a1 n1 k1, .slice a2 n2 k2, .slice a3 n3 k3] 26)).alloc (.cells #[.bool vl, .bool vh, .slice a1b n1b k1b, .slice a2b n2b k2b, .slice a3b n3b k3b] 26)) w.heap.size 26 #[.bool vl, .bool vh, .slice a1 n1 k1, .slice a2 n2 k2, .slice a3 n3 k3] := (Box.new _ _ _).alloc _
    have B0 : Box ((w.alloc (.cells #[.bool vl, .bool vh, .slice a1 n1 k1, .slice a2 n2 k2, .slice a3 n3 k3] 26)).alloc (.cells #[.bool vl, .bool vh, .slice a1b n1b k1b, .slice a2b n2b k2b, .slice a3b n3b k3b] 26)) (w.heap.size + 1) 26 #[.bool vl, .bool vh, .slice a1b n1b k1b, .slice a2b n2b k2b, .slice a3b n3b k3b] := by
      have := Box.new (w.alloc (.cells #[.bool vl, .bool vh, .slice a1 n1 k1, .slice a2 n2 k2, .slice a3 n3 k3] 26)) 26 #[.bool vl, .bool vh, .slice a1b n1b k1b, .slice a2b n2b k2b, .slice a3b n3b k3b]
      simpa using this
    have x0 := A0.cell 0 rfl
    have x1 := A0.cell 1 rfl
    have x2 := A0.cell 2 rfl
    have x3 := A0.cell 3 rfl
    have x4 := A0.cell 4 rfl
    have y0 := B0.cell 0 rfl
    have y1 := B0.cell 1 rfl
    have y2 := B0.cell 2 rfl
    have y3 := B0.cell 3 rfl
    have y4 := B0.cell 4 rfl
    have c1 := conv_sl (HS1.out.after hb0)
    have c2 := conv_sl (HS2.out.after hb0)
    have d1 := conv_sl (HS1b.out.after hb0)
    have d2 := conv_sl (HS2b.out.after hb0)
    show Calls _ _ #[.agg #[.bool vl, .bool vh, .slice a1 n1 k1, .slice a2 n2 k2, .slice a3 n3 k3], .agg #[.bool vl, .bool vh, .slice a1b n1b k1b, .slice a2b n2b k2b, .slice a3b n3b k3b]] _ _
    go_enter Tryz.func7, Tryz.ntmps7
    go_wp2_with fail
    go_ret
    exact ⟨by rw [same_def]; simp [HQ.out], hb0⟩
  subst e2
  by_cases e3 : da = dab
  case neg =>
    have HQ := Lib.hid e3
    have q3 : (da == dab) = false := by simpa using e3
    clear e3
    have hb0 : Below w.heap.size w ((w.alloc (.cells #[.bool vl, .bool vh, .slice a1 n1 k1, .slice a2 n2 k2, .slice a3 n3 k3] 26)).alloc (.cells #[.bool vl, .bool vh, .slice a1b n1b k1b, .slice a2b n2b k2b, .slice a3b n3b k3b] 26)) := ((Below.refl _ _).alloc (Nat.le_refl _) _).alloc (by simp) _
    have A0 : Box ((w.alloc (.cells #[.bool vl, .bool vh, .slice a1 n1 k1, .slice a2 n2 k2, .slice a3 n3 k3] 26)).alloc (.cells #[.bool vl, .bool vh, .slice a1b n1b k1b, .slice a2b n2b k2b, .slice a3b n3b k3b] 26)) w.heap.size 26 #[.bool vl, .bool vh, .slice a1 n1 k1, .slice a2 n2 k2, .slice a3 n3 k3] := (Box.new _ _ _).alloc _
    have B0 : Box ((w.alloc (.cells #[.bool vl, .bool vh, .slice a1 n1 k1, .slice a2 n2 k2, .slice a3 n3 k3] 26)).alloc (.cells #[.bool vl, .bool vh, .slice a1b n1b k1b, .slice a2b n2b k2b, .slice a3b n3b k3b] 26)) (w.heap.size + 1) 26 #[.bool vl, .bool vh, .slice a1b n1b k1b, .slice a2b n2b k2b, .slice a3b n3b k3b] := by
      have := Box.new (w.alloc (.cells #[.bool vl, .bool vh, .slice a1 n1 k1, .slice a2 n2 k2, .slice a3 n3 k3] 26)) 26 #[.bool vl, .bool vh, .slice a1b n1b k1b, .slice a2b n2b k2b, .slice a3b n3b k3b]
      simpa using this
    have x0 := A0.cell 0 rfl
    have x1 := A0.cell 1 rfl
    have x2 := A0.cell 2 rfl
    have x3 := A0.cell 3 rfl
    have x4 := A0.cell 4 rfl
    have y0 := B0.cell 0 rfl
    have y1 := B0.cell 1 rfl
    have y2 := B0.cell 2 rfl
    have y3 := B0.cell 3 rfl
    have y4 := B0.cell 4 rfl
    have c1 := conv_sl (HS1.out.after hb0)
    have c2 := conv_sl (HS2.out.after hb0)
    have d1 := conv_sl (HS1b.out.after hb0)
    have d2 := conv_sl (HS2b.out.after hb0)
    show Calls _ _ #[.agg #[.bool vl, .bool vh, .slice a1 n1 k1, .slice a2 n2 k2, .slice a3 n3 k3], .agg #[.bool vl, .bool vh, .slice a1b n1b k1b, .slice a2b n2b k2b, .slice a3b n3b k3b]] _ _
    go_enter Tryz.func7, Tryz.ntmps7
    go_wp2_with fail
    go_ret
    exact ⟨by rw [same_def]; simp [HQ.out], hb0⟩
  subst e3
  by_cases e4 : n3 = n3b
  case neg =>
    have HQ : Hid (Sx.sameL ks ksb = false) := Lib.hid (sameL_len (by have := HN3.out; have := HN3b.out; omega))
    have q4 : ((n3 : Int) == n3b) = false := by simp; omega
    have q5 : ((n3 : Int) != n3b) = true := by simp; omega
    clear e4
    have hb0 : Below w.heap.size w ((w.alloc (.cells #[.bool vl, .bool vh, .slice a1 n1 k1, .slice a2 n2 k2, .slice a3 n3 k3] 26)).alloc (.cells #[.bool vl, .bool vh, .slice a1b n1b k1b, .slice a2b n2b k2b, .slice a3b n3b k3b] 26)) := ((Below.refl _ _).alloc (Nat.le_refl _) _).alloc (by simp) _
    have A0 : Box ((w.alloc (.cells #[.bool vl, .bool vh, .slice a1 n1 k1, .slice a2 n2 k2, .slice a3 n3 k3] 26)).alloc (.cells #[.bool vl, .bool vh, .slice a1b n1b k1b, .slice a2b n2b k2b, .slice a3b n3b k3b] 26)) w.heap.size 26 #[.bool vl, .bool vh, .slice a1 n1 k1, .slice a2 n2 k2, .slice a3 n3 k3] := (Box.new _ _ _).alloc _
    have B0 : Box ((w.alloc (.cells #[.bool vl, .bool vh, .slice a1 n1 k1, .slice a2 n2 k2, .slice a3 n3 k3] 26)).alloc (.cells #[.bool vl, .bool vh, .slice a1b n1b k1b, .slice a2b n2b k2b, .slice a3b n3b k3b] 26)) (w.heap.size + 1) 26 #[.bool vl, .bool vh, .slice a1b n1b k1b, .slice a2b n2b k2b, .slice a3b n3b k3b] := by
      have := Box.new (w.alloc (.cells #[.bool vl, .bool vh, .slice a1 n1 k1, .slice a2 n2 k2, .slice a3 n3 k3] 26)) 26 #[.bool vl, .bool vh, .slice a1b n1b k1b, .slice a2b n2b k2b, .slice a3b n3b k3b]
      simpa using this
    have x0 := A0.cell 0 rfl
    have x1 := A0.cell 1 rfl
    have x2 := A0.cell 2 rfl
    have x3 := A0.cell 3 rfl
    have x4 := A0.cell 4 rfl
    have y0 := B0.cell 0 rfl
    have y1 := B0.cell 1 rfl
    have y2 := B0.cell 2 rfl
    have y3 := B0.cell 3 rfl
    have y4 := B0.cell 4 rfl
    have c1 := conv_sl (HS1.out.after hb0)
    have c2 := conv_sl (HS2.out.after hb0)
    have d1 := conv_sl (HS1b.out.after hb0)
    have d2 := conv_sl (HS2b.out.after hb0)
    show Calls _ _ #[.agg #[.bool vl, .bool vh, .slice a1 n1 k1, .slice a2 n2 k2, .slice a3 n3 k3], .agg #[.bool vl, .bool vh, .slice a1b n1b k1b, .slice a2b n2b k2b, .slice a3b n3b k3b]] _ _
    go_enter Tryz.func7, Tryz.ntmps7
    go_wp2_with fail
    go_ret
    exact ⟨by rw [same_def]; simp [HQ.out], hb0⟩
  subst e4
  have hb0 : Below w.heap.size w ((w.alloc (.cells #[.bool vl, .bool vh, .slice a1 n1 k1, .slice a2 n2 k2, .slice a3 n3 k3] 26)).alloc (.cells #[.bool vl, .bool vh, .slice a1b n1b k1b, .slice a2b n2b k2b, .slice a3b n3 k3b] 26)) := ((Below.refl _ _).alloc (Nat.le_refl _) _).alloc (by simp) _
  have A0 : Box ((w.alloc (.cells #[.bool vl, .bool vh, .slice a1 n1 k1, .slice a2 n2 k2, .slice a3 n3 k3] 26)).alloc (.cells #[.bool vl, .bool vh, .slice a1b n1b k1b, .slice a2b n2b k2b, .slice a3b n3 k3b] 26)) w.heap.size 26 #[.bool vl, .bool vh, .slice a1 n1 k1, .slice a2 n2 k2, .slice a3 n3 k3] := (Box.new _ _ _).alloc _
  have B0 : Box ((w.alloc (.cells #[.bool vl, .bool vh, .slice a1 n1 k1, .slice a2 n2 k2, .slice a3 n3 k3] 26)).alloc (.cells #[.bool vl, .bool vh, .slice a1b n1b k1b, .slice a2b n2b k2b, .slice a3b n3 k3b] 26)) (w.heap.size + 1) 26 #[.bool vl, .bool vh, .slice a1b n1b k1b, .slice a2b n2b k2b, .slice a3b n3 k3b] := by
    have := Box.new (w.alloc (.cells #[.bool vl, .bool vh, .slice a1 n1 k1, .slice a2 n2 k2, .slice a3 n3 k3] 26)) 26 #[.bool vl, .bool vh, .slice a1b n1b k1b, .slice a2b n2b k2b, .slice a3b n3 k3b]
    simpa using this
  have x0 := A0.cell 0 rfl
  have x1 := A0.cell 1 rfl
  have x2 := A0.cell 2 rfl
  have x3 := A0.cell 3 rfl
  have x4 := A0.cell 4 rfl
  have y0 := B0.cell 0 rfl
  have y1 := B0.cell 1 rfl
  have y2 := B0.cell 2 rfl
  have y3 := B0.cell 3 rfl
  have y4 := B0.cell 4 rfl
  have c1 := conv_sl (HS1.out.after hb0)
  have c2 := conv_sl (HS2.out.after hb0)
  have d1 := conv_sl (HS1b.out.after hb0)
  have d2 := conv_sl (HS2b.out.after hb0)
  show Calls _ _ #[.agg #[.bool vl, .bool vh, .slice a1 n1 k1, .slice a2 n2 k2, .slice a3 n3 k3], .agg #[.bool vl, .bool vh, .slice a1b n1b k1b, .slice a2b n2b k2b, .slice a3b n3 k3b]] _ _
  go_enter Tryz.func7, Tryz.ntmps7
  go_wp2_with fail
  go_loopw [5, 48] (fun i k wr => ∃ n : Nat, n ≤ n3 ∧ k = .int .i64 n ∧ Sx.sameL (ks.take n) (ksb.take n) = true ∧ Below w.heap.size w wr ∧ Box wr w.heap.size 26 #[.bool vl, .bool vh, .slice a1 n1 k1, .slice a2 n2 k2, .slice a3 n3 k3] ∧ Box wr (w.heap.size + 1) 26 #[.bool vl, .bool vh, .slice a1b n1b k1b, .slice a2b n2b k2b, .slice a3b n3 k3b]) (fun _ k _ => n3 - (intOf k).toNat)
  case atStart => exact ⟨0, Nat.zero_le _, rfl, rfl, hb0, A0, B0⟩
  case round =>
    obtain ⟨n, hnl, rfl, hcl, hb, hA, hB⟩ := hrel
    have HC := Lib.hid hcl
    clear x0 x1 x2 x3 x4 y0 y1 y2 y3 y4 c1 c2 d1 d2 hcl A0 B0
    by_cases hlt : n < n3
    · obtain ⟨b, o, rfl, hR⟩ := HR.out.rangeB hlt
      obtain ⟨bb, ob, rfl, hRb⟩ := HRb.out.rangeB hlt
      have g1 : n < ks.length := by have := HN3.out; omega
      have g2 : n < ksb.length := by have := HN3b.out; omega
      obtain ⟨ck, hck⟩ : ∃ ck, ck = ks[n].same ksb[n] := ⟨_, rfl⟩
      have HCK := Lib.hid hck
      have IH2 : Hid (∀ w', Below w.heap.size w w' → Calls Tryz.prog 7 #[(K n).val, (Kb n).val] w' fun e w'' => e = .returned (.bool ck) ∧ Below w'.heap.size w' w'') :=
        Lib.hid fun w' hw => by rw [hck]; exact IH.out _ (List.getElem_mem g1) _ _ _ _ ((HK.out n g1).after hw) ((HKb.out n g2).after hw)
      clear hck
      go_upto_region 6 with fail
      refine wp_region_made wr.heap.size wr rfl (by kernel_rfl) (Below.refl _ _) ?_
      refine wpQ_run rfl (.pointer (some ⟨w.heap.size, 4, none⟩)) (fun w hw => by simp [go_sem]) ?_
      simp only [Act.put, List.setIfInBounds_toArray, List.set_cons_zero, List.set_cons_succ]
      refine wpQ_run rfl (.slice (some ⟨b, o, none⟩) n3 k3) (fun w' hw => by simp [go_sem, (hA.after hw).cell 4 rfl]) ?_
      simp only [Act.put, List.setIfInBounds_toArray, List.set_cons_zero, List.set_cons_succ]
      refine wpQ_run rfl (.int .i64 n) (fun w hw => by simp [go_sem]) ?_
      simp only [Act.put, List.setIfInBounds_toArray, List.set_cons_zero, List.set_cons_succ]
      refine wpQ_run rfl (.pointer (some ⟨b, o + n * 5, none⟩)) (fun w hw => by simp [go_sem, hlt]) ?_
      simp only [Act.put, List.setIfInBounds_toArray, List.set_cons_zero, List.set_cons_succ]
      refine wpQ_run rfl (K n).val (fun w' hw => run_load_sv _ rfl _ _ (by simp [go_sem]) _ ((HR.out.after (hb.trans (hw.mono hb.size))).rangeA hlt)) ?_
      simp only [Act.put, List.setIfInBounds_toArray, List.set_cons_zero, List.set_cons_succ]
      refine wpQ_run rfl (.pointer (some ⟨w.heap.size + 1, 4, none⟩)) (fun w hw => by simp [go_sem]) ?_
      simp only [Act.put, List.setIfInBounds_toArray, List.set_cons_zero, List.set_cons_succ]
      refine wpQ_run rfl (.slice (some ⟨bb, ob, none⟩) n3 k3b) (fun w' hw => by simp [go_sem, (hB.after hw).cell 4 rfl]) ?_
      simp only [Act.put, List.setIfInBounds_toArray, List.set_cons_zero, List.set_cons_succ]
      refine wpQ_run rfl (.int .i64 n) (fun w hw => by simp [go_sem]) ?_
      simp only [Act.put, List.setIfInBounds_toArray, List.set_cons_zero, List.set_cons_succ]
      refine wpQ_run rfl (.pointer (some ⟨bb, ob + n * 5, none⟩)) (fun w hw => by simp [go_sem, hlt]) ?_
      simp only [Act.put, List.setIfInBounds_toArray, List.set_cons_zero, List.set_cons_succ]
      refine wpQ_run rfl (Kb n).val (fun w' hw => run_load_sv _ rfl _ _ (by simp [go_sem]) _ ((HRb.out.after (hb.trans (hw.mono hb.size))).rangeA hlt)) ?_
      simp only [Act.put, List.setIfInBounds_toArray, List.set_cons_zero, List.set_cons_succ]
      refine wpQ_callS rfl 7 #[(K n).val, (Kb n).val] (fun w => by simp [go_sem]) (.bool ck) (Nat.le_refl _) (fun w' hw => IH2.out w' (hb.trans (hw.mono hb.size))) ?_
      simp only [Act.put, List.setIfInBounds_toArray, List.set_cons_zero, List.set_cons_succ]
      refine wpQ_run rfl (.bool (!ck)) (fun w hw => by simp [go_sem]) ?_
      simp only [Act.put, List.setIfInBounds_toArray, List.set_cons_zero, List.set_cons_succ]
      intro w1 hb1
      have HX := hb.trans (hb1.mono hb.size)
      have hA1 := hA.after hb1
      have hB1 := hB.after hb1
      cases ck with
      | false =>
        go_wp2_with fail
        go_ret
        exact ⟨by rw [same_def, sameL_no n g1 g2 HCK.out.symm]; simp, HX⟩
      | true =>
        go_wp2_with fail
        go_roundw
        case rel => exact ⟨n + 1, by omega, by go_num, by rw [sameL_snoc n g1 g2, HC.out, ← HCK.out]; rfl, HX, hA1, hB1⟩
        case measure => simp [intOf]; omega
    · go_wp2_with fail
      go_ret
      have hnn : n = n3 := by omega
      subst hnn
      have h5 := HC.out
      rw [List.take_of_length_le (by have := HN3.out; omega), List.take_of_length_le (by have := HN3b.out; omega)] at h5
      exact ⟨by rw [same_def, h5]; simp, hb⟩

end Go.Proofs.YtkbblhioncecmaaGreatDoor
namespace Go.Proofs.YtkbblhioncecmaaGreatDoor
open Go.RowKit

/-- a slice of the call's own: n elements of 'size' cells each, the cells xs; its room may be written -/
def OwnG (w : World) (B size : Nat) (v : Value) (n : Nat) (xs : List Value) : Prop :=
  xs.length = n * size ∧ ((v = .slice none 0 0 ∧ n = 0) ∨
    ∃ g o cap, v = .slice (some ⟨g, o, none⟩) n cap ∧ B ≤ g ∧ g < w.heap.size ∧ n ≤ cap ∧ cap ≤ maxLen ∧ w.there g o (cap * size) ∧ w.rangeAt g o xs)

variable {P : Program} {w w' : World} {B size : Nat} {v : Value} {n : Nat} {xs : List Value}

theorem OwnG.nil (w : World) (B size : Nat) : OwnG w B size (.slice none 0 0) 0 [] := ⟨by simp, .inl ⟨rfl, rfl⟩⟩
theorem OwnG.le {B' : Nat} (h : OwnG w B size v n xs) (hB : B' ≤ B) : OwnG w B' size v n xs := by
  refine ⟨h.1, ?_⟩
  rcases h.2 with h2 | ⟨g, o, cap, h2, h3, h4⟩
  · exact .inl h2
  · exact .inr ⟨g, o, cap, h2, Nat.le_trans hB h3, h4⟩
theorem OwnG.lt (h : OwnG w B size v n xs) : ∀ k, v.ownBlock = some k → B ≤ k ∧ k < w.heap.size := by
  intro k hk
  rcases h.2 with ⟨rfl, _⟩ | ⟨g, o, cap, rfl, h3, h4, _⟩
  · simp [Value.ownBlock] at hk
  · simp [Value.ownBlock] at hk
    subst hk
    exact ⟨h3, h4⟩
/-- the row's block is as it was -/
theorem OwnG.keep (h : OwnG w B size v n xs) (hz : w.heap.size ≤ w'.heap.size) (hk : ∀ g, v.ownBlock = some g → w'.heap[g]? = w.heap[g]?) : OwnG w' B size v n xs := by
  refine ⟨h.1, ?_⟩
  rcases h.2 with h2 | ⟨g, o, cap, rfl, h3, h4, h5, h6, h7, h8⟩
  · exact .inl h2
  · have hb := hk g rfl
    refine .inr ⟨g, o, cap, rfl, h3, Nat.lt_of_lt_of_le h4 hz, h5, h6, fun j hj => ?_, fun j u hu => ?_⟩
    · rw [World.cell?_of_block (a := ⟨g, o + j, none⟩) hb, World.frozen?_of_block (a := ⟨g, o + j, none⟩) hb]; exact h7 j hj
    · rw [World.cell?_of_block (a := ⟨g, o + j, none⟩) hb]; exact h8 j u hu
theorem OwnG.after (h : OwnG w B size v n xs) (hb : Below w.heap.size w w') : OwnG w' B size v n xs :=
  h.keep hb.size fun g hg => hb.block g (h.lt g hg).2
theorem OwnG.drew (h : OwnG w B size v n xs) : OwnG w.drew B size v n xs := h.keep (Nat.le_refl _) fun _ _ => rfl
theorem OwnG.alloc (h : OwnG w B size v n xs) (o : Obj) : OwnG (w.alloc o) B size v n xs := h.after ((Below.refl _ _).alloc (Nat.le_refl _) _)
/-- another row has grown -/
theorem OwnG.grown (h : OwnG w B size v n xs) {row : Option Nat} (hg : w.grownBy w' row) (hne : v.ownBlock = none ∨ v.ownBlock ≠ row) : OwnG w' B size v n xs :=
  h.keep hg.size fun g hv => hg.block g (h.lt g hv).2 (by rw [← hv]; rcases hne with e | e; · rw [e] at hv; cases hv
                                                          · exact e)

/-- n elements whose cells may be written: a part of an array that was made -/
theorem OwnG.made (h1 : xs.length = n * size) {g o cap : Nat} (h3 : B ≤ g) (h4 : g < w.heap.size) (h5 : n ≤ cap) (h6 : cap ≤ maxLen) (h7 : w.there g o (cap * size)) (h8 : w.rangeAt g o xs) : OwnG w B size (.slice (some ⟨g, o, none⟩) n cap) n xs :=
  ⟨h1, .inr ⟨g, o, cap, rfl, h3, h4, h5, h6, h7, h8⟩⟩

/-- a whole new block -/
theorem OwnG.new (w : World) (B size : Nat) (hB : B ≤ w.heap.size) (cur : Array Value) (e : TypeId) (n cap : Nat) (hn : n ≤ cap) (hc : cap ≤ maxLen) (hs : cur.size = cap * size) :
    OwnG (w.alloc (.cells cur e)) B size (.slice (some ⟨w.heap.size, 0, none⟩) n cap) n (cur.toList.take (n * size)) := by
  have hb : (w.alloc (.cells cur e)).heap[w.heap.size]? = some (.cells cur e (0, 0)) := heap_alloc_new _ _
  have hle := Nat.mul_le_mul_right size hn
  refine .made (by simp; omega) hB (by simp) hn hc (fun j hj => ?_) (fun j u hu => ?_)
  · rw [Nat.zero_add]
    exact ⟨by rw [cell_of_row _ _ j cur e _ hb]; simp; omega, frozen_of_row _ _ j cur e hb⟩
  · rw [Nat.zero_add, cell_of_row _ _ j cur e _ hb]
    rw [List.getElem?_take] at hu
    split at hu
    · simpa using hu
    · cases hu

theorem tape_setCells (g : Nat) : ∀ (vs : List Value) (o : Nat) (w : World), (w.setCells g o vs).tape = w.tape
  | [], _, _ => rfl
  | v :: vs, o, w => by
    rw [show w.setCells g o (v :: vs) = (w.setCell ⟨g, o, none⟩ v).setCells g (o + 1) vs from rfl, tape_setCells g vs (o + 1)]
    rfl
theorem size_setCells (g : Nat) : ∀ (vs : List Value) (o : Nat) (w : World), (w.setCells g o vs).heap.size = w.heap.size
  | [], _, _ => rfl
  | v :: vs, o, w => by
    rw [show w.setCells g o (v :: vs) = (w.setCell ⟨g, o, none⟩ v).setCells g (o + 1) vs from rfl, size_setCells g vs (o + 1)]
    simp
theorem grownBy_setCells (w : World) (g o : Nat) (vs : List Value) : w.grownBy (w.setCells g o vs) (some g) :=
  ⟨World.os_setCells w g o vs, tape_setCells g vs o w, World.output_setCells w g o vs, Nat.le_of_eq (size_setCells g vs o w).symm, fun k hk hne => World.heap_setCells_other w g o vs hk (fun e => hne (by rw [e]))⟩

theorem OwnG.append (t tx ty e : TypeId) (i : TypeInfo) (z : Value) (bytes : Nat) (ht : P.underlying t = some (.slice e)) (hi : P.info? e = some i) (hz : i.zero = some z) (hsize : i.size = size) (hby : i.bytes = bytes) (hzs : z.cells.size = size) (hsz : 0 < size)
    (h : OwnG w B size v n xs) (x : Value) (m : Nat) (news : List Value) (hs : Src P size tx x m news w) (h63 : n + m ≤ maxLen) (hbytes : (n + m) * bytes ≤ 140737488355328) (hB : B ≤ w.heap.size) :
    ∃ v' w', (Builtin.append_ #[t, tx] ty #[v, x]).run P w = .ok v' w' ∧ OwnG w' B size v' (n + m) (xs ++ news) ∧ w.grownBy w' v.ownBlock ∧ ∀ k, v'.ownBlock = some k → v.ownBlock = some k ∨ w.heap.size ≤ k := by
  subst hsize
  subst hby
  have hlen : (xs ++ news).length = (n + m) * i.size := by rw [List.length_append, h.1, hs.newsLen, Nat.add_mul]
  have hsmall : ((n + m : Nat) : Int) ≤ 9223372036854775807 := by simp only [maxLen] at h63; omega
  have grown : ∀ old, ∀ (row : Option Nat),
      OwnG (w.drew.alloc (.cells ((xs ++ news).toArray ++ Builtin.zeroCells z.cells (grownCap w (n + m) old e - (n + m))) e)) B i.size (.slice (some ⟨w.heap.size, 0, none⟩) (n + m) (grownCap w (n + m) old e)) (n + m) (xs ++ news) ∧
      w.grownBy (w.drew.alloc (.cells ((xs ++ news).toArray ++ Builtin.zeroCells z.cells (grownCap w (n + m) old e - (n + m))) e)) row := by
    intro old row
    have hge := grownCap_ge w (n + m) old e
    have hcm : grownCap w (n + m) old e ≤ maxLen := grownCap_le_maxLen w (n + m) old e h63
    refine ⟨?_, ⟨rfl, rfl, rfl, by simp, fun k hk _ => heap_alloc_old w.drew _ hk⟩⟩
    have := OwnG.new w.drew B i.size hB ((xs ++ news).toArray ++ Builtin.zeroCells z.cells (grownCap w (n + m) old e - (n + m))) e (n + m) (grownCap w (n + m) old e) hge hcm (by
      simp only [Array.size_append, List.size_toArray, size_zeroCells, hzs, hlen, ← Nat.add_mul]
      congr 1
      omega)
    rw [show ((xs ++ news).toArray ++ Builtin.zeroCells z.cells (grownCap w (n + m) old e - (n + m))).toList.take ((n + m) * i.size) = xs ++ news by
      rw [Array.toList_append, ← hlen]
      exact List.take_left] at this
    exact this
  rcases h.2 with ⟨rfl, rfl⟩ | ⟨g, o, cap, rfl, h3, h4, h5, h6, h7, h8⟩
  · have hx : xs = [] := List.eq_nil_of_length_eq_zero (by simpa using h.1)
    subst hx
    by_cases hm : m = 0
    · subst hm
      have hn : news = [] := List.eq_nil_of_length_eq_zero (by simpa using hs.newsLen)
      subst hn
      exact ⟨_, _, run_append_nothing w t tx ty e i ht hi none 0 0 (Nat.le_refl _) x hs, OwnG.nil w B i.size, World.grownBy.refl w _, fun k hk => .inl hk⟩
    · have hr := run_append_grow_src w t tx ty e i z ht hi hz none 0 0 [] (run_firstCells_none w.drew i.size 0 0 0) x m news hs (by omega) hsmall (growslice_fits (by omega) hbytes)
      have hg := grown 0 (Value.ownBlock (.slice none 0 0))
      exact ⟨_, _, hr, hg.1, hg.2, fun k hk => .inr (by simp [Value.ownBlock] at hk; omega)⟩
  · by_cases hroom : n + m ≤ cap
    · have hle : n * i.size + news.length ≤ cap * i.size := by rw [hs.newsLen, ← Nat.add_mul]; exact Nat.mul_le_mul_right _ hroom
      have hr := run_append_room_src w t tx ty e i ht hi g o n cap x m news hs hroom (fun j hj => by have := (h7 (n * i.size + j) (by omega)).1; rwa [← Nat.add_assoc] at this) (fun j hj => by have := (h7 (n * i.size + j) (by omega)).2; rwa [← Nat.add_assoc] at this)
      refine ⟨_, _, hr, .made hlen h3 (by rw [size_setCells]; exact h4) hroom h6 (World.there_setCells h7 _ _ _) (fun j u hu => ?_), grownBy_setCells _ _ _ _, fun k hk => .inl hk⟩
      rw [List.getElem?_append] at hu
      split at hu
      · rename_i hlt
        exact World.rangeAt_setCells_apart h8 g (o + n * i.size) news (.inr (.inl (by rw [h.1]; exact Nat.le_refl _))) j u hu
      · rename_i hge
        have hthere : w.there g (o + n * i.size) news.length := fun j hj => by have := h7 (n * i.size + j) (by omega); rwa [← Nat.add_assoc] at this
        have := World.rangeAt_setCells_same w g (o + n * i.size) news hthere (j - xs.length) u hu
        rw [h.1] at this hge
        rwa [show o + n * i.size + (j - n * i.size) = o + j by omega] at this
    · have hr := run_append_grow_src w t tx ty e i z ht hi hz (some ⟨g, o, none⟩) n cap xs (run_firstCells_some w.drew i.size n ⟨g, o, none⟩ n cap xs h.1 (fun j u hu => by rw [Addr.add_mid]; simpa using h8 j u hu)) x m news hs (by omega) hsmall (growslice_fits (by omega) hbytes)
      have hg := grown cap (Value.ownBlock (.slice (some ⟨g, o, none⟩) n cap))
      exact ⟨_, _, hr, hg.1, hg.2, fun k hk => .inr (by simp [Value.ownBlock] at hk; omega)⟩

theorem wp_append_G {o : Oper} {a : Act} {K : Act → World → Prop} {Q : Exit → Act → World → Prop} (s x : Operand) (t tx : TypeId)
    (ho : o.op = .call { callee := .builtin .append, args := #[s, x], argTypes := #[t, tx] }) (e : TypeId) (i : TypeInfo) (z : Value) (bytes : Nat) (ht : P.underlying t = some (.slice e)) (hi : P.info? e = some i) (hz : i.zero = some z) (hsize : i.size = size) (hby : i.bytes = bytes) (hzs : z.cells.size = size) (hsz : 0 < size)
    (hs : a.eval s = v) (h : OwnG w B size v n xs) (xv : Value) (hx : a.eval x = xv) (m : Nat) (news : List Value) (hsrc : Src P size tx xv m news w) (h63 : n + m ≤ maxLen) (hbytes : (n + m) * bytes ≤ 140737488355328) (hB : B ≤ w.heap.size)
    (hk : ∀ v' w', OwnG w' B size v' (n + m) (xs ++ news) → w.grownBy w' v.ownBlock → (∀ k, v'.ownBlock = some k → v.ownBlock = some k ∨ w.heap.size ≤ k) → K (a.put o.dst v') w') : o.wp P a w K Q := by
  obtain ⟨v', w', hr, h2, h3, h4⟩ := OwnG.append t tx o.type e i z bytes ht hi hz hsize hby hzs hsz h xv m news hsrc h63 hbytes hB
  unfold Oper.wp execOp
  simp only [ho, resolve, invoke, builtin, Sem.run_bind, Sem.run_pure, Result.andThen_ok, List.map_toArray, List.map_cons, List.map_nil, hs, hx, hr]
  exact hk v' w' h2 h3 h4

/-- a slice of bytes of the call's own, that reads as a list -/
def OwnB (w : World) (B : Nat) (v : Value) (l : List UInt8) : Prop := OwnG w B 1 v l.length (Lib.byteCells l)
theorem OwnB.nil (w : World) (B : Nat) : OwnB w B (.slice none 0 0) [] := OwnG.nil w B 1
theorem OwnB.sl {l : List UInt8} (h : OwnB w B v l) : ∃ a c, v = .slice a l.length c ∧ Sl w a l.length c l := by
  rcases h.2 with ⟨rfl, hl⟩ | ⟨g, o, cap, rfl, h3, h4, h5, h6, h7, h8⟩
  · have : l = [] := List.eq_nil_of_length_eq_zero hl
    subst this
    exact ⟨none, 0, rfl, rfl, Nat.le_refl _, Nat.zero_le _, fun _ => rfl, .inl rfl⟩
  · refine ⟨_, _, rfl, rfl, h5, h6, (fun h => by cases h), .inr ⟨g, o, rfl, fun i hi => h8 i _ ?_⟩⟩
    simp [Lib.byteCells, List.getD_eq_getElem?_getD, hi]
theorem OwnB.own {l : List UInt8} (h : OwnB w B v l) : ∀ k, v.ownBlock = some k → B ≤ k ∧ k < w.heap.size := OwnG.lt h
theorem OwnB.after {l : List UInt8} (h : OwnB w B v l) (hb : Below w.heap.size w w') : OwnB w' B v l := OwnG.after h hb
theorem OwnB.le {B' : Nat} {l : List UInt8} (h : OwnB w B v l) (hB : B' ≤ B) : OwnB w B' v l := OwnG.le h hB
theorem Sl.src {a : Option Addr} {m c : Nat} {l : List UInt8} (h : Sl w a m c l) {t e : TypeId} (ht : P.underlying t = some (.slice e)) : Src P 1 t (.slice a m c) m (Lib.byteCells l) w := by
  obtain ⟨h1, h2, h3, h5, h4⟩ := h
  cases a with
  | none =>
    have hc := h5 rfl
    subst hc
    obtain rfl : m = 0 := by omega
    have hl2 : l = [] := List.eq_nil_of_length_eq_zero h1.symm
    subst hl2
    exact Src.ofNil w ht 0
  | some ad =>
    refine Src.ofSlice w ht ad m c _ (by simp [Lib.byteCells, h1]) (fun j u hj => ?_) (fun u hu => ?_)
    · rcases h4 with h4 | ⟨b, o', e', h4⟩
      · have hl2 : l = [] := List.eq_nil_of_length_eq_zero (by omega)
        subst hl2
        simp [Lib.byteCells] at hj
      · obtain rfl := Option.some.inj e'
        have hlt : j < l.length := by
          rcases Nat.lt_or_ge j l.length with h' | h'
          · exact h'
          · simp [Lib.byteCells, List.getElem?_eq_none h'] at hj
        simp [Lib.byteCells, hlt] at hj
        rw [Addr.add_lit, h4 j (by omega), ← hj]
        simp [List.getD_eq_getElem?_getD, hlt]
    · obtain ⟨_, _, rfl⟩ := List.mem_map.1 hu
      rfl

theorem infoU8G : (Tryz.prog.info? 5).map (fun i => (i.zero, i.size, i.bytes)) = some (some (.int .u8 0), 1, 1) := by kernel_rfl

/-- 'append(out, x...)' of bytes: out the call's own -/
theorem wp_append_B3 {o : Oper} {a : Act} {K : Act → World → Prop} {Q : Exit → Act → World → Prop} (s x : Operand)
    (ho : o.op = .call { callee := .builtin .append, args := #[s, x], argTypes := #[23, 23] })
    {l : List UInt8} (hs : a.eval s = v) (h : OwnB w B v l) {ax : Option Addr} {m c : Nat} {l2 : List UInt8} (hx : a.eval x = .slice ax m c) (hsl : Sl w ax m c l2) (hbytes : l.length + m ≤ 140737488355328) (hB : B ≤ w.heap.size)
    (hk : ∀ v' w', OwnB w' B v' (l ++ l2) → w.grownBy w' v.ownBlock → (∀ k, v'.ownBlock = some k → v.ownBlock = some k ∨ w.heap.size ≤ k) → K (a.put o.dst v') w') : o.wp Tryz.prog a w K Q := by
  obtain ⟨i0, hi, hi2⟩ := Option.map_eq_some_iff.1 infoU8G
  simp only [Prod.mk.injEq] at hi2
  obtain ⟨hz0, hz1, hz2⟩ := hi2
  refine wp_append_G s x 23 23 ho 5 i0 (.int .u8 0) 1 Tryz.underlying23 hi hz0 hz1 hz2 rfl (by decide) hs h _ hx m _ (hsl.src Tryz.underlying23) (by unfold maxLen; omega) (by omega) hB (fun v' w' h1 h2 h3 => hk v' w' ?_ h2 h3)
  rw [byteCells_append, hsl.1] at h1
  unfold OwnB
  rw [List.length_append]
  exact h1
theorem wp_append_B {o : Oper} {a : Act} {K : Act → World → Prop} {Q : Exit → Act → World → Prop} (s x : Operand)
    (ho : o.op = .call { callee := .builtin .append, args := #[s, x], argTypes := #[23, 23] })
    {l : List UInt8} (hs : a.eval s = v) (h : OwnB w B v l) {ax : Option Addr} {m c : Nat} {l2 : List UInt8} (hx : a.eval x = .slice ax m c) (hsl : Sl w ax m c l2) (hbytes : l.length + m ≤ 140737488355328) (hB : B ≤ w.heap.size)
    (hk : ∀ v' w', OwnB w' B v' (l ++ l2) → w.grownBy w' v.ownBlock → K (a.put o.dst v') w') : o.wp Tryz.prog a w K Q :=
  wp_append_B3 s x ho hs h hx hsl hbytes hB fun v' w' h1 h2 _ => hk v' w' h1 h2
theorem wpList_append_B {ops : Array Oper} {rest : List Oper} {o : Oper} {a : Act} {Q : Exit → Act → World → Prop} (hgd : o.guard = none) (s x : Operand)
    (ho : o.op = .call { callee := .builtin .append, args := #[s, x], argTypes := #[23, 23] })
    {l : List UInt8} (hs : a.eval s = v) (h : OwnB w B v l) {ax : Option Addr} {m c : Nat} {l2 : List UInt8} (hx : a.eval x = .slice ax m c) (hsl : Sl w ax m c l2) (hbytes : l.length + m ≤ 140737488355328) (hB : B ≤ w.heap.size)
    (hk : ∀ v' w', OwnB w' B v' (l ++ l2) → w.grownBy w' v.ownBlock → wpList Tryz.prog ops Q rest (a.put o.dst v') w') : wpList Tryz.prog ops Q (o :: rest) a w :=
  wpList_plain hgd fun _ hK => wp_append_B s x ho hs h hx hsl hbytes hB fun v' w' h1 h2 => hK _ _ (hk v' w' h1 h2)
/-- memory made, and the blocks of a set touched -/
structure But (S : Nat → Prop) (w w' : World) : Prop where
  os : w'.os = w.os
  tape : w'.tape = w.tape
  output : w'.output = w.output
  size : w.heap.size ≤ w'.heap.size
  block : ∀ k, k < w.heap.size → ¬ S k → w'.heap[k]? = w.heap[k]?

section
variable {S T : Nat → Prop} {w1 w2 w3 : World}
theorem But.refl (S : Nat → Prop) (w : World) : But S w w := ⟨rfl, rfl, rfl, Nat.le_refl _, fun _ _ _ => rfl⟩
theorem But.trans (h : But S w1 w2) (h' : But T w2 w3) (hT : ∀ k, T k → S k ∨ w1.heap.size ≤ k) : But S w1 w3 :=
  ⟨h'.os.trans h.os, h'.tape.trans h.tape, h'.output.trans h.output, Nat.le_trans h.size h'.size, fun k hk hS =>
    (h'.block k (Nat.lt_of_lt_of_le hk h.size) (fun hT' => (hT k hT').elim hS (fun e => by omega))).trans (h.block k hk hS)⟩
theorem But.mono (h : But S w1 w2) (hT : ∀ k, S k → T k) : But T w1 w2 := ⟨h.os, h.tape, h.output, h.size, fun k hk hS => h.block k hk fun e => hS (hT k e)⟩
theorem But.drew (h : But S w1 w2) : But S w1 w2.drew := ⟨h.os, h.tape, h.output, h.size, h.block⟩
theorem But.alloc (h : But S w1 w2) (o : Obj) : But S w1 (w2.alloc o) :=
  ⟨h.os, h.tape, h.output, by have := h.size; simp; omega, fun k hk hS => (Below.heap_alloc w2 o k (Nat.lt_of_lt_of_le hk h.size)).trans (h.block k hk hS)⟩
theorem But.setCell (h : But S w1 w2) {p : Addr} (hp : S p.block ∨ w1.heap.size ≤ p.block) (u : Value) : But S w1 (w2.setCell p u) :=
  ⟨h.os, h.tape, h.output, by have := h.size; simpa using this, fun k hk hS =>
    (Below.heap_setCell w2 p u k (fun e => hp.elim (fun e' => hS (e ▸ e')) (fun e' => by omega))).trans (h.block k hk hS)⟩
theorem But.ofBelow (h : Below w1.heap.size w1 w2) : But S w1 w2 := ⟨h.os, h.tape, h.output, h.size, fun k hk _ => h.block k hk⟩
theorem But.ofGrown {row : Option Nat} (h : w1.grownBy w2 row) (hS : ∀ k, row = some k → S k) : But S w1 w2 := ⟨h.os, h.tape, h.output, h.size, fun k hk hn => h.block k hk fun e => hn (hS k e.symm)⟩
theorem But.below (h : But S w1 w2) {B : Nat} (hB : B ≤ w1.heap.size) (hS : ∀ k, S k → B ≤ k) : Below B w1 w2 :=
  ⟨h.os, h.tape, h.output, h.size, fun k hk => h.block k (by omega) fun e => by have := hS k e; omega⟩
theorem But.ofStored {g : Nat} (h : Stored w1 w2 g) (hb : Below 0 w1 w2) : But (fun k => k = g) w1 w2 := ⟨hb.os, hb.tape, hb.output, hb.size, fun k _ hk => h.other k hk⟩
/-- what touches the set alone, behind a Below -/
theorem But.after {B : Nat} {w0 : World} (h0 : Below B w0 w1) (h : But S w1 w2) (hB : B ≤ w1.heap.size) (hS : ∀ k, S k → B ≤ k) : Below B w0 w2 :=
  h0.trans (h.below hB hS)
theorem But.box {g : Nat} {T : TypeId} {cs : Array Value} (h : But S w1 w2) (hb : Box w1 g T cs) (hg : ¬ S g) : Box w2 g T cs := (h.block g hb.lt hg).trans hb
theorem OwnG.but {B size n : Nat} {v : Value} {xs : List Value} (h : OwnG w1 B size v n xs) (hb : But S w1 w2) (hg : ∀ k, v.ownBlock = some k → ¬ S k) : OwnG w2 B size v n xs :=
  h.keep hb.size fun g hv => hb.block g (h.lt g hv).2 (hg g hv)
theorem Sl.but {a : Option Addr} {n c : Nat} {l : List UInt8} (h : Sl w1 a n c l) (hb : But S w1 w2) {ok : Nat → Prop} (hi : InB ok a n) (hok : ∀ k, ok k → ¬ S k) : Sl w2 a n c l := by
  rcases hi with hi | hi
  · exact h.keep (.inl hi)
  · rcases h.inB with h0 | h0
    · exact h.keep (.inl h0)
    · exact h.keep (.inr fun b o s e => hb.block b (h0 b o s e) (hok b (hi b o s e)))
theorem RowAt.but {a : Option Addr} {n c : Nat} {K : Nat → SV} (h : RowAt w1 a n c K) (hb : But S w1 w2) {ok : Nat → Prop} (hi : InB ok a n) (hok : ∀ k, ok k → ¬ S k) : RowAt w2 a n c K := by
  rcases hi with hi | hi
  · exact h.keep (.inl hi)
  · rcases h.lt with h0 | h0
    · exact h.keep (.inl h0)
    · exact h.keep (.inr fun b o s e => hb.block b (h0 b o s e) (hok b (hi b o s e)))
theorem RdI.but {ok : Nat → Prop} {v : SV} {s : Sx} (h : RdI ok w1 v s) (hb : But S w1 w2) (hok : ∀ k, ok k → ¬ S k) : RdI ok w2 v s :=
  (h.there.keep fun b hb' => hb.block b hb'.2 (hok b hb'.1)).mono fun _ h => h.1
end

/-- '[]byte(s)' -/
theorem conv_own (w : World) (s : ByteArray) (hs : s.size ≤ 140737488355328) : ∃ v w', (convert 9 23 (.string s)).run Tryz.prog w = .ok v w' ∧ OwnB w' w.heap.size v s.data.toList ∧ Below w.heap.size w w' := by
  obtain ⟨c, w', hr, hb, hn, hm, hB⟩ := conv_str w s hs
  refine ⟨_, w', hr, ?_, hB⟩
  have hr' := hr
  rw [Lib.run_convert_string_bytes w 9 23 5 s Tryz.underlying9 Tryz.underlying23 Tryz.underlying5] at hr'
  injection hr' with h1 h2
  injection h1 with _ _ hc
  have hnew := Lib.bytesWorld_at_new w 5 s
  rw [h2] at hnew
  have hsz : (Lib.bytesCells w 5 s).size = c := by
    rw [← hc]
    have := grownCap_ge w s.size 0 5
    simp [Lib.bytesCells]
    have : s.data.size = s.size := rfl
    omega
  have hl : s.data.toList.length = s.size := by rw [Array.length_toList]; rfl
  unfold OwnB
  rw [hl]
  refine .made (by rw [byteCells_length, hl, Nat.mul_one]) (Nat.le_refl _) hb.lt hn hm (fun j hj => ?_) (fun j u hu => ?_)
  · rw [Nat.zero_add]
    refine ⟨by rw [cell_of_row _ _ j _ _ _ hnew]; simp; omega, ?_⟩
    simp only [World.frozen?, hnew]
    simp
    omega
  · rw [Nat.zero_add]
    have hlt : j < s.data.toList.length := by
      rcases Nat.lt_or_ge j s.data.toList.length with h' | h'
      · exact h'
      · rw [List.getElem?_eq_none (by rw [byteCells_length]; exact h')] at hu; cases hu
    rw [hb.cell j hlt]
    simp [Lib.byteCells] at hu
    obtain ⟨x, hx, rfl⟩ := hu
    simp [List.getD_eq_getElem?_getD, hx]
end Go.Proofs.YtkbblhioncecmaaGreatDoor
namespace Go.Proofs.YtkbblhioncecmaaGreatDoor
open Go.RowKit

def Tab (w : World) : Prop := Lib.TabIs Tryz.prog w "internal/strconv.uint64pow10" .u64 Lib.pow10Tab
theorem Tab.after {w w' : World} (h : Tab w) (hb : Below w.heap.size w w') : Tab w' := by
  unfold Tab Lib.TabIs at *
  cases hg : Tryz.prog.globalNamed "internal/strconv.uint64pow10" with
  | none => unfold World.var? at h; rw [hg] at h; cases h
  | some g =>
    unfold World.var? at h ⊢
    rw [hg] at h ⊢
    simp only [Option.bind_some] at h ⊢
    have hlt : g < w.heap.size := by
      rcases Nat.lt_or_ge g w.heap.size with h' | h'
      · exact h'
      · rw [Array.getElem?_eq_none h'] at h; cases h
    rw [hb.block g hlt]
    exact h

/-- a length's digits -/
def numL (n : Int) : List UInt8 := Lib.decDigits n.toNat
theorem itoa_max (n : Int) : Lib.itoa (max n 0) = numL n := by
  unfold Lib.itoa numL
  rw [if_neg (by omega)]
  congr 1
  omega

theorem putLen_any (n : Int) (h0 : -9223372036854775808 ≤ n) (h1 : n ≤ 9223372036854775807) (w : World) (ht : Tab w) :
    Calls Tryz.prog 76 #[.int .i64 n] w fun e w' => e = .returned (.string ⟨(numL n).toArray⟩) ∧ Below w.heap.size w w' := by
  have HM := Lib.hid (itoa_max n)
  go_enter Tryz.func76, Tryz.ntmps76
  go_wp2_with fail
  refine (Tryz.strconv_Itoa _ (by omega) (by omega) _ ht).mono ?_
  rintro e w' ⟨rfl, k, os, rfl⟩
  rw [HM.out]
  go_wp2_with fail
  go_ret
  exact ⟨rfl, Lib.below_grow _ _ (Nat.le_refl _) _ _⟩
end Go.Proofs.YtkbblhioncecmaaGreatDoor
namespace Go.Proofs.YtkbblhioncecmaaGreatDoor
open Go.RowKit

variable {P : Program} {ops : Array Oper}

end Go.Proofs.YtkbblhioncecmaaGreatDoor

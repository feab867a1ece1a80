/- Notation: the builder's functions, with what they leave alone. -/
import Derived.Test.YtkbblhioncecmaaDoorNtT
namespace Go.Proofs.YtkbblhioncecmaaDoor
open Go.RowKit
set_option linter.unusedVariables false
set_option linter.unusedSimpArgs false

/-- the row that the builder at b owns lies in block g -/
def OwnOf (w : World) (b g : Nat) : Prop := ∃ p v T z, w.heap[b]? = some (.cells #[p, v] T z) ∧ v.ownBlock = some g
/-- blocks that are neither the builder's nor its row's stay, and stay no row of it -/
def Kept (b : Nat) (w w' : World) : Prop := ∀ g, g < w.heap.size → g ≠ b → ¬ OwnOf w b g → w'.heap[g]? = w.heap[g]? ∧ ¬ OwnOf w' b g
theorem Kept.trans {b : Nat} {w1 w2 w3 : World} (h : Kept b w1 w2) (h' : Kept b w2 w3) (hz : w1.heap.size ≤ w2.heap.size) : Kept b w1 w3 := fun g hg hb ho =>
  ⟨((h' g (Nat.lt_of_lt_of_le hg hz) hb (h g hg hb ho).2).1).trans (h g hg hb ho).1, (h' g (Nat.lt_of_lt_of_le hg hz) hb (h g hg hb ho).2).2⟩
theorem Kept.box {b : Nat} {w w' : World} (h : Kept b w w') {g : Nat} {T : TypeId} {cs : Array Value} (hx : Box w g T cs) (hb : g ≠ b) (ho : ¬ OwnOf w b g) : Box w' g T cs := (h g hx.lt hb ho).1.trans hx
theorem kept_below {b : Nat} {w w' : World} (hb : b < w.heap.size) (h : Below w.heap.size w w') : Kept b w w' := fun g hg _ ho =>
  ⟨h.block g hg, fun ⟨p, v, T, z, h1, h2⟩ => ho ⟨p, v, T, z, (h.block b hb).symm.trans h1, h2⟩⟩
/-- the call's own row, from its block's head on, and as XOwnG has it -/
def OwnR (w : World) (B : Nat) (v : Value) (l : List UInt8) : Prop := w.ownsRow B 5 1 v l.length (Lib.byteCells l) ∧ OwnB w B v l
theorem owns_keep {w w' : World} {B e size n : Nat} {v : Value} {xs : List Value} (h : w.ownsRow B e size v n xs) (hk : ∀ g, v.ownBlock = some g → w'.heap[g]? = w.heap[g]?) : w'.ownsRow B e size v n xs := by
  refine ⟨h.1, ?_⟩
  rcases h.2 with h2 | ⟨g, cap, cur, rfl, hb, hg, r⟩
  · exact .inl h2
  · exact .inr ⟨g, cap, cur, rfl, hb, (hk g rfl).trans hg, r⟩
theorem OwnR.keep {w w' : World} {B : Nat} {v : Value} {l : List UInt8} (h : OwnR w B v l) (hz : w.heap.size ≤ w'.heap.size) (hk : ∀ g, v.ownBlock = some g → w'.heap[g]? = w.heap[g]?) : OwnR w' B v l :=
  ⟨owns_keep h.1 hk, OwnG.keep h.2 hz hk⟩
theorem OwnR.after {w w' : World} {B : Nat} {v : Value} {l : List UInt8} (h : OwnR w B v l) (hb : Below w.heap.size w w') : OwnR w' B v l :=
  h.keep hb.size (fun g hg => hb.block g (h.2.own g hg).2)
theorem OwnR.nil (w : World) (B : Nat) : OwnR w B (.slice none 0 0) [] := ⟨World.ownsRow_nil _ _ _ _, OwnB.nil w B⟩
theorem OwnR.own {w : World} {B : Nat} {v : Value} {l : List UInt8} (h : OwnR w B v l) : ∀ k, v.ownBlock = some k → B ≤ k ∧ k < w.heap.size := h.2.own
theorem OwnR.sl {w : World} {B : Nat} {v : Value} {l : List UInt8} (h : OwnR w B v l) : ∃ a c, v = .slice a l.length c ∧ Sl w a l.length c l := h.2.sl
/-- a slice's bytes behind the call's own, in the words of the kit's law -/
theorem run_append_slR {w : World} (B : Nat) (ty : TypeId) (i : TypeInfo) (hi : Tryd.prog.info? 5 = some i) (hz : i.zero = some (.int .u8 0)) (hsize : i.size = 1) (hby : i.bytes = 1)
    {v : Value} {n : Nat} {l : List UInt8} (hown : w.ownsRow B 5 1 v n (Lib.byteCells l)) {ax : Option Addr} {m c : Nat} {l2 : List UInt8} (hsl : Sl w ax m c l2) (hbytes : n + m ≤ 140737488355328) (hbase : B ≤ w.heap.size) :
    ∃ v' w', (Builtin.append_ #[23, 23] ty #[v, .slice ax m c]).run Tryd.prog w = .ok v' w' ∧ w'.ownsRow B 5 1 v' (n + m) (Lib.byteCells (l ++ l2)) := by
  obtain ⟨h1, h2, h3, h5, h4⟩ := hsl
  cases ax with
  | none =>
    have hc := h5 rfl
    subst hc
    obtain rfl : m = 0 := by omega
    have hl2 : l2 = [] := List.eq_nil_of_length_eq_zero h1.symm
    subst hl2
    exact ⟨v, w, run_append_owned_none (P := Tryd.prog) (w := w) B 23 ty 5 i 1 Tryd.underlying23 hi v n _ hown, by simpa using hown⟩
  | some ad =>
    obtain ⟨v', w', hr, ho, _⟩ := run_append_own w B 23 ty 5 i (.int .u8 0) 1 1 Tryd.underlying23 hi hz hsize hby rfl (by decide) v n _ hown ad m c (Lib.byteCells l2) (by simp [Lib.byteCells, h1]) (by
      intro j u hj
      rcases h4 with h4 | ⟨b, o', e', h4⟩
      · have hl2 : l2 = [] := List.eq_nil_of_length_eq_zero (by omega)
        subst hl2
        simp [Lib.byteCells] at hj
      · obtain rfl := Option.some.inj e'
        have hlt : j < l2.length := by
          rcases Nat.lt_or_ge j l2.length with h' | h'
          · exact h'
          · simp [Lib.byteCells, List.getElem?_eq_none h'] at hj
        simp [Lib.byteCells, hlt] at hj
        rw [Addr.add_lit, h4 j (by omega), ← hj]
        simp [List.getD_eq_getElem?_getD, hlt]) (by
      intro u hu
      obtain ⟨_, _, rfl⟩ := List.mem_map.1 hu
      rfl) (by unfold maxLen; omega) (by omega) hbase
    exact ⟨v', w', hr, by rw [← byteCells_append]; exact ho⟩
theorem wpList_append_R3 {w : World} {B : Nat} {v : Value} {ops : Array Oper} {rest : List Oper} {o : Oper} {a : Act} {Q : Exit → Act → World → Prop} (hgd : o.guard = none) (s x : Operand)
    (ho : o.op = .call { callee := .builtin .append, args := #[s, x], argTypes := #[23, 23] })
    {l : List UInt8} (hs : a.eval s = v) (h : OwnR w B v l) {ax : Option Addr} {m c : Nat} {l2 : List UInt8} (hx : a.eval x = .slice ax m c) (hsl : Sl w ax m c l2) (hbytes : l.length + m ≤ 140737488355328) (hB : B ≤ w.heap.size)
    (hk : ∀ v' w', OwnR w' B v' (l ++ l2) → w.grownBy w' v.ownBlock → (∀ k, v'.ownBlock = some k → v.ownBlock = some k ∨ w.heap.size ≤ k) → wpList Tryd.prog ops Q rest (a.put o.dst v') w') : wpList Tryd.prog ops Q (o :: rest) a w := by
  refine wpList_plain hgd fun _ hK => ?_
  obtain ⟨i0, hi, hi2⟩ := Option.map_eq_some_iff.1 infoU8G
  simp only [Prod.mk.injEq] at hi2
  obtain ⟨hz0, hz1, hz2⟩ := hi2
  obtain ⟨v', w', hr, h1, h2, h3⟩ := OwnG.append 23 23 o.type 5 i0 (.int .u8 0) 1 Tryd.underlying23 hi hz0 hz1 hz2 rfl (by decide) h.2 (.slice ax m c) m _ (hsl.src Tryd.underlying23) (by unfold maxLen; omega) (by omega) hB
  obtain ⟨v2, w2, hr2, ho2⟩ := run_append_slR B o.type i0 hi hz0 hz1 hz2 h.1 hsl hbytes hB
  have e := hr.symm.trans hr2
  injection e with e1 e2
  subst e1 e2
  unfold Oper.wp
  simp [execOp, ho, resolve, invoke, builtin, hs, hx, hr, Result.andThen]
  refine hK _ _ (hk v' w' ⟨?_, ?_⟩ h2 h3)
  · rw [List.length_append, ← hsl.1]
    exact ho2
  · rw [byteCells_append, hsl.1] at h1
    unfold OwnB
    rw [List.length_append]
    exact h1
theorem wpList_append_RS3 {w : World} {B : Nat} {v : Value} {ops : Array Oper} {rest : List Oper} {o : Oper} {a : Act} {Q : Exit → Act → World → Prop} (hgd : o.guard = none) (s x : Operand)
    (ho : o.op = .call { callee := .builtin .append, args := #[s, x], argTypes := #[23, 9] })
    {l : List UInt8} (hs : a.eval s = v) (h : OwnR w B v l) {l2 : List UInt8} (hx : a.eval x = .string ⟨l2.toArray⟩) (hbytes : l.length + l2.length ≤ 140737488355328) (hB : B ≤ w.heap.size)
    (hk : ∀ v' w', OwnR w' B v' (l ++ l2) → w.grownBy w' v.ownBlock → (∀ k, v'.ownBlock = some k → v.ownBlock = some k ∨ w.heap.size ≤ k) → wpList Tryd.prog ops Q rest (a.put o.dst v') w') : wpList Tryd.prog ops Q (o :: rest) a w := by
  refine wpList_plain hgd fun _ hK => ?_
  obtain ⟨i0, hi, hi2⟩ := Option.map_eq_some_iff.1 infoU8G
  simp only [Prod.mk.injEq] at hi2
  obtain ⟨hz0, hz1, hz2⟩ := hi2
  have hsz : (⟨l2.toArray⟩ : ByteArray).size = l2.length := by simp [ByteArray.size]
  have hsrc := Src.ofString (P := Tryd.prog) (w := w) Tryd.underlying9 ⟨l2.toArray⟩
  rw [hsz, show byteCells ⟨l2.toArray⟩ = Lib.byteCells l2 from rfl] at hsrc
  obtain ⟨v', w', hr, h1, h2, h3⟩ := OwnG.append 23 9 o.type 5 i0 (.int .u8 0) 1 Tryd.underlying23 hi hz0 hz1 hz2 rfl (by decide) h.2 (.string ⟨l2.toArray⟩) l2.length _ hsrc (by unfold maxLen; omega) (by omega) hB
  obtain ⟨v2, w2, hr2, ho2, _⟩ := Lib.run_append_own_string w B 23 9 o.type 5 i0 Tryd.underlying23 Tryd.underlying9 hi hz0 hz1 hz2 v _ _ h.1 ⟨l2.toArray⟩ (by rw [hsz]; unfold maxLen; omega) (by rw [hsz]; exact hbytes) hB
  have e := hr.symm.trans hr2
  injection e with e1 e2
  subst e1 e2
  unfold Oper.wp
  simp [execOp, ho, resolve, invoke, builtin, hs, hx, hr, Result.andThen]
  refine hK _ _ (hk v' w' ⟨?_, ?_⟩ h2 h3)
  · rw [hsz] at ho2
    rw [List.length_append, ← byteCells_append]
    exact ho2
  · rw [byteCells_append] at h1
    unfold OwnB
    rw [List.length_append]
    exact h1
/-- the builder at b holds the bytes l -/
def Bl (B b : Nat) (l : List UInt8) (w : World) : Prop := ∃ p v, (p = .pointer none ∨ p = .pointer (some ⟨b, 0, none⟩)) ∧ w.heap[b]? = some (.cells #[p, v] 61 (0, 0)) ∧ OwnR w B v l ∧ v.ownBlock ≠ some b ∧ B ≤ b
theorem Bl.lt {B b : Nat} {l : List UInt8} {w : World} (h : Bl B b l w) : b < w.heap.size := by
  obtain ⟨p, v, _, h, _⟩ := h
  exact Box.lt h
theorem Bl.after {B b : Nat} {l : List UInt8} {w w' : World} (h : Bl B b l w) (hb : Below w.heap.size w w') : Bl B b l w' := by
  have hlt := h.lt
  obtain ⟨p, v, h1, h2, h3, h4, h5⟩ := h
  exact ⟨p, v, h1, (hb.block b hlt).trans h2, h3.after hb, h4, h5⟩
theorem copyCheckK (B b : Nat) (l : List UInt8) (w : World) (h : Bl B b l w) :
    Calls Tryd.prog 78 #[.pointer (some ⟨b, 0, none⟩)] w fun e w' => e = .returned (.tuple #[]) ∧ (∃ v, w'.heap[b]? = some (.cells #[.pointer (some ⟨b, 0, none⟩), v] 61 (0, 0)) ∧ OwnR w' B v l ∧ v.ownBlock ≠ some b ∧ B ≤ b) ∧ Below B w w' ∧ Kept b w w' ∧ w.heap.size = w'.heap.size := by
  have hlt := h.lt
  obtain ⟨p, v, hp, h1, h2, h3, h4⟩ := h
  have hX : Box w b 61 #[p, v] := h1
  rcases hp with rfl | rfl
  · refine (copyCheck_fresh b w (hX.cell 0 rfl) (by simp [World.shape?, h1]) (hX.frozen 0)).mono ?_
    rintro e w' ⟨rfl, rfl⟩
    have hY := hX.set 0 (.pointer (some ⟨b, 0, none⟩))
    refine ⟨rfl, ⟨v, hY, ?_, h3, h4⟩, (Below.refl B w).setCell (p := ⟨b, 0, none⟩) h4 _, fun g hg hb ho => ⟨?_, fun ⟨p', v', T, z, h5, h6⟩ => ?_⟩, by simp⟩
    · exact OwnR.keep h2 (by simp) (fun g hg => heap_setCell_other _ _ _ _ (fun e => h3 (by rw [hg, e])))
    · exact heap_setCell_other _ _ _ _ (fun e => hb e)
    · have h7 := Option.some.inj (h5.symm.trans hY)
      cases h7
      exact ho ⟨_, _, _, _, h1, h6⟩
  · refine (copyCheck_used b w (hX.cell 0 rfl)).mono ?_
    rintro e w' ⟨rfl, rfl⟩
    exact ⟨rfl, ⟨v, h1, h2, h3, h4⟩, Below.refl B _, fun g hg hb ho => ⟨rfl, ho⟩, rfl⟩
/-- the row was grown and put back -/
theorem kept_put {w1 w2 : World} {b : Nat} {v v' : Value} {T : TypeId} (hbk : Box w1 b T #[.pointer (some ⟨b, 0, none⟩), v]) (hne : v.ownBlock ≠ some b) (hg : w1.grownBy w2 v.ownBlock) (hw : ∀ k, v'.ownBlock = some k → v.ownBlock = some k ∨ w1.heap.size ≤ k) :
    Box (w2.setCell ⟨b, 1, none⟩ v') b T #[.pointer (some ⟨b, 0, none⟩), v'] ∧ Kept b w1 (w2.setCell ⟨b, 1, none⟩ v') := by
  have h2 : Box w2 b T #[.pointer (some ⟨b, 0, none⟩), v] := (hg.block b hbk.lt (fun e => hne e.symm)).trans hbk
  have h3 := h2.set 1 v'
  refine ⟨h3, fun g hg1 hb ho => ⟨?_, fun ⟨p', u, T', z, h5, h6⟩ => ?_⟩⟩
  · rw [heap_setCell_other _ _ _ _ (fun e => hb e)]
    exact hg.block g hg1 (fun e => ho ⟨_, _, _, _, hbk, e.symm⟩)
  · have h7 := Option.some.inj (h5.symm.trans h3)
    cases h7
    rcases hw g h6 with h | h
    · exact ho ⟨_, _, _, _, hbk, h⟩
    · omega
end Go.Proofs.YtkbblhioncecmaaDoor

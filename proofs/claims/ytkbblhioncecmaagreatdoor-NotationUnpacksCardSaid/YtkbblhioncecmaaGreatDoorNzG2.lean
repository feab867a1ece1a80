/- More steps: an operation that its guard shuts out; a variable made, in a world left open. Regions that draw their order: calls that always hand back the same may be taken first, too; what else is done, is done in whatever world has more memory. The document's Dec: what it computes. The document's text and Form: what they compute. The document's Form and May: what they compute. The document's May: what it computes; what is not great is not long. Drawn regions: one cell stored; values that must be read ahead of a store. Drawn regions that read ahead of what they write: reads and calls are taken first; from the first write on nothing is asked of the world. The program's put, and what it counts: what they compute. The program's right and May: what they compute. The program's Put: what it computes. Atom, List, and the document's example. -/
import Derived.Test.YtkbblhioncecmaaGreatDoorNzG1
import Derived.Laws.CopyOwn
import Derived.StillTail
import Derived.Deep.LoopGhost
namespace Go.Proofs.YtkbblhioncecmaaGreatDoor
open Go.RowKit

variable {P : Program} {ops : Array Oper}

/-- two boxes made one behind the other -/
theorem Box.before {w : World} {g k : Nat} {T : TypeId} {cs : Array Value} (h : Box w g T cs) (hk : w.heap.size ≤ k) : g ≠ k := by
  have := h.lt
  omega
theorem Box.behind {w : World} {g k : Nat} {T : TypeId} {cs : Array Value} (h : Box w g T cs) (hk : w.heap.size ≤ k) : k ≠ g := by
  have := h.lt
  omega

end Go.Proofs.YtkbblhioncecmaaGreatDoor
namespace Go.Proofs.YtkbblhioncecmaaGreatDoor
open Go.RowKit

variable {P : Program} {ops : Array Oper} {Q : Exit → Act → World → Prop} {md : Region.Mode} {S : World → Prop}

/-- one value, and no memory changed that was there -/
def tameUpon (P : Program) (w : World) (v : Value) : Result Next → Prop
  | .ok (.value u) w' => w' = w ∧ u = v
  | .ok (.enter f args) w' => w' = w ∧ Calls P f args w (fun e w'' => e = .returned v ∧ Below w.heap.size w w'')
  | _ => False

def Tame (P : Program) (ops : Array Oper) (S : World → Prop) (o : Oper) (v : Value) (a : Act) : Prop :=
  (Region.wanted o (yielded ops a.tmps) = true ∧ ∀ w, S w → tameUpon P w v ((execOp a.eval o).run P w)) ∨ (Region.wanted o (yielded ops a.tmps) = false ∧ v = undef)

theorem Tame.wpOp {i : Nat} {o : Oper} {v : Value} {a : Act} (hi : ops[i]? = some o) (hy : Tame P ops S o v a) {K : Act → World → Prop} {w : World} (hS : S w)
    (h : ∀ w2, Below w.heap.size w w2 → K (a.put o.dst v) w2) : wpOp P ops Q i K a w := by
  unfold Go.wpOp
  simp only [hi]
  rcases hy with ⟨hw, hv⟩ | ⟨hw, rfl⟩
  · simp only [hw, if_true]
    left
    have h1 := hv w hS
    unfold Oper.wp
    generalize (execOp a.eval o).run P w = r at *
    cases r with
    | ok n w' =>
      cases n <;> simp only [tameUpon] at h1 <;> simp only [Oper.upon]
      case value u =>
        obtain ⟨rfl, rfl⟩ := h1
        exact h _ (Below.refl _ _)
      case enter f args =>
        obtain ⟨rfl, hc⟩ := h1
        exact hc.mono fun e w'' ⟨he, hb⟩ => by subst he; exact h _ hb
    | halt x w' => simp only [tameUpon] at h1
  · simp only [hw, Bool.false_eq_true, if_false]
    exact h _ (Below.refl _ _)

theorem Tame.of_same {o : Oper} {v : Value} {a a' : Act} (hy : Tame P ops S o v a) (he : execOp a'.eval o = execOp a.eval o)
    (hw : Region.wanted o (yielded ops a'.tmps) = Region.wanted o (yielded ops a.tmps)) : Tame P ops S o v a' := by
  unfold Tame at *
  rw [he, hw]
  exact hy

theorem wpOp_tame {j : Nat} {oi oj : Oper} {v : Value} (hj : ops[j]? = some oj) (hap : oi.apart ops oj = true) (hsi : ∀ cs b, oi.op ≠ .select cs b) (hsj : ∀ cs b, oj.op ≠ .select cs b)
    (hQ : ∀ c a w, Q (.panic c) (a.put oi.dst v) w → Q (.panic c) a w) {K : Act → World → Prop} {a : Act} {w : World} (hy : Tame P ops S oi v a)
    (h : wpOp P ops Q j K (a.put oi.dst v) w) : wpOp P ops Q j (fun a' w' => Tame P ops S oi v a' ∧ K (a'.put oi.dst v) w') a w := by
  obtain ⟨h1, h2, h3⟩ := Oper.apart_spec hap
  have keep : ∀ b : Act, Tame P ops S oi v b → ∀ u, Tame P ops S oi v (b.put oj.dst u) := fun b hb u => hb.of_same (execOp_put oi hsi b oj.dst u h3) (wanted_put oi b oj.dst u h3)
  unfold Go.wpOp at *
  simp only [hj] at *
  rw [wanted_put oj a oi.dst v h1] at h
  by_cases hw : Region.wanted oj (yielded ops a.tmps) = true
  · simp only [hw, if_true] at h ⊢
    rcases h with h | ⟨hasks, hlets⟩
    case inr => exact .inr ⟨by unfold Oper.asks at *; rw [execOp_put oj hsj a oi.dst v h1] at hasks; exact hasks, hlets⟩
    refine .inl ?_
    unfold Oper.wp at *
    rw [execOp_put oj hsj a oi.dst v h1] at h
    generalize (execOp a.eval oj).run P w = r at *
    cases r with
    | halt x w' =>
      cases x <;> simp only [Oper.upon] at h ⊢
      case panic u => exact hQ _ _ _ h
    | ok n w' =>
      cases n <;> simp only [Oper.upon] at h ⊢
      case value u => exact ⟨keep a hy u, by rw [← Act.put_comm a v u h2]; exact h⟩
      case skip => exact ⟨keep a hy _, by rw [← Act.put_comm a v undef h2]; exact h⟩
      case row row args => exact Rows.mono h fun u w'' he => ⟨keep a hy u, by rw [← Act.put_comm a v u h2]; exact he⟩
      case defer d => exact ⟨keep _ (hy.of_same (a' := { a with defers := d :: a.defers }) rfl rfl) _, by rw [← Act.put_comm _ v undef h2, ← Act.put_defers]; exact h⟩
      case enter f args =>
        refine Calls.mono h fun e w'' he => ?_
        cases e with
        | returned u => exact ⟨keep a hy u, by rw [← Act.put_comm a v u h2]; exact he⟩
        | panicked c => exact hQ _ _ _ he
        | outgrown => exact he
  · simp only [hw] at h ⊢
    exact ⟨keep a hy _, by rw [← Act.put_comm a v undef h2]; exact h⟩

/-- whatever order is picked from here on, and whatever memory is made besides -/
def wpU (P : Program) (md : Region.Mode) (ops : Array Oper) (Q : Exit → Act → World → Prop) (S : World → Prop) : Nat → Array Bool → Act → World → Prop
  | 0, listed, a, w => Region.ready md ops listed = [] ∧ ∀ w1, Below w.heap.size w w1 → S w1 → Q .normal a w1
  | fuel + 1, listed, a, w => ∀ w1, Below w.heap.size w w1 → S w1 → (Region.ready md ops listed = [] → Q .normal a w1) ∧
      ∀ i ∈ Region.ready md ops listed, wpOp P ops Q i (fun a' w' => S w' ∧ wpU P md ops Q S fuel (listed.setIfInBounds i true) a' w') a w1

theorem wpU_more : ∀ {fuel : Nat} {listed : Array Bool} {a : Act} {w w2 : World}, Below w.heap.size w w2 → wpU P md ops Q S fuel listed a w → wpU P md ops Q S fuel listed a w2
  | 0, _, _, _, _, hb, h => ⟨h.1, fun w1 b1 s1 => h.2 w1 (hb.trans (b1.mono hb.size)) s1⟩
  | _ + 1, _, _, _, _, hb, h => fun w1 b1 s1 => h w1 (hb.trans (b1.mono hb.size)) s1

theorem wpAny_of_U : ∀ (fuel : Nat) (listed : Array Bool) (a : Act) (w : World), S w → wpU P md ops Q S fuel listed a w → wpAny P md ops Q fuel listed a w
  | 0, _, _, w, hS, h => ⟨h.1, h.2 w (Below.refl _ _) hS⟩
  | fuel + 1, _, _, w, hS, h => ⟨(h w (Below.refl _ _) hS).1, fun i hi => wpOp_mono (fun a' w' h' => wpAny_of_U fuel _ a' w' h'.1 h'.2) ((h w (Below.refl _ _) hS).2 i hi)⟩

theorem wpU_first {i : Nat} {oi : Oper} {v : Value} (hi : ops[i]? = some oi) (hsel : ∀ (j : Nat) (o : Oper) cs b, ops[j]? = some o → o.op ≠ .select cs b)
    (hQ : ∀ c a w, Q (.panic c) (a.put oi.dst v) w → Q (.panic c) a w) (hK : ∀ w w', S w → Below w.heap.size w w' → S w') :
    ∀ (fuel : Nat) (listed : Array Bool) (a : Act) (w : World),
      (∀ j oj, ops[j]? = some oj → j ≠ i → listed.getD j true = false → (∀ e ∈ oj.after, Region.binds md e = true → e.on ≠ i) → oi.apart ops oj = true) →
      i ∈ Region.ready md ops listed → Tame P ops S oi v a → wpU P md ops Q S fuel (listed.setIfInBounds i true) (a.put oi.dst v) w → wpU P md ops Q S (fuel + 1) listed a w
  | 0, listed, a, w, _, hr, hy, H => fun w1 b1 s1 => by
    refine ⟨fun h => (by rw [h] at hr; cases hr), fun j hj => ?_⟩
    by_cases hji : j = i
    · subst hji
      exact hy.wpOp hi s1 fun w2 b2 => ⟨hK _ _ s1 b2, wpU_more (b1.trans (b2.mono b1.size)) H⟩
    · have := ready_mono hj hji
      rw [H.1] at this
      cases this
  | fuel + 1, listed, a, w, hfree, hr, hy, H => fun w1 b1 s1 => by
    refine ⟨fun h => (by rw [h] at hr; cases hr), fun j hj => ?_⟩
    by_cases hji : j = i
    · subst hji
      exact hy.wpOp hi s1 fun w2 b2 => ⟨hK _ _ s1 b2, wpU_more (b1.trans (b2.mono b1.size)) H⟩
    · have h1 := (H w1 b1 s1).2 j (ready_mono hj hji)
      obtain ⟨hjun, oj, hoj, hall⟩ := mem_ready.1 hj
      have hnot : ∀ e ∈ oj.after, Region.binds md e = true → e.on ≠ i := fun e he hb heq => by
        have h3 := hall e he hb
        have h0 := (mem_ready.1 hr).1
        rw [heq] at h3
        rcases Nat.lt_or_ge i listed.size with h' | h'
        · simp [h'] at h0 h3; rw [h0] at h3; cases h3
        · simp [Array.getElem?_eq_none h'] at h3
      have h2 := wpOp_tame hoj (hfree j oj hoj hji hjun hnot) (fun cs b => hsel i oi cs b hi) (fun cs b => hsel j oj cs b hoj) hQ hy h1
      refine wpOp_mono (fun a' w' h3 => ⟨h3.2.1, wpU_first hi hsel hQ hK fuel (listed.setIfInBounds j true) a' w' ?_ (ready_mono hr (Ne.symm hji)) h3.1 ?_⟩) h2
      · intro k ok hk hki hun hno
        refine hfree k ok hk hki ?_ hno
        by_cases hjk : j = k
        · subst hjk; exact hjun
        · rw [getD_set_ne true hjk] at hun; exact hun
      · rw [Array.setIfInBounds_comm _ _ hji]
        exact h3.2.2

/-! the moves -/
theorem wp_region_U {id : Nat} {a : Act} {w : World} {l : List Oper} (S : World → Prop) (hm : P.follows .mixedOrders = true) (h0 : S w.drew)
    (h : wpU P .any l.toArray Q S l.toArray.size (Array.replicate l.toArray.size false) a w.drew) : (Code.region id l.toArray true).wp P Q a w :=
  wp_region_any hm (wpAny_of_U _ _ _ _ h0 h)

/-- what more memory leaves alone -/
def Keeps (S : World → Prop) : Prop := ∀ w w', S w → Below w.heap.size w w' → S w'

theorem wpU_val (i : Nat) {oi : Oper} {tl : List Oper} {fuel : Nat} {listed : Array Bool} {a : Act} {w : World} (hB : Keeps S) (hi : ops.toList.drop i = oi :: tl)
    (hs : Region.noSelect ops = true) (hf : Region.free md ops listed i = true) (hr : (Region.ready md ops listed).contains i = true) (hgd : Region.wanted oi (yielded ops a.tmps) = true)
    (hQ : ∀ c a w v, Q (.panic c) (a.put oi.dst v) w → Q (.panic c) a w) (v : Value) (hy : ∀ w, S w → (execOp a.eval oi).run P w = .ok (.value v) w)
    (h : wpU P md ops Q S fuel (listed.setIfInBounds i true) (a.put oi.dst v) w) : wpU P md ops Q S (fuel + 1) listed a w :=
  wpU_first (op_of_drop hi) (Region.noSelect_spec hs) (fun c a w => hQ c a w v) hB fuel listed a w (Region.free_spec (op_of_drop hi) hf) (by simpa using hr)
    (.inl ⟨hgd, fun w hw => by rw [hy w hw]; exact ⟨rfl, rfl⟩⟩) h

theorem wpU_call (i : Nat) {oi : Oper} {tl : List Oper} {fuel : Nat} {listed : Array Bool} {a : Act} {w : World} (hB : Keeps S) (hi : ops.toList.drop i = oi :: tl)
    (hs : Region.noSelect ops = true) (hf : Region.free md ops listed i = true) (hr : (Region.ready md ops listed).contains i = true) (hgd : Region.wanted oi (yielded ops a.tmps) = true)
    (hQ : ∀ c a w v, Q (.panic c) (a.put oi.dst v) w → Q (.panic c) a w) (f : FuncId) (args : Array Value) (hrun : ∀ w, (execOp a.eval oi).run P w = .ok (.enter f args) w) (v : Value)
    (hc : ∀ w, Calls P f args w fun e w' => e = .returned v ∧ Below w.heap.size w w')
    (h : wpU P md ops Q S fuel (listed.setIfInBounds i true) (a.put oi.dst v) w) : wpU P md ops Q S (fuel + 1) listed a w :=
  wpU_first (op_of_drop hi) (Region.noSelect_spec hs) (fun c a w => hQ c a w v) hB fuel listed a w (Region.free_spec (op_of_drop hi) hf) (by simpa using hr)
    (.inl ⟨hgd, fun w _ => by rw [hrun w]; exact ⟨rfl, hc w⟩⟩) h

theorem wpU_all {rs : List Nat} {fuel : Nat} {listed : Array Bool} {a : Act} {w : World} (hr : Region.ready md ops listed = rs) (hne : rs ≠ [])
    (h : ∀ w1, Below w.heap.size w w1 → S w1 → ∀ i ∈ rs, wpOp P ops Q i (fun a' w' => S w' ∧ wpU P md ops Q S fuel (listed.setIfInBounds i true) a' w') a w1) : wpU P md ops Q S (fuel + 1) listed a w :=
  fun w1 b1 s1 => ⟨fun h0 => absurd (hr ▸ h0) hne, hr ▸ h w1 b1 s1⟩

theorem wpU_done {fuel : Nat} {listed : Array Bool} {a : Act} {w : World} (hr : Region.ready md ops listed = []) (h : ∀ w1, Below w.heap.size w w1 → S w1 → Q .normal a w1) : wpU P md ops Q S fuel listed a w := by
  cases fuel with
  | zero => exact ⟨hr, h⟩
  | succ n => exact fun w1 b1 s1 => ⟨fun _ => h w1 b1 s1, by rw [hr]; simp⟩

/-- the one that may come up -/
theorem wpU_one (i : Nat) {oi : Oper} {tl : List Oper} {fuel : Nat} {listed : Array Bool} {a : Act} {w : World} (hi : ops.toList.drop i = oi :: tl) (hr : Region.ready md ops listed = [i]) (hgd : Region.wanted oi (yielded ops a.tmps) = true)
    (h : ∀ w1, Below w.heap.size w w1 → S w1 → oi.wp P a w1 (fun a' w' => S w' ∧ wpU P md ops Q S fuel (listed.setIfInBounds i true) a' w') Q) : wpU P md ops Q S (fuel + 1) listed a w :=
  wpU_all hr (by simp) (fun w1 b1 s1 j hj => by
    obtain rfl : j = i := by simpa using hj
    exact wpOp_step (op_of_drop hi) (fun K' hK => by rw [if_pos hgd]; exact Oper.wp_mono hK (h w1 b1 s1)))

/-- two that may come up -/
theorem wpU_two (i j : Nat) {oi oj : Oper} {tl tl' : List Oper} {fuel : Nat} {listed : Array Bool} {a : Act} {w : World} (hi : ops.toList.drop i = oi :: tl) (hj : ops.toList.drop j = oj :: tl') (hr : Region.ready md ops listed = [i, j])
    (hgd : Region.wanted oi (yielded ops a.tmps) = true) (hgd' : Region.wanted oj (yielded ops a.tmps) = true)
    (h : ∀ w1, Below w.heap.size w w1 → S w1 → oi.wp P a w1 (fun a' w' => S w' ∧ wpU P md ops Q S fuel (listed.setIfInBounds i true) a' w') Q)
    (h' : ∀ w1, Below w.heap.size w w1 → S w1 → oj.wp P a w1 (fun a' w' => S w' ∧ wpU P md ops Q S fuel (listed.setIfInBounds j true) a' w') Q) : wpU P md ops Q S (fuel + 1) listed a w :=
  wpU_all hr (by simp) (fun w1 b1 s1 k hk => by
    rcases List.mem_cons.1 hk with rfl | hk
    · exact wpOp_step (op_of_drop hi) (fun K' hK => by rw [if_pos hgd]; exact Oper.wp_mono hK (h w1 b1 s1))
    · obtain rfl : k = j := by simpa using hk
      exact wpOp_step (op_of_drop hj) (fun K' hK => by rw [if_pos hgd']; exact Oper.wp_mono hK (h' w1 b1 s1)))

/-- a store of a whole array or struct (in one step: Oper.wp of a store, as a goal, is run by every tactic) -/
theorem wpU_store_box (i : Nat) {oi : Oper} {tl : List Oper} {fuel : Nat} {listed : Array Bool} {a : Act} {w : World} (hi : ops.toList.drop i = oi :: tl) (hr : Region.ready md ops listed = [i]) (hgd : Region.wanted oi (yielded ops a.tmps) = true)
    (ty : TypeId) (x y : Operand) (ho : oi.op = .store ty x y) {g : Nat} {T : TypeId} {old cells : Array Value} (hg : Box w g T old) (hx : a.eval x = .pointer (some ⟨g, 0, none⟩)) (hy : a.eval y = .agg cells) (hsz : old.size = cells.size)
    (hi' : (P.info? ty).map (·.size) = some cells.size) (h1 : cells.all (·.oneCell') = true)
    (h : ∀ w1 w', Below w.heap.size w w1 → S w1 → Box w' g T cells → Stored w1 w' g → S w' ∧ wpU P md ops Q S fuel (listed.setIfInBounds i true) (a.put oi.dst undef) w') : wpU P md ops Q S (fuel + 1) listed a w :=
  wpU_one i hi hr hgd (fun w1 b1 s1 => wp_store_box ty x y ho (hg.after b1) hx hy hsz hi' h1 (fun w' hb st => h w1 w' b1 s1 hb st))

theorem wp_alloc_new {o : Oper} {a : Act} {w : World} {K : Act → World → Prop} (ty : TypeId) (ho : o.op = .alloc ty) (cells : Array Value)
    (hr : ∀ w, (Instr.alloc ty true (.tuple #[])).run P w = .ok (.pointer (some ⟨w.heap.size, 0, none⟩)) (w.alloc (.cells cells ty)))
    (h : ∀ g w', Box w' g ty cells → w.heap.size ≤ g → Below w.heap.size w w' → K (a.put o.dst (.pointer (some ⟨g, 0, none⟩))) w') : o.wp P a w K Q := by
  unfold Oper.wp
  rw [run_alloc_box ho cells (hr w)]
  exact h _ _ (Box.new _ _ _) (Nat.le_refl _) ((Below.refl _ _).alloc (Nat.le_refl _) _)

theorem wp_callR {o : Oper} {a : Act} {w : World} {K : Act → World → Prop} (f : FuncId) (args : Array Value) (hr : (execOp a.eval o).run P w = .ok (.enter f args) w) (R : Ending → World → Prop) (hc : Calls P f args w R)
    (h : ∀ e w', R e w' → ∃ v, e = .returned v ∧ K (a.put o.dst v) w') : o.wp P a w K Q := by
  unfold Oper.wp
  rw [hr]
  refine hc.mono fun e w' he => ?_
  obtain ⟨v, rfl, hv⟩ := h e w' he
  exact hv

end Go.Proofs.YtkbblhioncecmaaGreatDoor
namespace Go.Proofs.YtkbblhioncecmaaGreatDoor
open Go.RowKit

theorem wpU_run {P : Program} {ops : Array Oper} {Q : Exit → Act → World → Prop} {md : Region.Mode} {S : World → Prop} (i : Nat) {oi : Oper} {tl : List Oper} {fuel : Nat} {listed : Array Bool} {a : Act} {w : World} (hi : ops.toList.drop i = oi :: tl) (hr : Region.ready md ops listed = [i]) (hgd : Region.wanted oi (yielded ops a.tmps) = true)
    (v : World → Value) (W : World → World) (h : ∀ w1, Below w.heap.size w w1 → S w1 → (execOp a.eval oi).run P w1 = .ok (.value (v w1)) (W w1) ∧ S (W w1) ∧ wpU P md ops Q S fuel (listed.setIfInBounds i true) (a.put oi.dst (v w1)) (W w1)) : wpU P md ops Q S (fuel + 1) listed a w :=
  wpU_one i hi hr hgd (fun w1 b1 s1 => by
    obtain ⟨h1, h2, h3⟩ := h w1 b1 s1
    unfold Oper.wp
    rw [h1]
    exact ⟨h2, h3⟩)

theorem numL_small (n : Int) (h : n < 10) : numL n = [UInt8.ofNat (48 + n.toNat)] := by
  unfold numL; rw [Lib.decDigits, dif_pos (by omega)]
theorem numL_step (n : Int) (h : 10 ≤ n) : numL n = numL (n / 10) ++ [UInt8.ofNat (48 + (n % 10).toNat)] := by
  unfold numL
  rw [Lib.decDigits, dif_neg (by omega)]
  congr 2
  · omega
  · congr 1; omega

theorem decDigits_len : ∀ (k u : Nat), u < 10 ^ (k + 1) → (Lib.decDigits u).length ≤ k + 1
  | 0, u, h => by rw [Lib.decDigits, dif_pos (by simpa using h)]; simp
  | k + 1, u, h => by
    rw [Lib.decDigits]
    split
    · simp
    · rw [List.length_append]
      have := decDigits_len k (u / 10) (by rw [Nat.pow_succ] at h; omega)
      simp; omega
theorem numL_len (n : Int) (h : n ≤ 9223372036854775807) : (numL n).length ≤ 19 := decDigits_len 18 _ (by omega)
theorem cat_ba (a b : List UInt8) : (⟨a.toArray⟩ : ByteArray) ++ ⟨b.toArray⟩ = ⟨(a ++ b).toArray⟩ := by apply ByteArray.ext; simp

theorem sl_cell1 (w : World) (c : UInt8) (z : Int) (hz : z = (c.toNat : Int)) : Sl (w.alloc (.cells #[.int .u8 z] 5)) (some ⟨w.heap.size, 0, none⟩) 1 1 [c] := by
  subst hz
  refine ⟨rfl, Nat.le_refl _, by unfold maxLen; omega, (fun h => by cases h), .inr ⟨w.heap.size, 0, rfl, fun i hi => ?_⟩⟩
  obtain rfl : i = 0 := by omega
  simp
theorem ofNat_dig (r : Nat) (h : r ≤ 9) : (48 : Int) + (r : Int) = ((UInt8.ofNat (48 + r)).toNat : Int) := by
  simp; omega

set_option maxHeartbeats 2000000 in
set_option maxRecDepth 100000 in
theorem dec_small (n : Int) (hn : n < 10) (w : World) :
    Calls Tryz.prog 83 #[.int .i64 n] w fun e w' => e = .returned (.string ⟨(numL n).toArray⟩) ∧ Below w.heap.size w w' := by
  have HN := Lib.hid (numL_small n hn)
  obtain ⟨r, hr⟩ : ∃ r : Nat, max n 0 = (r : Int) := ⟨n.toNat, by omega⟩
  have hr9 : r ≤ 9 := by omega
  have hrn : n.toNat = r := by omega
  rw [hrn] at HN
  have hz := ofNat_dig r hr9
  obtain ⟨c, hc⟩ : ∃ c, c = UInt8.ofNat (48 + r) := ⟨_, rfl⟩
  rw [← hc] at HN hz
  have hs := conv_sl (sl_cell1 w c (48 + (r : Int)) hz)
  clear hrn hz hc
  go_enter Tryz.func83, Tryz.ntmps83
  go_wp2_with fail
  go_ret
  exact ⟨by rw [HN.out]; rfl, (Below.refl _ _).alloc (Nat.le_refl _) _⟩

set_option maxHeartbeats 2000000 in
set_option maxRecDepth 100000 in
set_option linter.unusedSimpArgs false in
theorem dec_any : ∀ (k : Nat) (n : Int) (_ : n.toNat ≤ k) (_ : n ≤ 9223372036854775807) (w : World),
    Calls Tryz.prog 83 #[.int .i64 n] w fun e w' => e = .returned (.string ⟨(numL n).toArray⟩) ∧ Below w.heap.size w w' := by
  intro k
  induction k with
  | zero => intro n hk h1 w; exact dec_small n (by omega) w
  | succ k ih =>
    intro n hk h1 w
    by_cases hn : n < 10
    · exact dec_small n hn w
    replace hn : 10 ≤ n := by omega
    have HN := Lib.hid (numL_step n hn)
    obtain ⟨q, hq⟩ : ∃ q, n / 10 = q := ⟨_, rfl⟩
    obtain ⟨r, hr⟩ : ∃ r : Nat, n % 10 = (r : Int) := ⟨(n % 10).toNat, by omega⟩
    have hr9 : r ≤ 9 := by omega
    have IH := Lib.hid (fun w => ih q (by omega) (by omega) w)
    rw [hq, hr, Int.toNat_natCast] at HN
    have HQL := Lib.hid (numL_len q (by omega))
    have hz := ofNat_dig r hr9
    obtain ⟨c, hc⟩ : ∃ c, c = UInt8.ofNat (48 + r) := ⟨_, rfl⟩
    rw [← hc] at HN hz
    have HZ := Lib.hid hz
    have e1 : IntKind.i64.wrap (n.tdiv 10) = q := by rw [Int.tdiv_eq_ediv_of_nonneg (by omega), hq]; exact IntWalk.i64_in _ ⟨by omega, by omega⟩
    have e2 : n.tmod 10 = (r : Int) := by rw [Int.tmod_eq_emod_of_nonneg (by omega), hr]
    have e3 : IntKind.u8.wrap (r : Int) = (r : Int) := by rw [IntKind.wrap_u8]; omega
    have e4 : IntKind.u8.wrap (48 + (r : Int)) = 48 + (r : Int) := by rw [IntKind.wrap_u8]; omega
    clear hz hc
    go_enter Tryz.func83, Tryz.ntmps83
    go_upto_region 3 with fail
    have hKS : Keeps (fun _ => True) := fun _ _ h _ => h
    refine wp_region_U (w := w) (fun _ => True) rfl trivial ?_
    refine wpU_val 0 hKS rfl (by kernel_rfl) (by kernel_rfl) (by kernel_rfl) rfl (fun _ _ _ _ h => h) (.int .i64 n) (fun w' h => by simp [go_sem, e1, e2, e3, e4]) ?_
    simp only [Act.put, List.setIfInBounds_toArray, List.set_cons_zero, List.set_cons_succ]
    refine wpU_val 1 hKS rfl (by kernel_rfl) (by kernel_rfl) (by kernel_rfl) rfl (fun _ _ _ _ h => h) (.int .i64 q) (fun w' h => by simp [go_sem, e1, e2, e3, e4]) ?_
    simp only [Act.put, List.setIfInBounds_toArray, List.set_cons_zero, List.set_cons_succ]
    refine wpU_call 2 hKS rfl (by kernel_rfl) (by kernel_rfl) (by kernel_rfl) rfl (fun _ _ _ _ h => h) 83 #[.int .i64 q] (fun w => by simp [go_sem]) _ (IH.out) ?_
    simp only [Act.put, List.setIfInBounds_toArray, List.set_cons_zero, List.set_cons_succ]
    refine wpU_val 3 hKS rfl (by kernel_rfl) (by kernel_rfl) (by kernel_rfl) rfl (fun _ _ _ _ h => h) (.int .i64 n) (fun w' h => by simp [go_sem, e1, e2, e3, e4]) ?_
    simp only [Act.put, List.setIfInBounds_toArray, List.set_cons_zero, List.set_cons_succ]
    refine wpU_val 4 hKS rfl (by kernel_rfl) (by kernel_rfl) (by kernel_rfl) rfl (fun _ _ _ _ h => h) (.int .i64 r) (fun w' h => by simp [go_sem, e1, e2, e3, e4]) ?_
    simp only [Act.put, List.setIfInBounds_toArray, List.set_cons_zero, List.set_cons_succ]
    refine wpU_val 5 hKS rfl (by kernel_rfl) (by kernel_rfl) (by kernel_rfl) rfl (fun _ _ _ _ h => h) (.int .u8 r) (fun w' h => by simp [go_sem, e1, e2, e3, e4]) ?_
    simp only [Act.put, List.setIfInBounds_toArray, List.set_cons_zero, List.set_cons_succ]
    refine wpU_val 6 hKS rfl (by kernel_rfl) (by kernel_rfl) (by kernel_rfl) rfl (fun _ _ _ _ h => h) (.int .u8 (48 + (r : Int))) (fun w' h => by simp [go_sem, e1, e2, e3, e4]) ?_
    simp only [Act.put, List.setIfInBounds_toArray, List.set_cons_zero, List.set_cons_succ]
    refine wpU_run 7 rfl (by kernel_rfl) rfl (fun w1 => .slice (some ⟨w1.heap.size, 0, none⟩) 1 1) (fun w1 => w1.alloc (.cells #[.int .u8 (48 + (r : Int))] 5)) (fun w1 b1 _ => ⟨by simp [go_sem], trivial, ?_⟩)
    simp only [Act.put, List.setIfInBounds_toArray, List.set_cons_zero, List.set_cons_succ]
    have s1 := sl_cell1 w1 (c) (48 + (r : Int)) HZ.out
    have bb : Below w.heap.size w (w1.alloc (.cells #[.int .u8 (48 + (r : Int))] 5)) := ((Below.refl _ _).drew.trans (b1.mono (Nat.le_refl _))).alloc (by have := b1.size; simpa using this) _
    generalize w1.alloc (.cells #[.int .u8 (48 + (r : Int))] 5) = W2 at *
    generalize w1.heap.size = g at *
    refine wpU_run 8 rfl (by kernel_rfl) rfl (fun _ => .string ⟨[c].toArray⟩) (fun w1 => w1) (fun w2 b2 _ => ⟨by have := conv_sl (s1.after b2); simp [go_sem, this], trivial, ?_⟩)
    simp only [Act.put, List.setIfInBounds_toArray, List.set_cons_zero, List.set_cons_succ]
    refine wpU_run 9 rfl (by kernel_rfl) rfl (fun _ => .string ⟨(numL n).toArray⟩) (fun w1 => w1) (fun w3 b3 _ => ⟨by simp [go_sem, HN.out]; rw [if_neg (by have := HQL.out; omega)]; have := cat_ba (numL q) [c]; rw [this], trivial, ?_⟩)
    simp only [Act.put, List.setIfInBounds_toArray, List.set_cons_zero, List.set_cons_succ]
    refine wpU_run 10 rfl (by kernel_rfl) rfl (fun _ => .string ⟨(numL n).toArray⟩) (fun w1 => w1) (fun w4 b4 _ => ⟨by simp [go_sem], trivial, ?_⟩)
    simp only [Act.put, List.setIfInBounds_toArray, List.set_cons_zero, List.set_cons_succ]
    refine wpU_done (by kernel_rfl) ?_
    intro w5 b5 _
    have hB := bb.trans ((((b2.trans (b3.mono b2.size)).trans (b4.mono (b2.trans (b3.mono b2.size)).size)).trans (b5.mono ((b2.trans (b3.mono b2.size)).trans (b4.mono (b2.trans (b3.mono b2.size)).size)).size)).mono bb.size)
    clear b1 b2 b3 b4 b5
    go_wp2_with fail
    go_ret
    exact ⟨rfl, hB⟩
end Go.Proofs.YtkbblhioncecmaaGreatDoor
namespace Go.Proofs.YtkbblhioncecmaaGreatDoor
open Go.RowKit

/-- bytes with their length -/
def textL (l : List UInt8) : List UInt8 := numL l.length ++ 58 :: l
theorem textL_len (l : List UInt8) (h : l.length ≤ 9223372036854775807) : (textL l).length ≤ l.length + 20 := by
  have := numL_len (l.length : Int) (by omega)
  simp only [textL, List.length_append, List.length_cons]
  omega
mutual
/-- the canonical form -/
def Sx.form : Sx → List UInt8
  | .mk l h hi da ks => if l then 40 :: (Sx.formL ks ++ [41]) else (if h then 91 :: (textL hi ++ [93]) else []) ++ textL da
def Sx.formL : List Sx → List UInt8
  | [] => []
  | k :: r => k.form ++ Sx.formL r
end
theorem Sx.formL_append (a b : List Sx) : Sx.formL (a ++ b) = Sx.formL a ++ Sx.formL b := by
  induction a with
  | nil => rfl
  | cons k a ih => simp only [List.cons_append, Sx.formL, ih, List.append_assoc]
theorem Sx.formL_snoc (ks : List Sx) (k : Nat) (h : k < ks.length) : Sx.formL (ks.take (k + 1)) = Sx.formL (ks.take k) ++ ks[k].form := by
  rw [List.take_succ_eq_append_getElem h, Sx.formL_append]
  simp [Sx.formL]
theorem form_def (l h : Bool) (hi da : List UInt8) (ks : List Sx) : (Sx.mk l h hi da ks).form = if l then 40 :: (Sx.formL ks ++ [41]) else (if h then 91 :: (textL hi ++ [93]) else []) ++ textL da := by simp only [Sx.form]
theorem Sx.formL_take (ks : List Sx) (k : Nat) : (Sx.formL (ks.take k)).length ≤ (Sx.formL ks).length := by
  conv => rhs; rw [← List.take_append_drop k ks, Sx.formL_append]
  simp
theorem Sx.formL_mem {ks : List Sx} {k : Sx} (h : k ∈ ks) : k.form.length ≤ (Sx.formL ks).length := by
  induction ks with
  | nil => cases h
  | cons a r ih => rcases List.mem_cons.1 h with rfl | h
                   · simp only [Sx.formL, List.length_append]; omega
                   · have := ih h; simp only [Sx.formL, List.length_append]; omega

/-- bytes of the call's own are handed back -/
def OutP (l : List UInt8) (w : World) (e : Ending) (w' : World) : Prop := ∃ v, e = .returned v ∧ OwnB w' w.heap.size v l ∧ Below w.heap.size w w'

theorem below_grown {B : Nat} {w0 w w' : World} {row : Option Nat} (h : Below B w0 w) (hg : w.grownBy w' row) (hrow : ∀ k, row = some k → B ≤ k) (hB : B ≤ w.heap.size) : Below B w0 w' :=
  h.grown hg hB hrow

set_option maxHeartbeats 1000000 in
set_option maxRecDepth 100000 in
theorem refText_any (a : Option Addr) (n c : Nat) (l : List UInt8) (w : World) (hs : Sl w a n c l) (hn : n ≤ 70368744177664) :
    Calls Tryz.prog 71 #[.slice a n c] w (OutP (textL l) w) := by
  have hl := hs.1
  have HS := Lib.hid hs
  have HL := Lib.hid hl
  have hk := numL_len (n : Int) (by omega)
  obtain ⟨d, hd⟩ : ∃ d, d = numL n := ⟨_, rfl⟩
  rw [← hd] at hk
  have HD := Lib.hid hd
  clear hs hl hd
  go_enter Tryz.func71, Tryz.ntmps71
  go_wp2_with fail
  refine (dec_any n n (by omega) (by omega) _).mono ?_
  rintro e w1 ⟨rfl, hb1⟩
  rw [← HD.out]
  obtain ⟨v2, w2, hcv, ho2, hb2⟩ := conv_own w1 ⟨d.toArray⟩ (by simp [ByteArray.size]; omega)
  have HO2 := Lib.hid ho2
  have hB2 := hb1.trans (hb2.mono hb1.size)
  have z1 := hb1.size
  have z2 := hb2.size
  clear ho2
  go_upto_region 2 with (refine wpList_append_B rfl _ _ rfl (l := d) rfl (OwnG.alloc HO2.out _) (l2 := [58]) rfl (sl_cell1 _ 58 _ rfl) (by simp; omega) (by simp; omega) ?_; intro v3 w3 ho3 hg3)
  have hB3 := below_grown (hB2.alloc (by omega) _) hg3 (fun k hk => Nat.le_trans z1 ((OwnG.lt HO2.out) k hk).1) (by simp; omega)
  have HO3 := Lib.hid ho3
  have z3 := hg3.size
  simp only [World.size_alloc] at z3
  clear ho3 hg3
  go_wp2_with (refine wpList_append_B rfl _ _ rfl rfl HO3.out (l2 := l) rfl (HS.out.after hB3) (by simp; omega) (by omega) ?_; intro v4 w4 ho4 hg4)
  have hB4 := below_grown hB3 hg4 (fun k hk => Nat.le_trans z1 ((OwnG.lt HO3.out) k hk).1) (by omega)
  go_ret
  refine ⟨v4, rfl, ?_, hB4⟩
  have := OwnB.le ho4 z1
  rwa [show d ++ [58] ++ l = textL l by unfold textL; rw [HD.out, HL.out]; simp] at this
end Go.Proofs.YtkbblhioncecmaaGreatDoor
namespace Go.Proofs.YtkbblhioncecmaaGreatDoor
open Go.RowKit
set_option linter.unusedSimpArgs false
set_option linter.unusedVariables false

theorem Box.grown {w w' : World} {g : Nat} {T : TypeId} {cs : Array Value} (h : Box w g T cs) {row : Option Nat} (hg : w.grownBy w' row) (hne : ∀ k, row = some k → g ≠ k) : Box w' g T cs :=
  (hg.block g h.lt (fun e => hne g e.symm rfl)).trans h
theorem OwnB.empty (w : World) (B : Nat) (hB : B ≤ w.heap.size) : OwnB (w.alloc (.cells #[] 5)) B (.slice (some ⟨w.heap.size, 0, none⟩) 0 0) [] := by
  have := OwnG.new w B 1 hB #[] 5 0 0 (Nat.le_refl _) (Nat.zero_le _) rfl
  simpa [OwnB, Lib.byteCells] using this
/-- an append to bytes of the call's own, in a world that has come of w -/
theorem OwnB.alloc {w : World} {B : Nat} {v : Value} {l : List UInt8} (h : OwnB w B v l) (o : Obj) : OwnB (w.alloc o) B v l := OwnG.alloc h o
theorem own_step {w w1 w2 : World} {v : Value} {l : List UInt8} (hb : Below w.heap.size w w1) (ho : OwnB w1 (w.heap.size + 1) v l) (hg : w1.grownBy w2 v.ownBlock) :
    Below w.heap.size w w2 ∧ (∀ T cs, Box w1 w.heap.size T cs → Box w2 w.heap.size T cs) ∧ w1.heap.size ≤ w2.heap.size :=
  ⟨below_grown hb hg (fun k hk => by have := (ho.own k hk).1; omega) hb.size, fun T cs hx => hx.grown hg (fun k hk => by have := (ho.own k hk).1; omega), hg.size⟩

set_option maxHeartbeats 4000000 in
set_option maxRecDepth 100000 in
theorem form_any (s : Sx) : ∀ (v : SV) (w : World), Rd w v s → s.form.length ≤ 70368744177664 → Calls Tryz.prog 53 #[v.val] w (OutP s.form w) := by
  induction s using Sx.ind with
  | h l hh hi da ks ih =>
  intro v w hr hlen
  have HRR := Lib.hid hr
  obtain ⟨hvl, hvh, hs1, hs2, hn, hnc, hcm, K, hrow, hk⟩ := hr.parts
  obtain ⟨vl, vh, a1, n1, k1, a2, n2, k2, a3, n3, k3⟩ := v
  dsimp only at hn hnc hcm hrow hk hvl hvh hs1 hs2
  obtain rfl : vl = l := hvl
  obtain rfl : vh = hh := hvh
  replace hn : n3 = ks.length := hn
  replace hs1 : Sl w a1 n1 k1 hi := hs1
  replace hs2 : Sl w a2 n2 k2 da := hs2
  replace hk : ∀ i (hi : i < ks.length), RdI (fun _ => True) w (K i) ks[i] := hk
  obtain ⟨l1, hl1⟩ : ∃ l1, l1 = hi := ⟨_, rfl⟩
  have hn1 := hs1.1
  have hn2 := hs2.1
  have hm1 := hs1.2.1
  have hm2 := hs2.2.1
  have hx1 := hs1.2.2.1
  have hx2 := hs2.2.2.1
  have IH := Lib.hid ih
  have HK := Lib.hid hk
  have HR := Lib.hid hrow
  have HS1 := Lib.hid hs1
  have HS2 := Lib.hid hs2
  have HN1 := Lib.hid hn1
  have HN2 := Lib.hid hn2
  clear ih hk hrow hr hs1 hs2 hn1 hn2 hl1
  subst hn
  unfold maxLen at hcm hx1 hx2
  cases vl with
  | true =>
    rw [form_def, if_pos rfl] at hlen ⊢
    have HLEN := Lib.hid hlen
    simp only [List.length_cons, List.length_append, List.length_nil] at hlen
    have hb0 : Below w.heap.size w ((w.alloc (.cells #[.bool true, .bool vh, .slice a1 n1 k1, .slice a2 n2 k2, .slice a3 ks.length k3] 26)).alloc (.cells #[] 5)) := ((Below.refl _ _).alloc (Nat.le_refl _) _).alloc (by simp) _
    have hx0 : Box ((w.alloc (.cells #[.bool true, .bool vh, .slice a1 n1 k1, .slice a2 n2 k2, .slice a3 ks.length k3] 26)).alloc (.cells #[] 5)) w.heap.size 26 #[.bool true, .bool vh, .slice a1 n1 k1, .slice a2 n2 k2, .slice a3 ks.length k3] := (Box.new w 26 #[.bool true, .bool vh, .slice a1 n1 k1, .slice a2 n2 k2, .slice a3 ks.length k3]).alloc _
    have ho0 : OwnB ((w.alloc (.cells #[.bool true, .bool vh, .slice a1 n1 k1, .slice a2 n2 k2, .slice a3 ks.length k3] 26)).alloc (.cells #[] 5)) (w.heap.size + 1) (.slice (some ⟨w.heap.size + 1, 0, none⟩) 0 0) [] := by
      have := OwnB.empty (w.alloc (.cells #[.bool true, .bool vh, .slice a1 n1 k1, .slice a2 n2 k2, .slice a3 ks.length k3] 26)) (w.heap.size + 1) (by simp)
      simpa using this
    have zz : w.heap.size + 1 + 1 ≤ ((w.alloc (.cells #[.bool true, .bool vh, .slice a1 n1 k1, .slice a2 n2 k2, .slice a3 ks.length k3] 26)).alloc (.cells #[] 5)).heap.size := by simp
    show Calls _ _ #[.agg #[.bool true, .bool vh, .slice a1 n1 k1, .slice a2 n2 k2, .slice a3 ks.length k3]] _ _
    go_enter Tryz.func53, Tryz.ntmps53
    go_upto_region 2 with fail
    change Code.wp _ _ _ _ ((w.alloc (.cells #[.bool true, .bool vh, .slice a1 n1 k1, .slice a2 n2 k2, .slice a3 ks.length k3] 26)).alloc (.cells #[] 5))
    generalize ((w.alloc (.cells #[.bool true, .bool vh, .slice a1 n1 k1, .slice a2 n2 k2, .slice a3 ks.length k3] 26)).alloc (.cells #[] 5)) = v0 at *
    have HO := Lib.hid ho0
    clear ho0
    have c0 := hx0.cell 0 rfl
    go_upto_region 4 with (refine wpList_append_B rfl _ _ rfl rfl (HO.out.alloc _) (l2 := [40]) rfl (sl_cell1 _ 40 _ rfl) (by simp) (by simp; omega) ?_; intro v1 w1 ho1 hg1)
    obtain ⟨hb1, hxx1, z1⟩ := own_step (hb0.alloc (by omega) _) (HO.out.alloc _) hg1
    have hx1 := hxx1 _ _ (hx0.alloc _)
    clear hxx1 hg1 HO c0 hx0 hb0
    have HO := Lib.hid ho1
    clear ho1
    simp only [World.size_alloc] at z1
    have c4 := hx1.cell 4 rfl
    go_wp2_with fail
    go_loopw [3, 4, 14] (fun s i k wr => ∃ n : Nat, n ≤ ks.length ∧ k = .int .i64 n ∧ OwnB wr (w.heap.size + 1) s (40 :: Sx.formL (ks.take n)) ∧ Below w.heap.size w wr ∧ w.heap.size + 1 ≤ wr.heap.size ∧ Box wr w.heap.size 26 #[.bool true, .bool vh, .slice a1 n1 k1, .slice a2 n2 k2, .slice a3 ks.length k3]) (fun _ _ k _ => ks.length - (intOf k).toNat)
    case atStart => exact ⟨0, Nat.zero_le _, rfl, HO.out, hb1, by omega, hx1⟩
    case round =>
      clear HO hb1 hx1 c4 z1
      rename_i s0 k0 _ _
      obtain ⟨n, hnl, rfl, ho, hb, hz, hx⟩ := hrel
      have HO := Lib.hid ho
      clear ho
      have c4 := hx.cell 4 rfl
      have htk := Sx.formL_take ks n
      by_cases hlt : n < ks.length
      · obtain ⟨b, o, rfl, hld⟩ := (HR.out.after hb).range hlt
        have HL := Lib.hid hld
        have hrd := (HK.out n hlt).after hb
        have HRd := Lib.hid hrd
        have hkd := Sx.formL_mem (List.getElem_mem hlt)
        have hsn := Sx.formL_snoc ks n hlt
        have hbl : (Sx.formL (ks.take (n + 1))).length ≤ (Sx.formL ks).length := Sx.formL_take ks (n + 1)
        rw [hsn, List.length_append] at hbl
        have HS := Lib.hid hsn
        clear hrd hld hsn
        go_wp2_with (refine wpList_load_sv rfl _ rfl b _ rfl _ HL.out ?_)
        refine (IH.out _ (List.getElem_mem hlt) _ _ HRd.out (by omega)).mono ?_
        rintro e w2 ⟨v2, rfl, ho2, hb2⟩
        obtain ⟨a2', c2', rfl, hs2⟩ := ho2.sl
        have HS2' := Lib.hid hs2
        have z2 := hb2.size
        have HB := hb.trans (hb2.mono hb.size)
        have HX := hx.after hb2
        have HO2 := Lib.hid (HO.out.after hb2)
        clear hs2 HO c4 ho2
        go_upto_region 8 with (refine wpList_append_B rfl _ _ rfl rfl HO2.out (l2 := (ks[n].form)) rfl (HS2'.out) (by simp only [List.length_cons]; omega) (by omega) ?_; intro v3 w3 ho3 hg3)
        obtain ⟨hb3, hxx3, z3⟩ := own_step HB HO2.out hg3
        have hx3 := hxx3 _ _ HX
        clear hxx3 hg3 HO2 HB HX hb2 hx hb
        have HO3 := Lib.hid ho3
        clear ho3
        go_wp2_with fail
        go_roundw
        case rel => exact ⟨n + 1, by omega, by go_num, by have := HO3.out; rw [HS.out]; simpa using this, hb3, by omega, hx3⟩
        case measure => simp [intOf]; omega
      · have hnn : n = ks.length := by omega
        subst hnn
        rw [List.take_length] at HO
        go_wp2_with (refine wpList_append_B rfl _ _ rfl rfl (HO.out.alloc _) (l2 := [41]) rfl (sl_cell1 _ 41 _ rfl) (by simp only [List.length_cons]; omega) (by simp; omega) ?_; intro v3 w3 ho3 hg3)
        obtain ⟨hb3, hxx3, z3⟩ := own_step (hb.alloc (by omega) _) (HO.out.alloc _) hg3
        go_ret
        exact ⟨v3, rfl, OwnB.le (by simpa using ho3) (Nat.le_succ _), hb3⟩
  | false =>
    rw [form_def, if_neg (by simp)] at hlen ⊢
    have HLEN := Lib.hid hlen
    have hn1 : n1 ≤ hi.length := Nat.le_of_eq HN1.out
    have hn2 : n2 ≤ da.length := Nat.le_of_eq HN2.out
    have hn1' : hi.length ≤ n1 := Nat.le_of_eq HN1.out.symm
    have hn2' : da.length ≤ n2 := Nat.le_of_eq HN2.out.symm
    cases vh with
    | false =>
      simp only [Bool.false_eq_true, if_false, List.nil_append] at hlen ⊢
      have hln : da.length ≤ (textL da).length := by simp [textL]; omega
      have hb0 : Below w.heap.size w ((w.alloc (.cells #[.bool false, .bool false, .slice a1 n1 k1, .slice a2 n2 k2, .slice a3 ks.length k3] 26)).alloc (.cells #[] 5)) := ((Below.refl _ _).alloc (Nat.le_refl _) _).alloc (by simp) _
      have hx0 : Box ((w.alloc (.cells #[.bool false, .bool false, .slice a1 n1 k1, .slice a2 n2 k2, .slice a3 ks.length k3] 26)).alloc (.cells #[] 5)) w.heap.size 26 #[.bool false, .bool false, .slice a1 n1 k1, .slice a2 n2 k2, .slice a3 ks.length k3] := (Box.new w 26 #[.bool false, .bool false, .slice a1 n1 k1, .slice a2 n2 k2, .slice a3 ks.length k3]).alloc _
      have ho0 : OwnB ((w.alloc (.cells #[.bool false, .bool false, .slice a1 n1 k1, .slice a2 n2 k2, .slice a3 ks.length k3] 26)).alloc (.cells #[] 5)) (w.heap.size + 1) (.slice (some ⟨w.heap.size + 1, 0, none⟩) 0 0) [] := by
        have := OwnB.empty (w.alloc (.cells #[.bool false, .bool false, .slice a1 n1 k1, .slice a2 n2 k2, .slice a3 ks.length k3] 26)) (w.heap.size + 1) (by simp)
        simpa using this
      have zz : w.heap.size + 1 + 1 ≤ ((w.alloc (.cells #[.bool false, .bool false, .slice a1 n1 k1, .slice a2 n2 k2, .slice a3 ks.length k3] 26)).alloc (.cells #[] 5)).heap.size := by simp
      show Calls _ _ #[.agg #[.bool false, .bool false, .slice a1 n1 k1, .slice a2 n2 k2, .slice a3 ks.length k3]] _ _
      go_enter Tryz.func53, Tryz.ntmps53
      go_upto_region 2 with fail
      change Code.wp _ _ _ _ ((w.alloc (.cells #[.bool false, .bool false, .slice a1 n1 k1, .slice a2 n2 k2, .slice a3 ks.length k3] 26)).alloc (.cells #[] 5))
      generalize ((w.alloc (.cells #[.bool false, .bool false, .slice a1 n1 k1, .slice a2 n2 k2, .slice a3 ks.length k3] 26)).alloc (.cells #[] 5)) = v0 at *
      have HO := Lib.hid ho0
      clear ho0
      have c0 := hx0.cell 0 rfl
      have c1 := hx0.cell 1 rfl
      have c3 := hx0.cell 3 rfl
      go_wp2_with fail
      refine (refText_any _ _ _ da _ (HS2.out.after hb0) (by omega)).mono ?_
      rintro e w6 ⟨v6, rfl, ho6, hb6⟩
      obtain ⟨a6, c6, rfl, hs6⟩ := ho6.sl
      have HS6 := Lib.hid hs6
      have z6 := hb6.size
      have HB6 := hb0.trans (hb6.mono hb0.size)
      have HX6 := hx0.after hb6
      have HO6 := Lib.hid (HO.out.after hb6)
      clear hs6 ho6
      go_wp2_with (refine wpList_append_B rfl _ _ rfl rfl HO6.out (l2 := (textL da)) rfl (HS6.out) (by simp only [List.length_cons, List.length_append, List.length_nil] at hlen ⊢; omega) (by omega) ?_; intro v7 w7 ho7 hg7)
      obtain ⟨hb7, hxx7, z7⟩ := own_step HB6 HO6.out hg7
      go_ret
      exact ⟨v7, rfl, OwnB.le (by simpa using ho7) (Nat.le_succ _), hb7⟩
    | true =>
      simp only [if_true] at hlen ⊢
      have hln : da.length ≤ (textL da).length := by simp [textL]; omega
      have hlh : hi.length ≤ (textL hi).length := by simp [textL]; omega
      simp only [List.length_cons, List.length_append, List.length_nil] at hlen
      have hb0 : Below w.heap.size w ((w.alloc (.cells #[.bool false, .bool true, .slice a1 n1 k1, .slice a2 n2 k2, .slice a3 ks.length k3] 26)).alloc (.cells #[] 5)) := ((Below.refl _ _).alloc (Nat.le_refl _) _).alloc (by simp) _
      have hx0 : Box ((w.alloc (.cells #[.bool false, .bool true, .slice a1 n1 k1, .slice a2 n2 k2, .slice a3 ks.length k3] 26)).alloc (.cells #[] 5)) w.heap.size 26 #[.bool false, .bool true, .slice a1 n1 k1, .slice a2 n2 k2, .slice a3 ks.length k3] := (Box.new w 26 #[.bool false, .bool true, .slice a1 n1 k1, .slice a2 n2 k2, .slice a3 ks.length k3]).alloc _
      have ho0 : OwnB ((w.alloc (.cells #[.bool false, .bool true, .slice a1 n1 k1, .slice a2 n2 k2, .slice a3 ks.length k3] 26)).alloc (.cells #[] 5)) (w.heap.size + 1) (.slice (some ⟨w.heap.size + 1, 0, none⟩) 0 0) [] := by
        have := OwnB.empty (w.alloc (.cells #[.bool false, .bool true, .slice a1 n1 k1, .slice a2 n2 k2, .slice a3 ks.length k3] 26)) (w.heap.size + 1) (by simp)
        simpa using this
      have zz : w.heap.size + 1 + 1 ≤ ((w.alloc (.cells #[.bool false, .bool true, .slice a1 n1 k1, .slice a2 n2 k2, .slice a3 ks.length k3] 26)).alloc (.cells #[] 5)).heap.size := by simp
      show Calls _ _ #[.agg #[.bool false, .bool true, .slice a1 n1 k1, .slice a2 n2 k2, .slice a3 ks.length k3]] _ _
      go_enter Tryz.func53, Tryz.ntmps53
      go_upto_region 2 with fail
      change Code.wp _ _ _ _ ((w.alloc (.cells #[.bool false, .bool true, .slice a1 n1 k1, .slice a2 n2 k2, .slice a3 ks.length k3] 26)).alloc (.cells #[] 5))
      generalize ((w.alloc (.cells #[.bool false, .bool true, .slice a1 n1 k1, .slice a2 n2 k2, .slice a3 ks.length k3] 26)).alloc (.cells #[] 5)) = v0 at *
      have HO := Lib.hid ho0
      clear ho0
      have c0 := hx0.cell 0 rfl
      have c1 := hx0.cell 1 rfl
      go_upto_region 12 with (refine wpList_append_B rfl _ _ rfl rfl (HO.out.alloc _) (l2 := [91]) rfl (sl_cell1 _ 91 _ rfl) (by simp) (by simp; omega) ?_; intro v1 w1 ho1 hg1)
      obtain ⟨hb1, hxx1, z1⟩ := own_step (hb0.alloc (by omega) _) (HO.out.alloc _) hg1
      have hx1 := hxx1 _ _ (hx0.alloc _)
      clear hxx1 hg1 HO c0 c1 hx0 hb0
      have HO := Lib.hid ho1
      clear ho1
      simp only [World.size_alloc] at z1
      have c2 := hx1.cell 2 rfl
      go_wp2_with fail
      refine (refText_any _ _ _ hi _ (HS1.out.after hb1) (by omega)).mono ?_
      rintro e w2 ⟨v2, rfl, ho2, hb2⟩
      obtain ⟨a2', c2', rfl, hs2⟩ := ho2.sl
      have HS2' := Lib.hid hs2
      have z2 := hb2.size
      have HB := hb1.trans (hb2.mono hb1.size)
      have HX := hx1.after hb2
      have HO2 := Lib.hid (HO.out.after hb2)
      clear hs2 HO c2 ho2
      go_upto_region 13 with (refine wpList_append_B rfl _ _ rfl rfl HO2.out (l2 := (textL hi)) rfl (HS2'.out) (by simp only [List.length_cons, List.length_append, List.length_nil]; omega) (by omega) ?_; intro v3 w3 ho3 hg3)
      obtain ⟨hb3, hxx3, z3⟩ := own_step HB HO2.out hg3
      have hx3 := hxx3 _ _ HX
      clear hxx3 hg3 HO2 HB HX hb2 hx1 hb1
      have HO3 := Lib.hid ho3
      clear ho3
      go_upto_region 14 with (refine wpList_append_B rfl _ _ rfl rfl (HO3.out.alloc _) (l2 := [93]) rfl (sl_cell1 _ 93 _ rfl) (by simp only [List.length_cons, List.length_append, List.length_nil]; omega) (by simp; omega) ?_; intro v4 w4 ho4 hg4)
      obtain ⟨hb4, hxx4, z4⟩ := own_step (hb3.alloc (by omega) _) (HO3.out.alloc _) hg4
      have hx4 := hxx4 _ _ (hx3.alloc _)
      clear hxx4 hg4 HO3 hx3 hb3
      have HO4 := Lib.hid ho4
      clear ho4
      simp only [World.size_alloc] at z4
      have c3 := hx4.cell 3 rfl
      go_wp2_with fail
      refine (refText_any _ _ _ da _ (HS2.out.after hb4) (by omega)).mono ?_
      rintro e w6 ⟨v6, rfl, ho6, hb6⟩
      obtain ⟨a6, c6, rfl, hs6⟩ := ho6.sl
      have HS6 := Lib.hid hs6
      have z6 := hb6.size
      have HB6 := hb4.trans (hb6.mono hb4.size)
      have HX6 := hx4.after hb6
      have HO6 := Lib.hid (HO4.out.after hb6)
      clear hs6 ho6
      go_wp2_with (refine wpList_append_B rfl _ _ rfl rfl HO6.out (l2 := (textL da)) rfl (HS6.out) (by simp only [List.length_cons, List.length_append, List.length_nil] at hlen ⊢; omega) (by omega) ?_; intro v7 w7 ho7 hg7)
      obtain ⟨hb7, hxx7, z7⟩ := own_step HB6 HO6.out hg7
      go_ret
      exact ⟨v7, rfl, OwnB.le (by simpa using ho7) (Nat.le_succ _), hb7⟩

end Go.Proofs.YtkbblhioncecmaaGreatDoor
namespace Go.Proofs.YtkbblhioncecmaaGreatDoor
open Go.RowKit
set_option linter.unusedSimpArgs false
set_option linter.unusedVariables false

def Sx.may (s : Sx) : Bool := s.clean && decide (s.nodes ≤ 512) && decide (s.deep ≤ 16) && decide (s.form.length ≤ 4096)

/-- what is not wide -/
theorem wide_no {s : Sx} : ∀ {m : Nat}, s.wide m = false → m ≤ 60 ∧ s.ks.length ≤ 700 ∧ s.hi.length ≤ 5000 ∧ s.da.length ≤ 5000 ∧ ∀ k ∈ s.ks, k.wide (m + 1) = false := by
  intro m h
  obtain ⟨l, hh, hi, da, ks⟩ := s
  rw [wide_def] at h
  simp only [Bool.or_eq_false_iff, decide_eq_false_iff_not] at h
  obtain ⟨⟨⟨⟨h1, h2⟩, h3⟩, h4⟩, h5⟩ := h
  refine ⟨by omega, by simp only [Sx.ks]; omega, by simp only [Sx.hi]; omega, by simp only [Sx.da]; omega, fun k hk => ?_⟩
  by_cases e : k.wide (m + 1) = true
  · rw [Sx.wideL_yes (ks := ks) hk e] at h5; cases h5
  · simpa using e
set_option maxHeartbeats 4000000 in
set_option maxRecDepth 100000 in
theorem refMay_any (s : Sx) (v : SV) (w : World) (hr : Rd w v s) (hn : s.nodes < 4611686018427387904) (hd : s.deep ≤ 4611686018427387904) (hf : s.nodes ≤ 512 → s.form.length ≤ 70368744177664) : Calls Tryz.prog 32 #[v.val] w fun e w' => e = .returned (.bool s.may) ∧ Below w.heap.size w w' := by
  obtain ⟨vl, vh, a1, n1, k1, a2, n2, k2, a3, n3, k3⟩ := v
  have HRR := Lib.hid hr
  clear hr
  obtain ⟨cl, hcl⟩ : ∃ cl, cl = s.clean := ⟨_, rfl⟩
  have HCL := Lib.hid hcl
  have HM : Hid (s.may = (cl && decide (s.nodes ≤ 512) && decide (s.deep ≤ 16) && decide (s.form.length ≤ 4096))) := Lib.hid (by rw [hcl]; rfl)
  have CALL1 := Lib.hid (fun w h => clean_any s ⟨vl, vh, a1, n1, k1, a2, n2, k2, a3, n3, k3⟩ w h)
  rw [← hcl] at CALL1
  clear hcl
  have hb0 : Below w.heap.size w (w.alloc (.cells #[.bool vl, .bool vh, .slice a1 n1 k1, .slice a2 n2 k2, .slice a3 n3 k3] 26)) := (Below.refl _ _).alloc (Nat.le_refl _) _
  have hx0 := Lib.hid (Box.new w 26 #[.bool vl, .bool vh, .slice a1 n1 k1, .slice a2 n2 k2, .slice a3 n3 k3])
  have hwn : wrap64 (s.nodes : Int) = s.nodes := wrap_of _ (by omega)
  have CALL2 := Lib.hid (fun w h => nodes_any s ⟨vl, vh, a1, n1, k1, a2, n2, k2, a3, n3, k3⟩ w h)
  rw [hwn] at CALL2
  clear hwn
  have CALL3 := Lib.hid (fun w h => deep_any s ⟨vl, vh, a1, n1, k1, a2, n2, k2, a3, n3, k3⟩ w h hd)
  have CALL4 := Lib.hid (fun w h hf => form_any s ⟨vl, vh, a1, n1, k1, a2, n2, k2, a3, n3, k3⟩ w h hf)
  have HF := Lib.hid hf
  clear hf
  obtain ⟨N, hN⟩ : ∃ N, N = s.nodes := ⟨_, rfl⟩
  obtain ⟨D, hD⟩ : ∃ D, D = s.deep := ⟨_, rfl⟩
  obtain ⟨fl, hfl⟩ : ∃ fl, fl = s.form := ⟨_, rfl⟩
  rw [← hN] at CALL2 HM HF hn
  rw [← hD] at CALL3 HM hd
  rw [← hfl] at CALL4 HM HF
  clear hN hD hfl
  show Calls _ _ #[.agg #[.bool vl, .bool vh, .slice a1 n1 k1, .slice a2 n2 k2, .slice a3 n3 k3]] _ _
  cases cl with
  | false =>
    go_enter Tryz.func32, Tryz.ntmps32
    go_wp2_with (refine wpList_load_box rfl 26 _ rfl hx0.out (by rfl) Tryz.underlying26 rfl (by kernel_rfl) ?_)
    refine (CALL1.out _ (HRR.out.after hb0)).mono ?_
    rintro e w1 ⟨rfl, hb1⟩
    have HB1 := hb0.trans (hb1.mono hb0.size)
    go_wp2_with fail
    go_ret
    exact ⟨by rw [HM.out]; rfl, HB1⟩
  | true =>
    by_cases h2 : N ≤ 512
    · have h2' : (N : Int) ≤ 512 := by omega
      by_cases h3 : D ≤ 16
      · have h3' : (D : Int) ≤ 16 := by omega
        go_enter Tryz.func32, Tryz.ntmps32
        go_wp2_with (refine wpList_load_box rfl 26 _ rfl hx0.out (by rfl) Tryz.underlying26 rfl (by kernel_rfl) ?_)
        refine (CALL1.out _ (HRR.out.after hb0)).mono ?_
        rintro e w1 ⟨rfl, hb1⟩
        have HB1 := hb0.trans (hb1.mono hb0.size)
        have hx1 := Lib.hid (hx0.out.after hb1)
        go_wp2_with (refine wpList_load_box rfl 26 _ rfl hx1.out (by rfl) Tryz.underlying26 rfl (by kernel_rfl) ?_)
        refine (CALL2.out _ (HRR.out.after HB1)).mono ?_
        rintro e w2 ⟨rfl, hb2⟩
        have HB2 := HB1.trans (hb2.mono HB1.size)
        have hx2 := Lib.hid (hx1.out.after hb2)
        go_wp2_with (refine wpList_load_box rfl 26 _ rfl hx2.out (by rfl) Tryz.underlying26 rfl (by kernel_rfl) ?_)
        refine (CALL3.out _ (HRR.out.after HB2)).mono ?_
        rintro e w3 ⟨rfl, hb3⟩
        have HB3 := HB2.trans (hb3.mono HB2.size)
        have hx3 := Lib.hid (hx2.out.after hb3)
        go_wp2_with (refine wpList_load_box rfl 26 _ rfl hx3.out (by rfl) Tryz.underlying26 rfl (by kernel_rfl) ?_)
        refine (CALL4.out _ (HRR.out.after HB3) (HF.out h2)).mono ?_
        rintro e w4 ⟨v4, rfl, ho4, hb4⟩
        obtain ⟨a4, c4, rfl, hs4⟩ := ho4.sl
        have HB4 := HB3.trans (hb4.mono HB3.size)
        clear hs4 ho4
        go_wp2_with fail
        go_ret
        exact ⟨by
          rw [HM.out, decide_eq_true h2, decide_eq_true h3]
          show Ending.returned (.bool (decide ((fl.length : Int) ≤ 4096))) = _
          rw [show decide ((fl.length : Int) ≤ 4096) = decide (fl.length ≤ 4096) from decide_eq_decide.2 (by omega)]
          rfl, HB4⟩
      · have h3' : ¬ (D : Int) ≤ 16 := by omega
        go_enter Tryz.func32, Tryz.ntmps32
        go_wp2_with (refine wpList_load_box rfl 26 _ rfl hx0.out (by rfl) Tryz.underlying26 rfl (by kernel_rfl) ?_)
        refine (CALL1.out _ (HRR.out.after hb0)).mono ?_
        rintro e w1 ⟨rfl, hb1⟩
        have HB1 := hb0.trans (hb1.mono hb0.size)
        have hx1 := Lib.hid (hx0.out.after hb1)
        go_wp2_with (refine wpList_load_box rfl 26 _ rfl hx1.out (by rfl) Tryz.underlying26 rfl (by kernel_rfl) ?_)
        refine (CALL2.out _ (HRR.out.after HB1)).mono ?_
        rintro e w2 ⟨rfl, hb2⟩
        have HB2 := HB1.trans (hb2.mono HB1.size)
        have hx2 := Lib.hid (hx1.out.after hb2)
        go_wp2_with (refine wpList_load_box rfl 26 _ rfl hx2.out (by rfl) Tryz.underlying26 rfl (by kernel_rfl) ?_)
        refine (CALL3.out _ (HRR.out.after HB2)).mono ?_
        rintro e w3 ⟨rfl, hb3⟩
        have HB3 := HB2.trans (hb3.mono HB2.size)
        go_wp2_with fail
        go_ret
        exact ⟨by rw [HM.out, decide_eq_true h2, decide_eq_false h3]; rfl, HB3⟩
    · have h2' : ¬ (N : Int) ≤ 512 := by omega
      go_enter Tryz.func32, Tryz.ntmps32
      go_wp2_with (refine wpList_load_box rfl 26 _ rfl hx0.out (by rfl) Tryz.underlying26 rfl (by kernel_rfl) ?_)
      refine (CALL1.out _ (HRR.out.after hb0)).mono ?_
      rintro e w1 ⟨rfl, hb1⟩
      have HB1 := hb0.trans (hb1.mono hb0.size)
      have hx1 := Lib.hid (hx0.out.after hb1)
      go_wp2_with (refine wpList_load_box rfl 26 _ rfl hx1.out (by rfl) Tryz.underlying26 rfl (by kernel_rfl) ?_)
      refine (CALL2.out _ (HRR.out.after HB1)).mono ?_
      rintro e w2 ⟨rfl, hb2⟩
      have HB2 := HB1.trans (hb2.mono HB1.size)
      go_wp2_with fail
      go_ret
      exact ⟨by rw [HM.out, decide_eq_false h2]; rfl, HB2⟩

end Go.Proofs.YtkbblhioncecmaaGreatDoor
namespace Go.Proofs.YtkbblhioncecmaaGreatDoor
open Go.RowKit

variable {P : Program} {ops : Array Oper} {Q : Exit → Act → World → Prop} {md : Region.Mode} {S : World → Prop}

theorem wp_store_cell {o : Oper} {a : Act} {w : World} {K : Act → World → Prop} (ty : TypeId) (x y : Operand) (ho : o.op = .store ty x y)
    {b off : Nat} {k : IntKind} {n : Int} (hx : a.eval x = .pointer (some ⟨b, off, none⟩)) (hy : a.eval y = .int k n) {u : Value} (hc : w.cell? ⟨b, off, none⟩ = some u) (hf : w.frozen? ⟨b, off, none⟩ = false) (hz : ∀ w, (sizeOf ty).run P w = .ok 1 w)
    (h : K (a.put o.dst undef) (w.setCell ⟨b, off, none⟩ (.int k n))) : o.wp P a w K Q := by
  unfold Oper.wp execOp
  simp only [ho, hx, hy]
  simp [go_sem, hz, hc, hf]
  exact h

theorem Stored.one (w : World) (g j : Nat) (v : Value) : Stored w (w.setCell ⟨g, j, none⟩ v) g := (Stored.refl w g).setCell j v

/-- a store of one cell of a block that is known whole -/
theorem wpU_store_cell (i : Nat) {oi : Oper} {tl : List Oper} {fuel : Nat} {listed : Array Bool} {a : Act} {w : World} (hi : ops.toList.drop i = oi :: tl) (hr : Region.ready md ops listed = [i]) (hgd : Region.wanted oi (yielded ops a.tmps) = true)
    (ty : TypeId) (x y : Operand) (ho : oi.op = .store ty x y) {g : Nat} {T : TypeId} {old : Array Value} (hg : Box w g T old) (j : Nat) {k : IntKind} {n : Int} (hx : a.eval x = .pointer (some ⟨g, j, none⟩)) (hy : a.eval y = .int k n) (hj : j < old.size) (hz : ∀ w, (sizeOf ty).run P w = .ok 1 w)
    (h : ∀ w1 w', Below w.heap.size w w1 → S w1 → Box w' g T (old.setIfInBounds j (.int k n)) → Stored w1 w' g → S w' ∧ wpU P md ops Q S fuel (listed.setIfInBounds i true) (a.put oi.dst undef) w') : wpU P md ops Q S (fuel + 1) listed a w :=
  wpU_one i hi hr hgd (fun w1 b1 s1 =>
    have h1 := hg.after b1
    wp_store_cell ty x y ho hx hy (h1.cell j (Array.getElem?_eq_getElem hj)) (h1.frozen j) hz (h w1 _ b1 s1 (h1.set j _) (Stored.one _ _ _ _)))

end Go.Proofs.YtkbblhioncecmaaGreatDoor
namespace Go.Proofs.YtkbblhioncecmaaGreatDoor
open Go.RowKit

variable {P : Program} {ops : Array Oper} {Q : Exit → Act → World → Prop} {md : Region.Mode} {S : World → Prop}

/-- j waits for i, by way of others too -/
def reachB (md : Region.Mode) (ops : Array Oper) : Nat → Nat → Nat → Bool
  | 0, _, _ => false
  | f + 1, j, i => match ops[j]? with
    | some o => o.after.toList.any fun e => Region.binds md e && (e.on == i || reachB md ops f e.on i)
    | none => false
/-- what is done has all done that it waits for -/
def closedB (md : Region.Mode) (ops : Array Oper) (listed : Array Bool) : Bool :=
  (List.range ops.size).all fun k => !(listed.getD k false) || match ops[k]? with
    | some o => o.after.toList.all fun e => !(Region.binds md e) || listed.getD e.on false
    | none => true
def Closed (md : Region.Mode) (ops : Array Oper) (listed : Array Bool) : Prop :=
  ∀ k o, ops[k]? = some o → listed.getD k false = true → ∀ e ∈ o.after, Region.binds md e = true → listed.getD e.on false = true

theorem closed_of {listed : Array Bool} (h : closedB md ops listed = true) : Closed md ops listed := by
  intro k o ho hk e he hb
  have hlt : k < ops.size := (Array.getElem?_eq_some_iff.1 ho).1
  have := List.all_eq_true.1 h k (List.mem_range.2 hlt)
  rw [hk, ho] at this
  simp only [Bool.not_true, Bool.false_or] at this
  have := List.all_eq_true.1 this e (by simpa using he)
  rw [hb] at this
  simpa using this

theorem getD_set_self (listed : Array Bool) (j : Nat) (h : j < listed.size) : (listed.setIfInBounds j true).getD j false = true := by simp [h]
theorem getD_set_other {listed : Array Bool} {j k : Nat} (h : j ≠ k) : (listed.setIfInBounds j true).getD k false = listed.getD k false := by
  simp [h]
theorem getD_set_mono {listed : Array Bool} {j k : Nat} (h : listed.getD k false = true) : (listed.setIfInBounds j true).getD k false = true := by
  by_cases e : j = k
  · subst e
    refine getD_set_self _ _ ?_
    rcases Nat.lt_or_ge j listed.size with h' | h'
    · exact h'
    · simp [Array.getElem?_eq_none h'] at h
  · rw [getD_set_other e]; exact h
theorem Closed.set {listed : Array Bool} {j : Nat} (h : Closed md ops listed) (hj : j ∈ Region.ready md ops listed) : Closed md ops (listed.setIfInBounds j true) := by
  intro k o ho hk e he hb
  by_cases hjk : j = k
  · subst hjk
    obtain ⟨_, oj, hoj, hall⟩ := mem_ready.1 hj
    obtain rfl : oj = o := Option.some.inj (hoj.symm.trans ho)
    exact getD_set_mono (hall e he hb)
  · rw [getD_set_other hjk] at hk
    exact getD_set_mono (h k o ho hk e he hb)

theorem reach_not {listed : Array Bool} {i : Nat} (hc : Closed md ops listed) (hi : listed.getD i false = false) : ∀ (f j : Nat), reachB md ops f j i = true → j ∉ Region.ready md ops listed ∧ listed.getD j false = false
  | 0, _, h => by cases h
  | f + 1, j, h => by
    unfold reachB at h
    cases ho : ops[j]? with
    | none => rw [ho] at h; cases h
    | some o =>
      rw [ho] at h
      obtain ⟨e, he, h2⟩ := List.any_eq_true.1 h
      simp only [Bool.and_eq_true, Bool.or_eq_true, beq_iff_eq] at h2
      have hoff : listed.getD e.on false = false := by
        rcases h2.2 with h3 | h3
        · rw [h3]; exact hi
        · exact (reach_not hc hi f e.on h3).2
      refine ⟨fun hj => ?_, ?_⟩
      · obtain ⟨_, oj, hoj, hall⟩ := mem_ready.1 hj
        obtain rfl : oj = o := Option.some.inj (hoj.symm.trans ho)
        have := hall e (by simpa using he) h2.1
        rw [hoff] at this
        cases this
      · by_cases hj : listed.getD j false = true
        · have := hc j o ho hj e (by simpa using he) h2.1
          rw [hoff] at this
          cases this
        · simpa using hj

/-- whatever order is picked from here on; ws: the operations that write -/
def wpW (P : Program) (md : Region.Mode) (ops : Array Oper) (Q : Exit → Act → World → Prop) (S : World → Prop) (ws : List Nat) : Nat → Array Bool → Act → World → Prop
  | 0, listed, a, w => Region.ready md ops listed = [] ∧ ∀ w1, Below w.heap.size w w1 → S w1 → Q .normal a w1
  | fuel + 1, listed, a, w => ∀ w1, Below w.heap.size w w1 → S w1 → (Region.ready md ops listed = [] → Q .normal a w1) ∧
      ∀ i ∈ Region.ready md ops listed, wpOp P ops Q i (fun a' w' => if ws.contains i then wpU P md ops Q (fun _ => True) fuel (listed.setIfInBounds i true) a' w' else S w' ∧ wpW P md ops Q S ws fuel (listed.setIfInBounds i true) a' w') a w1

theorem wpW_more {ws : List Nat} : ∀ {fuel : Nat} {listed : Array Bool} {a : Act} {w w2 : World}, Below w.heap.size w w2 → wpW P md ops Q S ws fuel listed a w → wpW P md ops Q S ws fuel listed a w2
  | 0, _, _, _, _, hb, h => ⟨h.1, fun w1 b1 s1 => h.2 w1 (hb.trans (b1.mono hb.size)) s1⟩
  | _ + 1, _, _, _, _, hb, h => fun w1 b1 s1 => h w1 (hb.trans (b1.mono hb.size)) s1

theorem wpAny_of_W {ws : List Nat} : ∀ (fuel : Nat) (listed : Array Bool) (a : Act) (w : World), S w → wpW P md ops Q S ws fuel listed a w → wpAny P md ops Q fuel listed a w
  | 0, _, _, w, hS, h => ⟨h.1, h.2 w (Below.refl _ _) hS⟩
  | fuel + 1, _, _, w, hS, h => ⟨(h w (Below.refl _ _) hS).1, fun i hi => wpOp_mono (fun a' w' h' => by
      split at h'
      · exact wpAny_of_U fuel _ a' w' trivial h'
      · exact wpAny_of_W fuel _ a' w' h'.1 h'.2) ((h w (Below.refl _ _) hS).2 i hi)⟩

theorem keeps_true : ∀ w w' : World, True → Below w.heap.size w w' → True := fun _ _ _ _ => trivial

theorem wpW_first {ws : List Nat} {i : Nat} {oi : Oper} {v : Value} (hi : ops[i]? = some oi) (hsel : ∀ (j : Nat) (o : Oper) cs b, ops[j]? = some o → o.op ≠ .select cs b)
    (hQ : ∀ c a w, Q (.panic c) (a.put oi.dst v) w → Q (.panic c) a w) (hK : ∀ w w', S w → Below w.heap.size w w' → S w') (hwi : ws.contains i = false)
    (F : Nat) :
    ∀ (fuel : Nat) (listed : Array Bool) (a : Act) (w : World), ((∀ j, ws.contains j = true → reachB md ops F j i = true) ∨ Tame P ops (fun _ => True) oi v a) → Closed md ops listed →
      (∀ j oj, ops[j]? = some oj → j ≠ i → listed.getD j true = false → (∀ e ∈ oj.after, Region.binds md e = true → e.on ≠ i) → oi.apart ops oj = true) →
      i ∈ Region.ready md ops listed → Tame P ops S oi v a → wpW P md ops Q S ws fuel (listed.setIfInBounds i true) (a.put oi.dst v) w → wpW P md ops Q S ws (fuel + 1) listed a w
  | 0, listed, a, w, _, _, _, hr, hy, H => fun w1 b1 s1 => by
    refine ⟨fun h => (by rw [h] at hr; cases hr), fun j hj => ?_⟩
    by_cases hji : j = i
    · subst hji
      refine hy.wpOp hi s1 fun w2 b2 => ?_
      rw [if_neg (by rw [hwi]; simp)]
      exact ⟨hK _ _ s1 b2, wpW_more (b1.trans (b2.mono b1.size)) H⟩
    · have := ready_mono hj hji
      rw [H.1] at this
      cases this
  | fuel + 1, listed, a, w, hb, hc, hfree, hr, hy, H => fun w1 b1 s1 => by
    refine ⟨fun h => (by rw [h] at hr; cases hr), fun j hj => ?_⟩
    by_cases hji : j = i
    · subst hji
      refine hy.wpOp hi s1 fun w2 b2 => ?_
      rw [if_neg (by rw [hwi]; simp)]
      exact ⟨hK _ _ s1 b2, wpW_more (b1.trans (b2.mono b1.size)) H⟩
    · have h1 := (H w1 b1 s1).2 j (ready_mono hj hji)
      obtain ⟨hjun, oj, hoj, hall⟩ := mem_ready.1 hj
      have hun := (mem_ready.1 hr).1
      have hnot : ∀ e ∈ oj.after, Region.binds md e = true → e.on ≠ i := fun e he hb heq => by
        have h3 := hall e he hb
        have h0 := hun
        rw [heq] at h3
        rcases Nat.lt_or_ge i listed.size with h' | h'
        · simp [h'] at h0 h3; rw [h0] at h3; cases h3
        · simp [Array.getElem?_eq_none h'] at h3
      have hfree' : ∀ k ok, ops[k]? = some ok → k ≠ i → (listed.setIfInBounds j true).getD k true = false → (∀ e ∈ ok.after, Region.binds md e = true → e.on ≠ i) → oi.apart ops ok = true := by
        intro k ok hk hki hun hno
        refine hfree k ok hk hki ?_ hno
        by_cases hjk : j = k
        · subst hjk; exact hjun
        · rw [getD_set_ne true hjk] at hun; exact hun
      by_cases hw : ws.contains j = true
      · rcases hb with hb | hb
        · exact absurd hj (reach_not hc (getD_both hun) F j (hb j hw)).1
        · have h2 := wpOp_tame hoj (hfree j oj hoj hji hjun hnot) (fun cs b => hsel i oi cs b hi) (fun cs b => hsel j oj cs b hoj) hQ hb h1
          refine wpOp_mono (fun a' w' h3 => ?_) h2
          rw [if_pos hw]
          have h4 := h3.2
          rw [if_pos hw] at h4
          refine wpU_first hi hsel hQ keeps_true fuel (listed.setIfInBounds j true) a' w' hfree' (ready_mono hr (Ne.symm hji)) h3.1 ?_
          rw [Array.setIfInBounds_comm _ _ hji]
          exact h4
      · have h2 := wpOp_tame hoj (hfree j oj hoj hji hjun hnot) (fun cs b => hsel i oi cs b hi) (fun cs b => hsel j oj cs b hoj) hQ hy h1
        have hbk : ∀ (a' : Act), execOp a'.eval oi = execOp a.eval oi → Region.wanted oi (yielded ops a'.tmps) = Region.wanted oi (yielded ops a.tmps) → (∀ j, ws.contains j = true → reachB md ops F j i = true) ∨ Tame P ops (fun _ => True) oi v a' := fun a' e1 e2 => hb.imp id fun t => t.of_same e1 e2
        rcases hb with hb | hb
        · refine wpOp_mono (fun a' w' h3 => ?_) h2
          rw [if_neg hw]
          have h4 := h3.2
          rw [if_neg hw] at h4
          refine ⟨h4.1, wpW_first hi hsel hQ hK hwi F fuel (listed.setIfInBounds j true) a' w' (.inl hb) (hc.set hj) hfree' (ready_mono hr (Ne.symm hji)) h3.1 ?_⟩
          rw [Array.setIfInBounds_comm _ _ hji]
          exact h4.2
        · have h5 := wpOp_tame hoj (hfree j oj hoj hji hjun hnot) (fun cs b => hsel i oi cs b hi) (fun cs b => hsel j oj cs b hoj) hQ hb h1
          refine wpOp_mono (fun a' w' h3 => ?_) h5
          rw [if_neg hw]
          have h4 := h3.2
          rw [if_neg hw] at h4
          refine ⟨h4.1, wpW_first hi hsel hQ hK hwi F fuel (listed.setIfInBounds j true) a' w' (.inr h3.1) (hc.set hj) hfree' (ready_mono hr (Ne.symm hji)) ?_ ?_⟩
          · rcases h3.1 with ⟨h6, h7⟩ | h6
            · exact .inl ⟨h6, fun w _ => h7 w trivial⟩
            · exact .inr h6
          · rw [Array.setIfInBounds_comm _ _ hji]
            exact h4.2

/-! the moves -/
theorem wp_region_W {id : Nat} {a : Act} {w : World} {l : List Oper} (ws : List Nat) (S : World → Prop) (hm : P.follows .mixedOrders = true) (h0 : S w.drew)
    (h : wpW P .any l.toArray Q S ws l.toArray.size (Array.replicate l.toArray.size false) a w.drew) : (Code.region id l.toArray true).wp P Q a w :=
  wp_region_any hm (wpAny_of_W _ _ _ _ h0 h)

/-- may i be taken first, though it reads? -/
def aheadB (md : Region.Mode) (ops : Array Oper) (ws : List Nat) (listed : Array Bool) (i : Nat) : Bool :=
  !(ws.contains i) && closedB md ops listed && ws.all (fun j => reachB md ops ops.size j i)

theorem wpW_val (i : Nat) {ws : List Nat} {oi : Oper} {tl : List Oper} {fuel : Nat} {listed : Array Bool} {a : Act} {w : World} (hB : Keeps S) (hi : ops.toList.drop i = oi :: tl)
    (hs : Region.noSelect ops = true) (hf : Region.free md ops listed i = true) (hr : (Region.ready md ops listed).contains i = true) (hah : aheadB md ops ws listed i = true) (hgd : Region.wanted oi (yielded ops a.tmps) = true)
    (hQ : ∀ c a w v, Q (.panic c) (a.put oi.dst v) w → Q (.panic c) a w) (v : Value) (hy : ∀ w, S w → (execOp a.eval oi).run P w = .ok (.value v) w)
    (h : wpW P md ops Q S ws fuel (listed.setIfInBounds i true) (a.put oi.dst v) w) : wpW P md ops Q S ws (fuel + 1) listed a w := by
  simp only [aheadB, Bool.and_eq_true, Bool.not_eq_true'] at hah
  exact wpW_first (op_of_drop hi) (Region.noSelect_spec hs) (fun c a w => hQ c a w v) hB hah.1.1 ops.size fuel listed a w (.inl fun j hj => List.all_eq_true.1 hah.2 j (by simpa using hj)) (closed_of hah.1.2)
    (Region.free_spec (op_of_drop hi) hf) (by simpa using hr) (.inl ⟨hgd, fun w hw => by rw [hy w hw]; exact ⟨rfl, rfl⟩⟩) h

/-- an operation that asks nothing of the world -/
theorem wpW_free (i : Nat) {ws : List Nat} {oi : Oper} {tl : List Oper} {fuel : Nat} {listed : Array Bool} {a : Act} {w : World} (hB : Keeps S) (hi : ops.toList.drop i = oi :: tl)
    (hs : Region.noSelect ops = true) (hf : Region.free md ops listed i = true) (hr : (Region.ready md ops listed).contains i = true) (hah : (!(ws.contains i) && closedB md ops listed) = true) (hgd : Region.wanted oi (yielded ops a.tmps) = true)
    (hQ : ∀ c a w v, Q (.panic c) (a.put oi.dst v) w → Q (.panic c) a w) (v : Value) (hy : ∀ w, (execOp a.eval oi).run P w = .ok (.value v) w)
    (h : wpW P md ops Q S ws fuel (listed.setIfInBounds i true) (a.put oi.dst v) w) : wpW P md ops Q S ws (fuel + 1) listed a w := by
  simp only [Bool.and_eq_true, Bool.not_eq_true'] at hah
  exact wpW_first (op_of_drop hi) (Region.noSelect_spec hs) (fun c a w => hQ c a w v) hB hah.1 ops.size fuel listed a w (.inr (.inl ⟨hgd, fun w _ => by rw [hy w]; exact ⟨rfl, rfl⟩⟩)) (closed_of hah.2)
    (Region.free_spec (op_of_drop hi) hf) (by simpa using hr) (.inl ⟨hgd, fun w hw => by rw [hy w]; exact ⟨rfl, rfl⟩⟩) h

/-- a call that always hands back the same, in each world of the class -/
theorem wpW_call (i : Nat) {ws : List Nat} {oi : Oper} {tl : List Oper} {fuel : Nat} {listed : Array Bool} {a : Act} {w : World} (hB : Keeps S) (hi : ops.toList.drop i = oi :: tl)
    (hs : Region.noSelect ops = true) (hf : Region.free md ops listed i = true) (hr : (Region.ready md ops listed).contains i = true) (hah : aheadB md ops ws listed i = true) (hgd : Region.wanted oi (yielded ops a.tmps) = true)
    (hQ : ∀ c a w v, Q (.panic c) (a.put oi.dst v) w → Q (.panic c) a w) (f : FuncId) (args : Array Value) (hrun : ∀ w, (execOp a.eval oi).run P w = .ok (.enter f args) w) (v : Value)
    (hc : ∀ w, S w → Calls P f args w fun e w' => e = .returned v ∧ Below w.heap.size w w')
    (h : wpW P md ops Q S ws fuel (listed.setIfInBounds i true) (a.put oi.dst v) w) : wpW P md ops Q S ws (fuel + 1) listed a w := by
  simp only [aheadB, Bool.and_eq_true, Bool.not_eq_true'] at hah
  exact wpW_first (op_of_drop hi) (Region.noSelect_spec hs) (fun c a w => hQ c a w v) hB hah.1.1 ops.size fuel listed a w (.inl fun j hj => List.all_eq_true.1 hah.2 j (by simpa using hj)) (closed_of hah.1.2)
    (Region.free_spec (op_of_drop hi) hf) (by simpa using hr) (.inl ⟨hgd, fun w hw => by rw [hrun w]; exact ⟨rfl, hc w hw⟩⟩) h

/-- the one that may come up: it makes memory, or is a call whose result is open -/
theorem wpW_one (i : Nat) {ws : List Nat} {oi : Oper} {tl : List Oper} {fuel : Nat} {listed : Array Bool} {a : Act} {w : World} (hi : ops.toList.drop i = oi :: tl) (hr : Region.ready md ops listed = [i]) (hw : ws.contains i = false) (hgd : Region.wanted oi (yielded ops a.tmps) = true)
    (h : ∀ w1, Below w.heap.size w w1 → S w1 → oi.wp P a w1 (fun a' w' => S w' ∧ wpW P md ops Q S ws fuel (listed.setIfInBounds i true) a' w') Q) : wpW P md ops Q S ws (fuel + 1) listed a w :=
  fun w1 b1 s1 => ⟨fun h0 => (by rw [hr] at h0; cases h0), fun j hj => by
    obtain rfl : j = i := by rw [hr] at hj; simpa using hj
    exact wpOp_step (op_of_drop hi) (fun K' hK => by
      rw [if_pos hgd]
      refine Oper.wp_mono (fun a' w' h' => hK a' w' ?_) (h w1 b1 s1)
      rw [if_neg (by rw [hw]; simp)]
      exact h')⟩

/-- the one that may come up writes -/
theorem wpW_write (i : Nat) {ws : List Nat} {oi : Oper} {tl : List Oper} {fuel : Nat} {listed : Array Bool} {a : Act} {w : World} (hi : ops.toList.drop i = oi :: tl) (hr : Region.ready md ops listed = [i]) (hw : ws.contains i = true) (hgd : Region.wanted oi (yielded ops a.tmps) = true)
    (h : ∀ w1, Below w.heap.size w w1 → S w1 → oi.wp P a w1 (fun a' w' => wpU P md ops Q (fun _ => True) fuel (listed.setIfInBounds i true) a' w') Q) : wpW P md ops Q S ws (fuel + 1) listed a w :=
  fun w1 b1 s1 => ⟨fun h0 => (by rw [hr] at h0; cases h0), fun j hj => by
    obtain rfl : j = i := by rw [hr] at hj; simpa using hj
    exact wpOp_step (op_of_drop hi) (fun K' hK => by
      rw [if_pos hgd]
      refine Oper.wp_mono (fun a' w' h' => hK a' w' ?_) (h w1 b1 s1)
      rw [if_pos hw]
      exact h')⟩

/-- a store of one cell of a block that is known whole -/
theorem wpW_store_cell (i : Nat) {ws : List Nat} {oi : Oper} {tl : List Oper} {fuel : Nat} {listed : Array Bool} {a : Act} {w : World} (hi : ops.toList.drop i = oi :: tl) (hr : Region.ready md ops listed = [i]) (hw : ws.contains i = true) (hgd : Region.wanted oi (yielded ops a.tmps) = true)
    (ty : TypeId) (x y : Operand) (ho : oi.op = .store ty x y) {g : Nat} {T : TypeId} {old : Array Value} (hg : Box w g T old) (j : Nat) {k : IntKind} {n : Int} (hx : a.eval x = .pointer (some ⟨g, j, none⟩)) (hy : a.eval y = .int k n) (hj : j < old.size) (hz : ∀ w, (sizeOf ty).run P w = .ok 1 w)
    (h : ∀ w1 w', Below w.heap.size w w1 → S w1 → Box w' g T (old.setIfInBounds j (.int k n)) → But (fun k => k = g) w1 w' → wpU P md ops Q (fun _ => True) fuel (listed.setIfInBounds i true) (a.put oi.dst undef) w') : wpW P md ops Q S ws (fuel + 1) listed a w :=
  wpW_write i hi hr hw hgd (fun w1 b1 s1 =>
    have h1 := hg.after b1
    wp_store_cell ty x y ho hx hy (h1.cell j (Array.getElem?_eq_getElem hj)) (h1.frozen j) hz (h w1 _ b1 s1 (h1.set j _) ((But.refl (fun k => k = g) w1).setCell (p := ⟨g, j, none⟩) (.inl rfl) _)))

end Go.Proofs.YtkbblhioncecmaaGreatDoor
namespace Go.Proofs.YtkbblhioncecmaaGreatDoor
open Go.RowKit
set_option linter.unusedSimpArgs false
set_option linter.unusedVariables false

/-- what is added to the sum of bytes -/
theorem textL_length (l : List UInt8) : (textL l).length = (numL l.length).length + 1 + l.length := by simp [textL]; omega

set_option maxHeartbeats 1000000 in
set_option maxRecDepth 100000 in
theorem cbytes_any (g N S : Nat) (a : Option Addr) (n c : Nat) (lb : List UInt8) (w : World) (hg : Box w g 74 #[.int .i64 N, .int .i64 S]) (hn : n ≤ 35184372088832) (hS : S ≤ 35184372088832) (hln : n = lb.length) (ht : Tab w) :
    Calls Tryz.prog 58 #[.pointer (some ⟨g, 0, none⟩), .slice a n c] w fun e w' => e = .returned (.tuple #[]) ∧ Box w' g 74 #[.int .i64 N, .int .i64 (S + (textL lb).length : Nat)] ∧ But (fun k => k = g) w w' := by
  have HG := Lib.hid hg
  have HT := Lib.hid ht
  have hk := numL_len (n : Int) (by omega)
  obtain ⟨d, hd⟩ : ∃ d, d = numL n := ⟨_, rfl⟩
  rw [← hd] at hk
  have HE : Hid (((S + (textL lb).length : Nat) : Int) = (S : Int) + ((d.length : Int) + 1 + (n : Int))) := Lib.hid (by rw [textL_length, ← hln, ← hd]; omega)
  have HD := Lib.hid hd
  have HPL := Lib.hid (fun w1 h => putLen_any n (by omega) (by omega) w1 h)
  rw [← hd] at HPL
  have c1 := hg.cell 1 rfl
  clear hg ht hd hln
  have e1 : IntKind.i64.wrap ((d.length : Int) + 1) = (d.length : Int) + 1 := IntWalk.i64_in _ ⟨by omega, by omega⟩
  have e2 : IntKind.i64.wrap ((d.length : Int) + 1 + (n : Int)) = (d.length : Int) + 1 + (n : Int) := IntWalk.i64_in _ ⟨by omega, by omega⟩
  have e3 : IntKind.i64.wrap ((S : Int) + ((d.length : Int) + 1 + (n : Int))) = (S : Int) + ((d.length : Int) + 1 + (n : Int)) := IntWalk.i64_in _ ⟨by omega, by omega⟩
  have E1 := Lib.hid e1
  have E2 := Lib.hid e2
  have E3 := Lib.hid e3
  clear e1 e2 e3
  go_enter Tryz.func58, Tryz.ntmps58
  go_upto_region 0 with fail
  have hKS : Keeps (fun w' => Box w' g 74 #[.int .i64 N, .int .i64 S] ∧ Tab w') := fun w w' h b => ⟨h.1.after b, h.2.after b⟩
  refine wp_region_W (w := w) [15] (fun w' => Box w' g 74 #[.int .i64 N, .int .i64 S] ∧ Tab w') rfl ⟨HG.out.drew, HT.out.after ((Below.refl _ _).drew)⟩ ?_
  refine wpW_val 0 hKS rfl (by kernel_rfl) (by kernel_rfl) (by kernel_rfl) (by kernel_rfl) rfl (fun _ _ _ _ h => h) (.pointer (some ⟨g, 0, none⟩)) (fun w' h => by simp [go_sem]) ?_
  simp only [Act.put, List.setIfInBounds_toArray, List.set_cons_zero, List.set_cons_succ]
  refine wpW_val 1 hKS rfl (by kernel_rfl) (by kernel_rfl) (by kernel_rfl) (by kernel_rfl) rfl (fun _ _ _ _ h => h) (.pointer (some ⟨g, 0, none⟩)) (fun w' h => by simp [go_sem]) ?_
  simp only [Act.put, List.setIfInBounds_toArray, List.set_cons_zero, List.set_cons_succ]
  refine wpW_val 2 hKS rfl (by kernel_rfl) (by kernel_rfl) (by kernel_rfl) (by kernel_rfl) rfl (fun _ _ _ _ h => h) (.pointer (some ⟨g, 1, none⟩)) (fun w' h => by simp [go_sem]) ?_
  simp only [Act.put, List.setIfInBounds_toArray, List.set_cons_zero, List.set_cons_succ]
  refine wpW_val 3 hKS rfl (by kernel_rfl) (by kernel_rfl) (by kernel_rfl) (by kernel_rfl) rfl (fun _ _ _ _ h => h) (.int .i64 S) (fun w' h => by simp [go_sem, h.1.cell 1 rfl]) ?_
  simp only [Act.put, List.setIfInBounds_toArray, List.set_cons_zero, List.set_cons_succ]
  refine wpW_val 4 hKS rfl (by kernel_rfl) (by kernel_rfl) (by kernel_rfl) (by kernel_rfl) rfl (fun _ _ _ _ h => h) (.slice a n c) (fun w' h => by simp [go_sem]) ?_
  simp only [Act.put, List.setIfInBounds_toArray, List.set_cons_zero, List.set_cons_succ]
  refine wpW_val 5 hKS rfl (by kernel_rfl) (by kernel_rfl) (by kernel_rfl) (by kernel_rfl) rfl (fun _ _ _ _ h => h) (.int .i64 n) (fun w' h => by simp [go_sem]) ?_
  simp only [Act.put, List.setIfInBounds_toArray, List.set_cons_zero, List.set_cons_succ]
  refine wpW_call 6 hKS rfl (by kernel_rfl) (by kernel_rfl) (by kernel_rfl) (by kernel_rfl) rfl (fun _ _ _ _ h => h) 76 #[.int .i64 n] (fun w => by simp [go_sem]) (.string ⟨d.toArray⟩) (fun w' h => HPL.out w' h.2) ?_
  simp only [Act.put, List.setIfInBounds_toArray, List.set_cons_zero, List.set_cons_succ]
  refine wpW_val 7 hKS rfl (by kernel_rfl) (by kernel_rfl) (by kernel_rfl) (by kernel_rfl) rfl (fun _ _ _ _ h => h) (.int .i64 d.length) (fun w' h => by simp [go_sem]; first | done | rfl) ?_
  simp only [Act.put, List.setIfInBounds_toArray, List.set_cons_zero, List.set_cons_succ]
  refine wpW_val 8 hKS rfl (by kernel_rfl) (by kernel_rfl) (by kernel_rfl) (by kernel_rfl) rfl (fun _ _ _ _ h => h) (.int .i64 ((d.length : Int) + 1)) (fun w' h => by simp [go_sem, E1.out]) ?_
  simp only [Act.put, List.setIfInBounds_toArray, List.set_cons_zero, List.set_cons_succ]
  refine wpW_val 9 hKS rfl (by kernel_rfl) (by kernel_rfl) (by kernel_rfl) (by kernel_rfl) rfl (fun _ _ _ _ h => h) (.slice a n c) (fun w' h => by simp [go_sem]) ?_
  simp only [Act.put, List.setIfInBounds_toArray, List.set_cons_zero, List.set_cons_succ]
  refine wpW_val 10 hKS rfl (by kernel_rfl) (by kernel_rfl) (by kernel_rfl) (by kernel_rfl) rfl (fun _ _ _ _ h => h) (.int .i64 n) (fun w' h => by simp [go_sem]) ?_
  simp only [Act.put, List.setIfInBounds_toArray, List.set_cons_zero, List.set_cons_succ]
  refine wpW_val 11 hKS rfl (by kernel_rfl) (by kernel_rfl) (by kernel_rfl) (by kernel_rfl) rfl (fun _ _ _ _ h => h) (.int .i64 ((d.length : Int) + 1 + (n : Int))) (fun w' h => by simp [go_sem, E2.out]) ?_
  simp only [Act.put, List.setIfInBounds_toArray, List.set_cons_zero, List.set_cons_succ]
  refine wpW_val 12 hKS rfl (by kernel_rfl) (by kernel_rfl) (by kernel_rfl) (by kernel_rfl) rfl (fun _ _ _ _ h => h) (.int .i64 ((S : Int) + ((d.length : Int) + 1 + (n : Int)))) (fun w' h => by simp [go_sem, E3.out]) ?_
  simp only [Act.put, List.setIfInBounds_toArray, List.set_cons_zero, List.set_cons_succ]
  refine wpW_val 13 hKS rfl (by kernel_rfl) (by kernel_rfl) (by kernel_rfl) (by kernel_rfl) rfl (fun _ _ _ _ h => h) (.pointer (some ⟨g, 0, none⟩)) (fun w' h => by simp [go_sem]) ?_
  simp only [Act.put, List.setIfInBounds_toArray, List.set_cons_zero, List.set_cons_succ]
  refine wpW_val 14 hKS rfl (by kernel_rfl) (by kernel_rfl) (by kernel_rfl) (by kernel_rfl) rfl (fun _ _ _ _ h => h) (.pointer (some ⟨g, 1, none⟩)) (fun w' h => by simp [go_sem]) ?_
  simp only [Act.put, List.setIfInBounds_toArray, List.set_cons_zero, List.set_cons_succ]
  refine wpW_store_cell 15 rfl (by kernel_rfl) rfl rfl 3 _ _ rfl HG.out.drew 1 rfl rfl (show 1 < 2 by decide) (fun w => by simp [go_sem]) ?_
  intro w1 w2 b1 s1 hbx st
  refine wpU_done (by kernel_rfl) ?_
  intro w3 b3 _
  simp only [Act.put]
  have HB := (((But.refl (fun k => k = g) w).drew.trans (But.ofBelow (S := fun k => k = g) b1) (fun k hk => .inl hk)).trans st (fun k hk => .inl hk)).trans (But.ofBelow (S := fun k => k = g) b3) (fun k hk => .inl hk)
  have hb3 := hbx.after b3
  rw [← HE.out] at hb3
  clear hKS b1 b3 st s1 hbx
  go_end0
  exact ⟨rfl, hb3, HB⟩

end Go.Proofs.YtkbblhioncecmaaGreatDoor
namespace Go.Proofs.YtkbblhioncecmaaGreatDoor
open Go.RowKit
set_option linter.unusedSimpArgs false
set_option linter.unusedVariables false

/-- the table stays, whatever of the set is touched -/
def TabX (S : Nat → Prop) (w : World) : Prop := ∀ w', But S w w' → Tab w'
theorem TabX.but {S : Nat → Prop} {w w1 : World} (h : TabX S w) (hb : But S w w1) : TabX S w1 := fun w' hb' => h w' (hb.trans hb' fun k hk => .inl hk)
theorem TabX.new {S : Nat → Prop} {w w1 : World} (h : Tab w) (hb : Below w.heap.size w w1) (hS : ∀ k, S k → w.heap.size ≤ k) : TabX S w1 := fun w' hb' => h.after (But.after hb hb' hb.size hS)

/-- may it be, so deep, behind N others? -/
def Sx.okR (s : Sx) (d N : Nat) : Bool := s.clean && decide (N + s.nodes ≤ 512) && decide (s.deep + d ≤ 17)
theorem nodes_pos (s : Sx) : 1 ≤ s.nodes := by obtain ⟨l, h, hi, da, ks⟩ := s; simp only [Sx.nodes]; omega
theorem okR_many {s : Sx} {d N : Nat} (h : 512 ≤ N) : s.okR d N = false := by
  have := nodes_pos s
  unfold Sx.okR
  rw [decide_eq_false (show ¬ N + s.nodes ≤ 512 by omega)]
  simp
theorem okR_unclean {s : Sx} {d N : Nat} (h : s.clean = false) : s.okR d N = false := by unfold Sx.okR; rw [h]; rfl
theorem okR_deep {h : Bool} {hi da : List UInt8} {ks : List Sx} {d N : Nat} (hd : 16 < d) : (Sx.mk true h hi da ks).okR d N = false := by
  unfold Sx.okR
  rw [decide_eq_false (show ¬ (Sx.mk true h hi da ks).deep + d ≤ 17 by simp only [Sx.deep, if_true]; omega)]
  simp
theorem okR_atom {h : Bool} {hi da : List UInt8} {d N : Nat} (hN : N < 512) (hd : d ≤ 17) (hh : headOk false h hi.length da.length 0 = true) : (Sx.mk false h hi da []).okR d N = true := by
  unfold Sx.okR
  rw [clean_def, show ([] : List Sx).length = 0 from rfl, hh, decide_eq_true (show N + (Sx.mk false h hi da []).nodes ≤ 512 by simp only [Sx.nodes, Sx.nodesL]; omega), decide_eq_true (show (Sx.mk false h hi da []).deep + d ≤ 17 by simp [Sx.deep]; omega)]
  rfl
theorem nodesL_take {ks : List Sx} (k : Nat) (h : k < ks.length) : Sx.nodesL (ks.take k) + ks[k].nodes ≤ Sx.nodesL ks := by
  have := Sx.nodesL_append (ks.take (k + 1)) (ks.drop (k + 1))
  rw [List.take_append_drop, Sx.nodesL_snoc ks k h] at this
  omega
theorem okR_kid {h : Bool} {hi da : List UInt8} {ks : List Sx} {d N : Nat} (k : Nat) (hk : k < ks.length) (h0 : ks[k].okR (d + 1) (N + 1 + Sx.nodesL (ks.take k)) = false) : (Sx.mk true h hi da ks).okR d N = false := by
  have h1 := nodesL_take k hk
  have h2 := Sx.deepL_mem (List.getElem_mem hk)
  unfold Sx.okR at h0 ⊢
  simp only [Bool.and_eq_false_iff, decide_eq_false_iff_not] at h0 ⊢
  simp only [Sx.nodes, Sx.deep, if_true]
  rcases h0 with (h0 | h0) | h0
  · exact .inl (.inl (by rw [clean_def, Sx.cleanL_no (List.getElem_mem hk) h0]; simp))
  · exact .inl (.inr (by omega))
  · exact .inr (by omega)
theorem okR_list {hi da : List UInt8} {ks : List Sx} {d N : Nat} (hd : d ≤ 16) (hN : N < 512) (hh : headOk true false hi.length da.length ks.length = true) (ha : Sx.cleanL ks = true ∧ Sx.deepL ks + d ≤ 16 ∧ (N + 1 + Sx.nodesL ks ≤ 512)) : (Sx.mk true false hi da ks).okR d N = true := by
  unfold Sx.okR
  rw [clean_def, hh, ha.1, decide_eq_true (show N + (Sx.mk true false hi da ks).nodes ≤ 512 by simp only [Sx.nodes]; omega), decide_eq_true (show (Sx.mk true false hi da ks).deep + d ≤ 17 by simp only [Sx.deep, if_true]; omega)]
  rfl
theorem okR_parts {s : Sx} {d N : Nat} (h : s.okR d N = true) : s.clean = true ∧ N + s.nodes ≤ 512 ∧ s.deep + d ≤ 17 := by
  unfold Sx.okR at h
  simpa [and_assoc] using h
theorem may_okR (s : Sx) : s.may = (s.okR 1 0 && decide (s.form.length ≤ 4096)) := by
  unfold Sx.may Sx.okR
  rw [Nat.zero_add, show decide (s.deep + 1 ≤ 17) = decide (s.deep ≤ 16) from decide_eq_decide.2 (by omega)]

def RightP (g : Nat) (ok : Bool) (N S : Nat) (w : World) (e : Ending) (w' : World) : Prop :=
  ∃ N2 S2 : Nat, e = .returned (.bool ok) ∧ Box w' g 74 #[.int .i64 N2, .int .i64 S2] ∧ (ok = true → N2 = N ∧ S2 = S) ∧ But (fun k => k = g) w w'

end Go.Proofs.YtkbblhioncecmaaGreatDoor
namespace Go.Proofs.YtkbblhioncecmaaGreatDoor
open Go.RowKit
set_option linter.unusedSimpArgs false
set_option linter.unusedVariables false

/-! what is to be put yet -/
/-- a value, or a list's end, to be put -/
def ItemAt (w : World) (B : Nat) (p : Value) : Option Sx → Prop
  | none => p = .pointer none
  | some t => ∃ b k v, p = .pointer (some ⟨b, k, none⟩) ∧ b < B ∧ w.rangeAt b k v.cells.toList ∧ RdI (fun k => k < B) w v t ∧ ∃ m, t.wide m = false
def Items (w : World) (B : Nat) (ps : List Value) (its : List (Option Sx)) : Prop := ps.length = its.length ∧ ∀ (j : Nat) (p : Value) (it : Option Sx), ps[j]? = some p → its[j]? = some it → ItemAt w B p it
theorem Items.nil (w : World) (B : Nat) : Items w B [] [] := ⟨rfl, fun j p it h => by simp at h⟩
theorem Items.pop {w : World} {B : Nat} {ps : List Value} {its : List (Option Sx)} (h : Items w B ps its) (hn : ps ≠ []) :
    ∃ ps' p its' it, ps = ps' ++ [p] ∧ its = its' ++ [it] ∧ Items w B ps' its' ∧ ItemAt w B p it := by
  have hn2 : its ≠ [] := fun e => hn (List.eq_nil_of_length_eq_zero (by have := h.1; rw [e] at this; exact this))
  obtain ⟨ps', p, rfl⟩ : ∃ ps' p, ps = ps' ++ [p] := ⟨_, _, (List.dropLast_concat_getLast hn).symm⟩
  obtain ⟨its', it, rfl⟩ : ∃ ps' p, its = ps' ++ [p] := ⟨_, _, (List.dropLast_concat_getLast hn2).symm⟩
  have hl : ps'.length = its'.length := by have := h.1; simpa using this
  refine ⟨ps', p, its', it, rfl, rfl, ⟨hl, fun j q jt h1 h2 => ?_⟩, ?_⟩
  · have e1 : j < ps'.length := (List.getElem?_eq_some_iff.1 h1).1
    exact h.2 j q jt (by rw [List.getElem?_append_left e1]; exact h1) (by rw [List.getElem?_append_left (hl ▸ e1)]; exact h2)
  · exact h.2 ps'.length p it (by simp) (by rw [hl]; simp)

theorem OwnG.form {w : World} {B size n : Nat} {v : Value} {xs : List Value} (h : OwnG w B size v n xs) (hn : n ≠ 0) : ∃ g o cap, v = .slice (some ⟨g, o, none⟩) n cap ∧ n ≤ cap ∧ cap ≤ maxLen ∧ w.rangeAt g o xs := by
  rcases h.2 with ⟨_, h2⟩ | ⟨g, o, cap, h2, _, _, h5, h6, _, h8⟩
  · exact absurd h2 hn
  · exact ⟨g, o, cap, h2, h5, h6, h8⟩
theorem OwnG.shape {w : World} {B size n : Nat} {v : Value} {xs : List Value} (h : OwnG w B size v n xs) : ∃ a cap, v = .slice a n cap := by
  rcases h.2 with ⟨h1, h2⟩ | ⟨g, o, cap, h2, _⟩
  · subst h2; exact ⟨_, _, h1⟩
  · exact ⟨_, _, h2⟩
theorem OwnG.pop {w : World} {B g o n cap : Nat} {xs : List Value} {x : Value} (h : OwnG w B 1 (.slice (some ⟨g, o, none⟩) (n + 1) cap) (n + 1) (xs ++ [x])) : OwnG w B 1 (.slice (some ⟨g, o, none⟩) n cap) n xs := by
  obtain ⟨h1, h2⟩ := h
  rcases h2 with ⟨h2, _⟩ | ⟨g', o', cap', h2, h3, h4, h5, h6, h7, h8⟩
  · cases h2
  · cases h2
    exact .made (by simp at h1; omega) h3 h4 (by omega) h6 h7 (fun j u hu => h8 j u (by rw [List.getElem?_append_left (List.getElem?_eq_some_iff.1 hu).1]; exact hu))

/-- both rows of the call's own, apart -/
structure Two (v0 : World) (B : Nat) (w : World) (vo : Value) (l : List UInt8) (vt : Value) (ps : List Value) : Prop where
  out : OwnB w B vo l
  todo : OwnG w B 1 vt ps.length ps
  apart : ∀ k, vo.ownBlock = some k → vt.ownBlock ≠ some k
  below : Below B v0 w
  size : B ≤ w.heap.size
theorem Two.after {v0 w w' : World} {B : Nat} {vo vt : Value} {l : List UInt8} {ps : List Value} (h : Two v0 B w vo l vt ps) (hb : Below w.heap.size w w') : Two v0 B w' vo l vt ps :=
  ⟨h.out.after hb, h.todo.after hb, h.apart, h.below.trans (hb.mono h.size), Nat.le_trans h.size hb.size⟩
theorem Two.alloc {v0 w : World} {B : Nat} {vo vt : Value} {l : List UInt8} {ps : List Value} (h : Two v0 B w vo l vt ps) (o : Obj) : Two v0 B (w.alloc o) vo l vt ps := h.after ((Below.refl _ _).alloc (Nat.le_refl _) _)
/-- out has been written on -/
theorem Two.wrote {v0 w w' : World} {B : Nat} {vo vt vo' : Value} {l l' : List UInt8} {ps : List Value} (h : Two v0 B w vo l vt ps) (ho : OwnB w' B vo' l') (hb : But (fun k => vo.ownBlock = some k) w w') (hw : ∀ k, vo'.ownBlock = some k → vo.ownBlock = some k ∨ w.heap.size ≤ k) : Two v0 B w' vo' l' vt ps :=
  ⟨ho, h.todo.but hb (fun k hk e => h.apart k e hk), fun k hk => (hw k hk).elim (h.apart k) (fun e e' => by have := (h.todo.lt k e').2; omega), But.after h.below hb h.size (fun k hk => (h.out.own k hk).1), Nat.le_trans h.size hb.size⟩
theorem wp_of_run {P : Program} {o : Oper} {a : Act} {w : World} {K : Act → World → Prop} {Q : Exit → Act → World → Prop} (v : Value) (w' : World) (hr : (execOp a.eval o).run P w = .ok (.value v) w') (h : K (a.put o.dst v) w') : o.wp P a w K Q := by
  unfold Oper.wp
  rw [hr]
  exact h

end Go.Proofs.YtkbblhioncecmaaGreatDoor
namespace Go.Proofs.YtkbblhioncecmaaGreatDoor
open Go.RowKit
set_option linter.unusedSimpArgs false
set_option linter.unusedVariables false

/-- the cells of a row, one behind the other -/
def newsK (K : Nat → SV) : Nat → List Value
  | 0 => []
  | n + 1 => newsK K n ++ (K n).cells.toList
theorem newsK_len (K : Nat → SV) (n : Nat) : (newsK K n).length = n * 5 := by
  induction n with
  | zero => rfl
  | succ n ih => simp only [newsK, List.length_append, ih]; rw [Array.length_toList, SV.cells_size]; omega
theorem newsK_at (K : Nat → SV) (n i j : Nat) (hi : i < n) (hj : j < 5) : (newsK K n)[i * 5 + j]? = (K i).cells[j]? := by
  induction n with
  | zero => omega
  | succ n ih =>
    simp only [newsK]
    by_cases h : i < n
    · rw [List.getElem?_append_left (by rw [newsK_len]; omega), ih h]
    · obtain rfl : i = n := by omega
      rw [List.getElem?_append_right (by rw [newsK_len]; omega), newsK_len, Nat.add_sub_cancel_left]
      simp
theorem newsK_congr {K K' : Nat → SV} {n : Nat} (h : ∀ i, i < n → K i = K' i) : newsK K n = newsK K' n := by
  induction n with
  | zero => rfl
  | succ n ih => simp only [newsK]; rw [ih (fun i hi => h i (by omega)), h n (by omega)]
theorem newsK_one (K : Nat → SV) (n : Nat) : ∀ u ∈ newsK K n, u.oneCell' = true := by
  induction n with
  | zero => intro u hu; cases hu
  | succ n ih =>
    intro u hu
    simp only [newsK, List.mem_append] at hu
    rcases hu with hu | hu
    · exact ih u hu
    · exact (Array.all_eq_true_iff_forall_mem.1 (SV.one (K n))) u (by simpa using hu)
theorem OwnG.row {w : World} {B n : Nat} {v : Value} {K : Nat → SV} (h : OwnG w B 5 v n (newsK K n)) : ∃ a c, v = .slice a n c ∧ RowAt w a n c K ∧ InB (fun k => B ≤ k) a n := by
  rcases h.2 with ⟨rfl, rfl⟩ | ⟨g, o, cap, rfl, h3, h4, h5, h6, h7, h8⟩
  · exact ⟨none, 0, rfl, ⟨Nat.le_refl _, Nat.zero_le _, fun _ => rfl, .inl rfl⟩, .inl rfl⟩
  · refine ⟨_, _, rfl, ⟨h5, h6, (fun h => by cases h), .inr ⟨g, o, rfl, fun i hi j u hu => ?_⟩⟩, .inr fun b o' s e => by cases e; exact h3⟩
    have hj : j < 5 := by rw [← SV.cells_size (K i)]; exact (Array.getElem?_eq_some_iff.1 hu).1
    have := h8 (i * 5 + j) u (by rw [newsK_at K n i j hi hj]; exact hu)
    rwa [← Nat.add_assoc] at this

theorem infoSV : (Tryz.prog.info? 26).map (fun i => (i.zero, i.size, i.bytes)) = some (some SV.nil.val, 5, 80) := by kernel_rfl
theorem nilV_size : SV.nil.val.cells.size = 5 := rfl
/-- 'append(out, l...)' of values -/
theorem wp_append_K {o : Oper} {a : Act} {w : World} {B n : Nat} {v : Value} {xs : List Value} {K : Act → World → Prop} {Q : Exit → Act → World → Prop} (s x : Operand)
    (ho : o.op = .call { callee := .builtin .append, args := #[s, x], argTypes := #[24, 24] })
    (hs : a.eval s = v) (h : OwnG w B 5 v n xs) {m : Nat} {news : List Value} {xv : Value} (hx : a.eval x = xv) (hsrc : Src Tryz.prog 5 24 xv m news w) (hn : n + m ≤ 1000000) (hB : B ≤ w.heap.size)
    (hk : ∀ v' w', OwnG w' B 5 v' (n + m) (xs ++ news) → w.grownBy w' v.ownBlock → (∀ k, v'.ownBlock = some k → v.ownBlock = some k ∨ w.heap.size ≤ k) → K (a.put o.dst v') w') : o.wp Tryz.prog a w K Q := by
  obtain ⟨i0, hi, hi2⟩ := Option.map_eq_some_iff.1 infoSV
  simp only [Prod.mk.injEq] at hi2
  obtain ⟨hz0, hz1, hz2⟩ := hi2
  exact wp_append_G s x 24 24 ho 26 i0 SV.nil.val 80 Tryz.underlying24 hi hz0 hz1 hz2 nilV_size (by decide) hs h _ hx m news hsrc (by unfold maxLen; omega) (by omega) hB hk
theorem wpList_append_K {ops : Array Oper} {rest : List Oper} {o : Oper} {a : Act} {w : World} {B n : Nat} {v : Value} {xs : List Value} {Q : Exit → Act → World → Prop} (hgd : o.guard = none) (s x : Operand)
    (ho : o.op = .call { callee := .builtin .append, args := #[s, x], argTypes := #[24, 24] })
    (hs : a.eval s = v) (h : OwnG w B 5 v n xs) {m : Nat} {news : List Value} {xv : Value} (hx : a.eval x = xv) (hsrc : Src Tryz.prog 5 24 xv m news w) (hn : n + m ≤ 1000000) (hB : B ≤ w.heap.size)
    (hk : ∀ v' w', OwnG w' B 5 v' (n + m) (xs ++ news) → w.grownBy w' v.ownBlock → (∀ k, v'.ownBlock = some k → v.ownBlock = some k ∨ w.heap.size ≤ k) → wpList Tryz.prog ops Q rest (a.put o.dst v') w') : wpList Tryz.prog ops Q (o :: rest) a w :=
  wpList_plain hgd fun _ hK => wp_append_K s x ho hs h hx hsrc hn hB fun v' w' h1 h2 h3 => hK _ _ (hk v' w' h1 h2 h3)

theorem rd_list {ok : Nat → Prop} {w : World} {a : Option Addr} {n c : Nat} {K : Nat → SV} {ks : List Sx} (h : RowAt w a n c K) (hi : InB ok a n) (hn : n = ks.length) (hk : ∀ i (hi : i < ks.length), RdI ok w (K i) ks[i]) : RdI ok w ⟨true, false, none, 0, 0, none, 0, 0, a, n, c⟩ (.mk true false [] [] ks) :=
  .mk _ [] [] ks K (Sl.nil w) (.inl rfl) (Sl.nil w) (.inl rfl) h hi hn hk

end Go.Proofs.YtkbblhioncecmaaGreatDoor

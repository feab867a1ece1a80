/- Regions that draw their order: calls that always hand back the same may be taken first, too; what else is done, is done in whatever world has more memory. -/
import Derived.Test.YtcflgoddfakepaaDoorReg3
import Derived.Test.YtcflgoddfakepaaDoorSl5
namespace Go.Proofs.YtcflgoddfakepaaDoor
open Go.RowKit

variable {P : Program} {ops : Array Oper} {Q : Exit → Act → World → Prop} {md : Region.Mode} {S : World → Prop}

/-- one value, and no memory changed that was there -/
def tameUpon (P : Program) (w : World) (v : Value) : Result Next → Prop
  | .ok (.value u) w' => w' = w ∧ u = v
  | .ok (.enter f args) w' => w' = w ∧ Calls P f args w (fun e w'' => e = .returned v ∧ Below w.heap.size w w'')
  | _ => False

def Tame (P : Program) (ops : Array Oper) (S : World → Prop) (o : Oper) (v : Value) (a : Act) : Prop :=
  (Region.wanted o (yielded ops a.tmps) = true ∧ ∀ w, S w → tameUpon P w v ((execOp a.eval o).run P w)) ∨ (Region.wanted o (yielded ops a.tmps) = false ∧ v = undef)

theorem Tame.wpOp {i : Nat} {o : Oper} {v : Value} {a : Act} (hi : ops[i]? = some o) (hy : Tame P ops S o v a) {K : Act → World → Prop} {w : World} (hS : S w)
    (h : ∀ w2, Below w.heap.size w w2 → K (a.put o.dst v) w2) : wpOp P ops Q i K a w := by
  unfold Go.wpOp
  simp only [hi]
  rcases hy with ⟨hw, hv⟩ | ⟨hw, rfl⟩
  · simp only [hw, if_true]
    left
    have h1 := hv w hS
    unfold Oper.wp
    generalize (execOp a.eval o).run P w = r at *
    cases r with
    | ok n w' =>
      cases n <;> simp only [tameUpon] at h1 <;> simp only [Oper.upon]
      case value u =>
        obtain ⟨rfl, rfl⟩ := h1
        exact h _ (Below.refl _ _)
      case enter f args =>
        obtain ⟨rfl, hc⟩ := h1
        exact hc.mono fun e w'' ⟨he, hb⟩ => by subst he; exact h _ hb
    | halt x w' => simp only [tameUpon] at h1
  · simp only [hw, Bool.false_eq_true, if_false]
    exact h _ (Below.refl _ _)

theorem Tame.of_same {o : Oper} {v : Value} {a a' : Act} (hy : Tame P ops S o v a) (he : execOp a'.eval o = execOp a.eval o)
    (hw : Region.wanted o (yielded ops a'.tmps) = Region.wanted o (yielded ops a.tmps)) : Tame P ops S o v a' := by
  unfold Tame at *
  rw [he, hw]
  exact hy

theorem wpOp_tame {j : Nat} {oi oj : Oper} {v : Value} (hj : ops[j]? = some oj) (hap : oi.apart ops oj = true) (hsi : ∀ cs b, oi.op ≠ .select cs b) (hsj : ∀ cs b, oj.op ≠ .select cs b)
    (hQ : ∀ c a w, Q (.panic c) (a.put oi.dst v) w → Q (.panic c) a w) {K : Act → World → Prop} {a : Act} {w : World} (hy : Tame P ops S oi v a)
    (h : wpOp P ops Q j K (a.put oi.dst v) w) : wpOp P ops Q j (fun a' w' => Tame P ops S oi v a' ∧ K (a'.put oi.dst v) w') a w := by
  obtain ⟨h1, h2, h3⟩ := Oper.apart_spec hap
  have keep : ∀ b : Act, Tame P ops S oi v b → ∀ u, Tame P ops S oi v (b.put oj.dst u) := fun b hb u => hb.of_same (execOp_put oi hsi b oj.dst u h3) (wanted_put oi b oj.dst u h3)
  unfold Go.wpOp at *
  simp only [hj] at *
  rw [wanted_put oj a oi.dst v h1] at h
  by_cases hw : Region.wanted oj (yielded ops a.tmps) = true
  · simp only [hw, if_true] at h ⊢
    rcases h with h | ⟨hasks, hlets⟩
    case inr => exact .inr ⟨by unfold Oper.asks at *; rw [execOp_put oj hsj a oi.dst v h1] at hasks; exact hasks, hlets⟩
    refine .inl ?_
    unfold Oper.wp at *
    rw [execOp_put oj hsj a oi.dst v h1] at h
    generalize (execOp a.eval oj).run P w = r at *
    cases r with
    | halt x w' =>
      cases x <;> simp only [Oper.upon] at h ⊢
      case panic u => exact hQ _ _ _ h
    | ok n w' =>
      cases n <;> simp only [Oper.upon] at h ⊢
      case value u => exact ⟨keep a hy u, by rw [← Act.put_comm a v u h2]; exact h⟩
      case skip => exact ⟨keep a hy _, by rw [← Act.put_comm a v undef h2]; exact h⟩
      case row row args => exact Rows.mono h fun u w'' he => ⟨keep a hy u, by rw [← Act.put_comm a v u h2]; exact he⟩
      case defer d => exact ⟨keep _ (hy.of_same (a' := { a with defers := d :: a.defers }) rfl rfl) _, by rw [← Act.put_comm _ v undef h2, ← Act.put_defers]; exact h⟩
      case enter f args =>
        refine Calls.mono h fun e w'' he => ?_
        cases e with
        | returned u => exact ⟨keep a hy u, by rw [← Act.put_comm a v u h2]; exact he⟩
        | panicked c => exact hQ _ _ _ he
        | outgrown => exact he
  · simp only [hw] at h ⊢
    exact ⟨keep a hy _, by rw [← Act.put_comm a v undef h2]; exact h⟩

/-- whatever order is picked from here on, and whatever memory is made besides -/
def wpU (P : Program) (md : Region.Mode) (ops : Array Oper) (Q : Exit → Act → World → Prop) (S : World → Prop) : Nat → Array Bool → Act → World → Prop
  | 0, listed, a, w => Region.ready md ops listed = [] ∧ ∀ w1, Below w.heap.size w w1 → S w1 → Q .normal a w1
  | fuel + 1, listed, a, w => ∀ w1, Below w.heap.size w w1 → S w1 → (Region.ready md ops listed = [] → Q .normal a w1) ∧
      ∀ i ∈ Region.ready md ops listed, wpOp P ops Q i (fun a' w' => S w' ∧ wpU P md ops Q S fuel (listed.setIfInBounds i true) a' w') a w1

theorem wpU_more : ∀ {fuel : Nat} {listed : Array Bool} {a : Act} {w w2 : World}, Below w.heap.size w w2 → wpU P md ops Q S fuel listed a w → wpU P md ops Q S fuel listed a w2
  | 0, _, _, _, _, hb, h => ⟨h.1, fun w1 b1 s1 => h.2 w1 (hb.trans (b1.mono hb.size)) s1⟩
  | _ + 1, _, _, _, _, hb, h => fun w1 b1 s1 => h w1 (hb.trans (b1.mono hb.size)) s1

theorem wpAny_of_U : ∀ (fuel : Nat) (listed : Array Bool) (a : Act) (w : World), S w → wpU P md ops Q S fuel listed a w → wpAny P md ops Q fuel listed a w
  | 0, _, _, w, hS, h => ⟨h.1, h.2 w (Below.refl _ _) hS⟩
  | fuel + 1, _, _, w, hS, h => ⟨(h w (Below.refl _ _) hS).1, fun i hi => wpOp_mono (fun a' w' h' => wpAny_of_U fuel _ a' w' h'.1 h'.2) ((h w (Below.refl _ _) hS).2 i hi)⟩

theorem wpU_first {i : Nat} {oi : Oper} {v : Value} (hi : ops[i]? = some oi) (hsel : ∀ (j : Nat) (o : Oper) cs b, ops[j]? = some o → o.op ≠ .select cs b)
    (hQ : ∀ c a w, Q (.panic c) (a.put oi.dst v) w → Q (.panic c) a w) (hK : ∀ w w', S w → Below w.heap.size w w' → S w') :
    ∀ (fuel : Nat) (listed : Array Bool) (a : Act) (w : World),
      (∀ j oj, ops[j]? = some oj → j ≠ i → listed.getD j true = false → (∀ e ∈ oj.after, Region.binds md e = true → e.on ≠ i) → oi.apart ops oj = true) →
      i ∈ Region.ready md ops listed → Tame P ops S oi v a → wpU P md ops Q S fuel (listed.setIfInBounds i true) (a.put oi.dst v) w → wpU P md ops Q S (fuel + 1) listed a w
  | 0, listed, a, w, _, hr, hy, H => fun w1 b1 s1 => by
    refine ⟨fun h => (by rw [h] at hr; cases hr), fun j hj => ?_⟩
    by_cases hji : j = i
    · subst hji
      exact hy.wpOp hi s1 fun w2 b2 => ⟨hK _ _ s1 b2, wpU_more (b1.trans (b2.mono b1.size)) H⟩
    · have := ready_mono hj hji
      rw [H.1] at this
      cases this
  | fuel + 1, listed, a, w, hfree, hr, hy, H => fun w1 b1 s1 => by
    refine ⟨fun h => (by rw [h] at hr; cases hr), fun j hj => ?_⟩
    by_cases hji : j = i
    · subst hji
      exact hy.wpOp hi s1 fun w2 b2 => ⟨hK _ _ s1 b2, wpU_more (b1.trans (b2.mono b1.size)) H⟩
    · have h1 := (H w1 b1 s1).2 j (ready_mono hj hji)
      obtain ⟨hjun, oj, hoj, hall⟩ := mem_ready.1 hj
      have hnot : ∀ e ∈ oj.after, Region.binds md e = true → e.on ≠ i := fun e he hb heq => by
        have h3 := hall e he hb
        have h0 := (mem_ready.1 hr).1
        rw [heq] at h3
        rcases Nat.lt_or_ge i listed.size with h' | h'
        · simp [h'] at h0 h3; rw [h0] at h3; cases h3
        · simp [Array.getElem?_eq_none h'] at h3
      have h2 := wpOp_tame hoj (hfree j oj hoj hji hjun hnot) (fun cs b => hsel i oi cs b hi) (fun cs b => hsel j oj cs b hoj) hQ hy h1
      refine wpOp_mono (fun a' w' h3 => ⟨h3.2.1, wpU_first hi hsel hQ hK fuel (listed.setIfInBounds j true) a' w' ?_ (ready_mono hr (Ne.symm hji)) h3.1 ?_⟩) h2
      · intro k ok hk hki hun hno
        refine hfree k ok hk hki ?_ hno
        by_cases hjk : j = k
        · subst hjk; exact hjun
        · rw [getD_set_ne true hjk] at hun; exact hun
      · rw [Array.setIfInBounds_comm _ _ hji]
        exact h3.2.2

/-! the moves -/
theorem wp_region_U {id : Nat} {a : Act} {w : World} {l : List Oper} (S : World → Prop) (hm : P.follows .mixedOrders = true) (h0 : S w.drew)
    (h : wpU P .any l.toArray Q S l.toArray.size (Array.replicate l.toArray.size false) a w.drew) : (Code.region id l.toArray true).wp P Q a w :=
  wp_region_any hm (wpAny_of_U _ _ _ _ h0 h)

/-- what more memory leaves alone -/
def Keeps (S : World → Prop) : Prop := ∀ w w', S w → Below w.heap.size w w' → S w'

theorem wpU_val (i : Nat) {oi : Oper} {tl : List Oper} {fuel : Nat} {listed : Array Bool} {a : Act} {w : World} (hB : Keeps S) (hi : ops.toList.drop i = oi :: tl)
    (hs : Region.noSelect ops = true) (hf : Region.free md ops listed i = true) (hr : (Region.ready md ops listed).contains i = true) (hgd : Region.wanted oi (yielded ops a.tmps) = true)
    (hQ : ∀ c a w v, Q (.panic c) (a.put oi.dst v) w → Q (.panic c) a w) (v : Value) (hy : ∀ w, S w → (execOp a.eval oi).run P w = .ok (.value v) w)
    (h : wpU P md ops Q S fuel (listed.setIfInBounds i true) (a.put oi.dst v) w) : wpU P md ops Q S (fuel + 1) listed a w :=
  wpU_first (op_of_drop hi) (Region.noSelect_spec hs) (fun c a w => hQ c a w v) hB fuel listed a w (Region.free_spec (op_of_drop hi) hf) (by simpa using hr)
    (.inl ⟨hgd, fun w hw => by rw [hy w hw]; exact ⟨rfl, rfl⟩⟩) h

theorem wpU_call (i : Nat) {oi : Oper} {tl : List Oper} {fuel : Nat} {listed : Array Bool} {a : Act} {w : World} (hB : Keeps S) (hi : ops.toList.drop i = oi :: tl)
    (hs : Region.noSelect ops = true) (hf : Region.free md ops listed i = true) (hr : (Region.ready md ops listed).contains i = true) (hgd : Region.wanted oi (yielded ops a.tmps) = true)
    (hQ : ∀ c a w v, Q (.panic c) (a.put oi.dst v) w → Q (.panic c) a w) (f : FuncId) (args : Array Value) (hrun : ∀ w, (execOp a.eval oi).run P w = .ok (.enter f args) w) (v : Value)
    (hc : ∀ w, Calls P f args w fun e w' => e = .returned v ∧ Below w.heap.size w w')
    (h : wpU P md ops Q S fuel (listed.setIfInBounds i true) (a.put oi.dst v) w) : wpU P md ops Q S (fuel + 1) listed a w :=
  wpU_first (op_of_drop hi) (Region.noSelect_spec hs) (fun c a w => hQ c a w v) hB fuel listed a w (Region.free_spec (op_of_drop hi) hf) (by simpa using hr)
    (.inl ⟨hgd, fun w _ => by rw [hrun w]; exact ⟨rfl, hc w⟩⟩) h

theorem wpU_skip (i : Nat) {oi : Oper} {tl : List Oper} {fuel : Nat} {listed : Array Bool} {a : Act} {w : World} (hB : Keeps S) (hi : ops.toList.drop i = oi :: tl)
    (hs : Region.noSelect ops = true) (hf : Region.free md ops listed i = true) (hr : (Region.ready md ops listed).contains i = true) (hgd : Region.wanted oi (yielded ops a.tmps) = false)
    (hQ : ∀ c a w v, Q (.panic c) (a.put oi.dst v) w → Q (.panic c) a w)
    (h : wpU P md ops Q S fuel (listed.setIfInBounds i true) (a.put oi.dst undef) w) : wpU P md ops Q S (fuel + 1) listed a w :=
  wpU_first (op_of_drop hi) (Region.noSelect_spec hs) (fun c a w => hQ c a w undef) hB fuel listed a w (Region.free_spec (op_of_drop hi) hf) (by simpa using hr) (.inr ⟨hgd, rfl⟩) h

theorem wpU_all {rs : List Nat} {fuel : Nat} {listed : Array Bool} {a : Act} {w : World} (hr : Region.ready md ops listed = rs) (hne : rs ≠ [])
    (h : ∀ w1, Below w.heap.size w w1 → S w1 → ∀ i ∈ rs, wpOp P ops Q i (fun a' w' => S w' ∧ wpU P md ops Q S fuel (listed.setIfInBounds i true) a' w') a w1) : wpU P md ops Q S (fuel + 1) listed a w :=
  fun w1 b1 s1 => ⟨fun h0 => absurd (hr ▸ h0) hne, hr ▸ h w1 b1 s1⟩

theorem wpU_done {fuel : Nat} {listed : Array Bool} {a : Act} {w : World} (hr : Region.ready md ops listed = []) (h : ∀ w1, Below w.heap.size w w1 → S w1 → Q .normal a w1) : wpU P md ops Q S fuel listed a w := by
  cases fuel with
  | zero => exact ⟨hr, h⟩
  | succ n => exact fun w1 b1 s1 => ⟨fun _ => h w1 b1 s1, by rw [hr]; simp⟩

/-- the one that may come up -/
theorem wpU_one (i : Nat) {oi : Oper} {tl : List Oper} {fuel : Nat} {listed : Array Bool} {a : Act} {w : World} (hi : ops.toList.drop i = oi :: tl) (hr : Region.ready md ops listed = [i]) (hgd : Region.wanted oi (yielded ops a.tmps) = true)
    (h : ∀ w1, Below w.heap.size w w1 → S w1 → oi.wp P a w1 (fun a' w' => S w' ∧ wpU P md ops Q S fuel (listed.setIfInBounds i true) a' w') Q) : wpU P md ops Q S (fuel + 1) listed a w :=
  wpU_all hr (by simp) (fun w1 b1 s1 j hj => by
    obtain rfl : j = i := by simpa using hj
    exact wpOp_step (op_of_drop hi) (fun K' hK => by rw [if_pos hgd]; exact Oper.wp_mono hK (h w1 b1 s1)))

/-- two that may come up -/
theorem wpU_two (i j : Nat) {oi oj : Oper} {tl tl' : List Oper} {fuel : Nat} {listed : Array Bool} {a : Act} {w : World} (hi : ops.toList.drop i = oi :: tl) (hj : ops.toList.drop j = oj :: tl') (hr : Region.ready md ops listed = [i, j])
    (hgd : Region.wanted oi (yielded ops a.tmps) = true) (hgd' : Region.wanted oj (yielded ops a.tmps) = true)
    (h : ∀ w1, Below w.heap.size w w1 → S w1 → oi.wp P a w1 (fun a' w' => S w' ∧ wpU P md ops Q S fuel (listed.setIfInBounds i true) a' w') Q)
    (h' : ∀ w1, Below w.heap.size w w1 → S w1 → oj.wp P a w1 (fun a' w' => S w' ∧ wpU P md ops Q S fuel (listed.setIfInBounds j true) a' w') Q) : wpU P md ops Q S (fuel + 1) listed a w :=
  wpU_all hr (by simp) (fun w1 b1 s1 k hk => by
    rcases List.mem_cons.1 hk with rfl | hk
    · exact wpOp_step (op_of_drop hi) (fun K' hK => by rw [if_pos hgd]; exact Oper.wp_mono hK (h w1 b1 s1))
    · obtain rfl : k = j := by simpa using hk
      exact wpOp_step (op_of_drop hj) (fun K' hK => by rw [if_pos hgd']; exact Oper.wp_mono hK (h' w1 b1 s1)))

/-- a store of a whole array or struct (in one step: Oper.wp of a store, as a goal, is run by every tactic) -/
theorem wpU_store_box (i : Nat) {oi : Oper} {tl : List Oper} {fuel : Nat} {listed : Array Bool} {a : Act} {w : World} (hi : ops.toList.drop i = oi :: tl) (hr : Region.ready md ops listed = [i]) (hgd : Region.wanted oi (yielded ops a.tmps) = true)
    (ty : TypeId) (x y : Operand) (ho : oi.op = .store ty x y) {g : Nat} {T : TypeId} {old cells : Array Value} (hg : Box w g T old) (hx : a.eval x = .pointer (some ⟨g, 0, none⟩)) (hy : a.eval y = .agg cells) (hsz : old.size = cells.size)
    (hi' : (P.info? ty).map (·.size) = some cells.size) (h1 : cells.all (·.oneCell') = true)
    (h : ∀ w1 w', Below w.heap.size w w1 → S w1 → Box w' g T cells → Stored w1 w' g → S w' ∧ wpU P md ops Q S fuel (listed.setIfInBounds i true) (a.put oi.dst undef) w') : wpU P md ops Q S (fuel + 1) listed a w :=
  wpU_one i hi hr hgd (fun w1 b1 s1 => wp_store_box ty x y ho (hg.after b1) hx hy hsz hi' h1 (fun w' hb st => h w1 w' b1 s1 hb st))

theorem wp_alloc_new {o : Oper} {a : Act} {w : World} {K : Act → World → Prop} (ty : TypeId) (ho : o.op = .alloc ty) (cells : Array Value)
    (hr : ∀ w, (Instr.alloc ty true (.tuple #[])).run P w = .ok (.pointer (some ⟨w.heap.size, 0, none⟩)) (w.alloc (.cells cells ty)))
    (h : ∀ g w', Box w' g ty cells → w.heap.size ≤ g → Below w.heap.size w w' → K (a.put o.dst (.pointer (some ⟨g, 0, none⟩))) w') : o.wp P a w K Q := by
  unfold Oper.wp
  rw [run_alloc_box ho cells (hr w)]
  exact h _ _ (Box.new _ _ _) (Nat.le_refl _) ((Below.refl _ _).alloc (Nat.le_refl _) _)

theorem wp_callR {o : Oper} {a : Act} {w : World} {K : Act → World → Prop} (f : FuncId) (args : Array Value) (hr : (execOp a.eval o).run P w = .ok (.enter f args) w) (R : Ending → World → Prop) (hc : Calls P f args w R)
    (h : ∀ e w', R e w' → ∃ v, e = .returned v ∧ K (a.put o.dst v) w') : o.wp P a w K Q := by
  unfold Oper.wp
  rw [hr]
  refine hc.mono fun e w' he => ?_
  obtain ⟨v, rfl, hv⟩ := h e w' he
  exact hv

theorem run_build {o : Oper} {a : Act} {w : World} {t : TypeId} {ps : Array (Nat × Operand)} (ho : o.op = .build t ps) (qs : Array (Nat × Value)) (hq : (ps.map fun (i, x) => (i, a.eval x)) = qs) (v : Value) (h : (Instr.build t qs).run P w = .ok v w) :
    (execOp a.eval o).run P w = .ok (.value v) w := by
  unfold execOp
  simp only [ho, hq, Sem.run_bind, h, Result.andThen_ok, Sem.run_pure]
end Go.Proofs.YtcflgoddfakepaaDoor

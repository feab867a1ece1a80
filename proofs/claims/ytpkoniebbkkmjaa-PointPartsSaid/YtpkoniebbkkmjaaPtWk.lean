/- Drawn regions that read ahead of what they write: reads and calls are taken first; from the first write on nothing is asked of the world. -/
import Derived.Test.YtpkoniebbkkmjaaPnG9
import Derived.StillTail
namespace Go.Proofs.Ytpkoniebbkkmjaa
open Go.RowKit

variable {P : Program} {ops : Array Oper} {Q : Exit → Act → World → Prop} {md : Region.Mode} {S : World → Prop}

/-- j waits for i, by way of others too -/
def reachB (md : Region.Mode) (ops : Array Oper) : Nat → Nat → Nat → Bool
  | 0, _, _ => false
  | f + 1, j, i => match ops[j]? with
    | some o => o.after.toList.any fun e => Region.binds md e && (e.on == i || reachB md ops f e.on i)
    | none => false
/-- what is done has all done that it waits for -/
def closedB (md : Region.Mode) (ops : Array Oper) (listed : Array Bool) : Bool :=
  (List.range ops.size).all fun k => !(listed.getD k false) || match ops[k]? with
    | some o => o.after.toList.all fun e => !(Region.binds md e) || listed.getD e.on false
    | none => true
def Closed (md : Region.Mode) (ops : Array Oper) (listed : Array Bool) : Prop :=
  ∀ k o, ops[k]? = some o → listed.getD k false = true → ∀ e ∈ o.after, Region.binds md e = true → listed.getD e.on false = true

theorem closed_of {listed : Array Bool} (h : closedB md ops listed = true) : Closed md ops listed := by
  intro k o ho hk e he hb
  have hlt : k < ops.size := (Array.getElem?_eq_some_iff.1 ho).1
  have := List.all_eq_true.1 h k (List.mem_range.2 hlt)
  rw [hk, ho] at this
  simp only [Bool.not_true, Bool.false_or] at this
  have := List.all_eq_true.1 this e (by simpa using he)
  rw [hb] at this
  simpa using this

theorem getD_set_self (listed : Array Bool) (j : Nat) (h : j < listed.size) : (listed.setIfInBounds j true).getD j false = true := by simp [h]
theorem getD_set_other {listed : Array Bool} {j k : Nat} (h : j ≠ k) : (listed.setIfInBounds j true).getD k false = listed.getD k false := by
  simp [h]
theorem getD_set_mono {listed : Array Bool} {j k : Nat} (h : listed.getD k false = true) : (listed.setIfInBounds j true).getD k false = true := by
  by_cases e : j = k
  · subst e
    refine getD_set_self _ _ ?_
    rcases Nat.lt_or_ge j listed.size with h' | h'
    · exact h'
    · simp [Array.getElem?_eq_none h'] at h
  · rw [getD_set_other e]; exact h
theorem Closed.set {listed : Array Bool} {j : Nat} (h : Closed md ops listed) (hj : j ∈ Region.ready md ops listed) : Closed md ops (listed.setIfInBounds j true) := by
  intro k o ho hk e he hb
  by_cases hjk : j = k
  · subst hjk
    obtain ⟨_, oj, hoj, hall⟩ := mem_ready.1 hj
    obtain rfl : oj = o := Option.some.inj (hoj.symm.trans ho)
    exact getD_set_mono (hall e he hb)
  · rw [getD_set_other hjk] at hk
    exact getD_set_mono (h k o ho hk e he hb)

theorem reach_not {listed : Array Bool} {i : Nat} (hc : Closed md ops listed) (hi : listed.getD i false = false) : ∀ (f j : Nat), reachB md ops f j i = true → j ∉ Region.ready md ops listed ∧ listed.getD j false = false
  | 0, _, h => by cases h
  | f + 1, j, h => by
    unfold reachB at h
    cases ho : ops[j]? with
    | none => rw [ho] at h; cases h
    | some o =>
      rw [ho] at h
      obtain ⟨e, he, h2⟩ := List.any_eq_true.1 h
      simp only [Bool.and_eq_true, Bool.or_eq_true, beq_iff_eq] at h2
      have hoff : listed.getD e.on false = false := by
        rcases h2.2 with h3 | h3
        · rw [h3]; exact hi
        · exact (reach_not hc hi f e.on h3).2
      refine ⟨fun hj => ?_, ?_⟩
      · obtain ⟨_, oj, hoj, hall⟩ := mem_ready.1 hj
        obtain rfl : oj = o := Option.some.inj (hoj.symm.trans ho)
        have := hall e (by simpa using he) h2.1
        rw [hoff] at this
        cases this
      · by_cases hj : listed.getD j false = true
        · have := hc j o ho hj e (by simpa using he) h2.1
          rw [hoff] at this
          cases this
        · simpa using hj

/-- whatever order is picked from here on; ws: the operations that write -/
def wpW (P : Program) (md : Region.Mode) (ops : Array Oper) (Q : Exit → Act → World → Prop) (S : World → Prop) (ws : List Nat) : Nat → Array Bool → Act → World → Prop
  | 0, listed, a, w => Region.ready md ops listed = [] ∧ ∀ w1, Below w.heap.size w w1 → S w1 → Q .normal a w1
  | fuel + 1, listed, a, w => ∀ w1, Below w.heap.size w w1 → S w1 → (Region.ready md ops listed = [] → Q .normal a w1) ∧
      ∀ i ∈ Region.ready md ops listed, wpOp P ops Q i (fun a' w' => if ws.contains i then wpU P md ops Q (fun _ => True) fuel (listed.setIfInBounds i true) a' w' else S w' ∧ wpW P md ops Q S ws fuel (listed.setIfInBounds i true) a' w') a w1

theorem wpW_more {ws : List Nat} : ∀ {fuel : Nat} {listed : Array Bool} {a : Act} {w w2 : World}, Below w.heap.size w w2 → wpW P md ops Q S ws fuel listed a w → wpW P md ops Q S ws fuel listed a w2
  | 0, _, _, _, _, hb, h => ⟨h.1, fun w1 b1 s1 => h.2 w1 (hb.trans (b1.mono hb.size)) s1⟩
  | _ + 1, _, _, _, _, hb, h => fun w1 b1 s1 => h w1 (hb.trans (b1.mono hb.size)) s1

theorem wpAny_of_W {ws : List Nat} : ∀ (fuel : Nat) (listed : Array Bool) (a : Act) (w : World), S w → wpW P md ops Q S ws fuel listed a w → wpAny P md ops Q fuel listed a w
  | 0, _, _, w, hS, h => ⟨h.1, h.2 w (Below.refl _ _) hS⟩
  | fuel + 1, _, _, w, hS, h => ⟨(h w (Below.refl _ _) hS).1, fun i hi => wpOp_mono (fun a' w' h' => by
      split at h'
      · exact wpAny_of_U fuel _ a' w' trivial h'
      · exact wpAny_of_W fuel _ a' w' h'.1 h'.2) ((h w (Below.refl _ _) hS).2 i hi)⟩

theorem keeps_true : ∀ w w' : World, True → Below w.heap.size w w' → True := fun _ _ _ _ => trivial

theorem wpW_first {ws : List Nat} {i : Nat} {oi : Oper} {v : Value} (hi : ops[i]? = some oi) (hsel : ∀ (j : Nat) (o : Oper) cs b, ops[j]? = some o → o.op ≠ .select cs b)
    (hQ : ∀ c a w, Q (.panic c) (a.put oi.dst v) w → Q (.panic c) a w) (hK : ∀ w w', S w → Below w.heap.size w w' → S w') (hwi : ws.contains i = false)
    (F : Nat) :
    ∀ (fuel : Nat) (listed : Array Bool) (a : Act) (w : World), ((∀ j, ws.contains j = true → reachB md ops F j i = true) ∨ Tame P ops (fun _ => True) oi v a) → Closed md ops listed →
      (∀ j oj, ops[j]? = some oj → j ≠ i → listed.getD j true = false → (∀ e ∈ oj.after, Region.binds md e = true → e.on ≠ i) → oi.apart ops oj = true) →
      i ∈ Region.ready md ops listed → Tame P ops S oi v a → wpW P md ops Q S ws fuel (listed.setIfInBounds i true) (a.put oi.dst v) w → wpW P md ops Q S ws (fuel + 1) listed a w
  | 0, listed, a, w, _, _, _, hr, hy, H => fun w1 b1 s1 => by
    refine ⟨fun h => (by rw [h] at hr; cases hr), fun j hj => ?_⟩
    by_cases hji : j = i
    · subst hji
      refine hy.wpOp hi s1 fun w2 b2 => ?_
      rw [if_neg (by rw [hwi]; simp)]
      exact ⟨hK _ _ s1 b2, wpW_more (b1.trans (b2.mono b1.size)) H⟩
    · have := ready_mono hj hji
      rw [H.1] at this
      cases this
  | fuel + 1, listed, a, w, hb, hc, hfree, hr, hy, H => fun w1 b1 s1 => by
    refine ⟨fun h => (by rw [h] at hr; cases hr), fun j hj => ?_⟩
    by_cases hji : j = i
    · subst hji
      refine hy.wpOp hi s1 fun w2 b2 => ?_
      rw [if_neg (by rw [hwi]; simp)]
      exact ⟨hK _ _ s1 b2, wpW_more (b1.trans (b2.mono b1.size)) H⟩
    · have h1 := (H w1 b1 s1).2 j (ready_mono hj hji)
      obtain ⟨hjun, oj, hoj, hall⟩ := mem_ready.1 hj
      have hun := (mem_ready.1 hr).1
      have hnot : ∀ e ∈ oj.after, Region.binds md e = true → e.on ≠ i := fun e he hb heq => by
        have h3 := hall e he hb
        have h0 := hun
        rw [heq] at h3
        rcases Nat.lt_or_ge i listed.size with h' | h'
        · simp [h'] at h0 h3; rw [h0] at h3; cases h3
        · simp [Array.getElem?_eq_none h'] at h3
      have hfree' : ∀ k ok, ops[k]? = some ok → k ≠ i → (listed.setIfInBounds j true).getD k true = false → (∀ e ∈ ok.after, Region.binds md e = true → e.on ≠ i) → oi.apart ops ok = true := by
        intro k ok hk hki hun hno
        refine hfree k ok hk hki ?_ hno
        by_cases hjk : j = k
        · subst hjk; exact hjun
        · rw [getD_set_ne true hjk] at hun; exact hun
      by_cases hw : ws.contains j = true
      · rcases hb with hb | hb
        · exact absurd hj (reach_not hc (getD_both hun) F j (hb j hw)).1
        · have h2 := wpOp_tame hoj (hfree j oj hoj hji hjun hnot) (fun cs b => hsel i oi cs b hi) (fun cs b => hsel j oj cs b hoj) hQ hb h1
          refine wpOp_mono (fun a' w' h3 => ?_) h2
          rw [if_pos hw]
          have h4 := h3.2
          rw [if_pos hw] at h4
          refine wpU_first hi hsel hQ keeps_true fuel (listed.setIfInBounds j true) a' w' hfree' (ready_mono hr (Ne.symm hji)) h3.1 ?_
          rw [Array.setIfInBounds_comm _ _ hji]
          exact h4
      · have h2 := wpOp_tame hoj (hfree j oj hoj hji hjun hnot) (fun cs b => hsel i oi cs b hi) (fun cs b => hsel j oj cs b hoj) hQ hy h1
        have hbk : ∀ (a' : Act), execOp a'.eval oi = execOp a.eval oi → Region.wanted oi (yielded ops a'.tmps) = Region.wanted oi (yielded ops a.tmps) → (∀ j, ws.contains j = true → reachB md ops F j i = true) ∨ Tame P ops (fun _ => True) oi v a' := fun a' e1 e2 => hb.imp id fun t => t.of_same e1 e2
        rcases hb with hb | hb
        · refine wpOp_mono (fun a' w' h3 => ?_) h2
          rw [if_neg hw]
          have h4 := h3.2
          rw [if_neg hw] at h4
          refine ⟨h4.1, wpW_first hi hsel hQ hK hwi F fuel (listed.setIfInBounds j true) a' w' (.inl hb) (hc.set hj) hfree' (ready_mono hr (Ne.symm hji)) h3.1 ?_⟩
          rw [Array.setIfInBounds_comm _ _ hji]
          exact h4.2
        · have h5 := wpOp_tame hoj (hfree j oj hoj hji hjun hnot) (fun cs b => hsel i oi cs b hi) (fun cs b => hsel j oj cs b hoj) hQ hb h1
          refine wpOp_mono (fun a' w' h3 => ?_) h5
          rw [if_neg hw]
          have h4 := h3.2
          rw [if_neg hw] at h4
          refine ⟨h4.1, wpW_first hi hsel hQ hK hwi F fuel (listed.setIfInBounds j true) a' w' (.inr h3.1) (hc.set hj) hfree' (ready_mono hr (Ne.symm hji)) ?_ ?_⟩
          · rcases h3.1 with ⟨h6, h7⟩ | h6
            · exact .inl ⟨h6, fun w _ => h7 w trivial⟩
            · exact .inr h6
          · rw [Array.setIfInBounds_comm _ _ hji]
            exact h4.2

/-! the moves -/
theorem wp_region_W {id : Nat} {a : Act} {w : World} {l : List Oper} (ws : List Nat) (S : World → Prop) (hm : P.follows .mixedOrders = true) (h0 : S w.drew)
    (h : wpW P .any l.toArray Q S ws l.toArray.size (Array.replicate l.toArray.size false) a w.drew) : (Code.region id l.toArray true).wp P Q a w :=
  wp_region_any hm (wpAny_of_W _ _ _ _ h0 h)

/-- may i be taken first, though it reads? -/
def aheadB (md : Region.Mode) (ops : Array Oper) (ws : List Nat) (listed : Array Bool) (i : Nat) : Bool :=
  !(ws.contains i) && closedB md ops listed && ws.all (fun j => reachB md ops ops.size j i)

theorem wpW_val (i : Nat) {ws : List Nat} {oi : Oper} {tl : List Oper} {fuel : Nat} {listed : Array Bool} {a : Act} {w : World} (hB : Keeps S) (hi : ops.toList.drop i = oi :: tl)
    (hs : Region.noSelect ops = true) (hf : Region.free md ops listed i = true) (hr : (Region.ready md ops listed).contains i = true) (hah : aheadB md ops ws listed i = true) (hgd : Region.wanted oi (yielded ops a.tmps) = true)
    (hQ : ∀ c a w v, Q (.panic c) (a.put oi.dst v) w → Q (.panic c) a w) (v : Value) (hy : ∀ w, S w → (execOp a.eval oi).run P w = .ok (.value v) w)
    (h : wpW P md ops Q S ws fuel (listed.setIfInBounds i true) (a.put oi.dst v) w) : wpW P md ops Q S ws (fuel + 1) listed a w := by
  simp only [aheadB, Bool.and_eq_true, Bool.not_eq_true'] at hah
  exact wpW_first (op_of_drop hi) (Region.noSelect_spec hs) (fun c a w => hQ c a w v) hB hah.1.1 ops.size fuel listed a w (.inl fun j hj => List.all_eq_true.1 hah.2 j (by simpa using hj)) (closed_of hah.1.2)
    (Region.free_spec (op_of_drop hi) hf) (by simpa using hr) (.inl ⟨hgd, fun w hw => by rw [hy w hw]; exact ⟨rfl, rfl⟩⟩) h

theorem wpW_skip (i : Nat) {ws : List Nat} {oi : Oper} {tl : List Oper} {fuel : Nat} {listed : Array Bool} {a : Act} {w : World} (hB : Keeps S) (hi : ops.toList.drop i = oi :: tl)
    (hs : Region.noSelect ops = true) (hf : Region.free md ops listed i = true) (hr : (Region.ready md ops listed).contains i = true) (hah : (!(ws.contains i) && closedB md ops listed) = true) (hgd : Region.wanted oi (yielded ops a.tmps) = false)
    (hQ : ∀ c a w v, Q (.panic c) (a.put oi.dst v) w → Q (.panic c) a w)
    (h : wpW P md ops Q S ws fuel (listed.setIfInBounds i true) (a.put oi.dst undef) w) : wpW P md ops Q S ws (fuel + 1) listed a w := by
  simp only [Bool.and_eq_true, Bool.not_eq_true'] at hah
  exact wpW_first (op_of_drop hi) (Region.noSelect_spec hs) (fun c a w => hQ c a w undef) hB hah.1 ops.size fuel listed a w (.inr (.inr ⟨hgd, rfl⟩)) (closed_of hah.2)
    (Region.free_spec (op_of_drop hi) hf) (by simpa using hr) (.inr ⟨hgd, rfl⟩) h

/-- an operation that asks nothing of the world -/
theorem wpW_free (i : Nat) {ws : List Nat} {oi : Oper} {tl : List Oper} {fuel : Nat} {listed : Array Bool} {a : Act} {w : World} (hB : Keeps S) (hi : ops.toList.drop i = oi :: tl)
    (hs : Region.noSelect ops = true) (hf : Region.free md ops listed i = true) (hr : (Region.ready md ops listed).contains i = true) (hah : (!(ws.contains i) && closedB md ops listed) = true) (hgd : Region.wanted oi (yielded ops a.tmps) = true)
    (hQ : ∀ c a w v, Q (.panic c) (a.put oi.dst v) w → Q (.panic c) a w) (v : Value) (hy : ∀ w, (execOp a.eval oi).run P w = .ok (.value v) w)
    (h : wpW P md ops Q S ws fuel (listed.setIfInBounds i true) (a.put oi.dst v) w) : wpW P md ops Q S ws (fuel + 1) listed a w := by
  simp only [Bool.and_eq_true, Bool.not_eq_true'] at hah
  exact wpW_first (op_of_drop hi) (Region.noSelect_spec hs) (fun c a w => hQ c a w v) hB hah.1 ops.size fuel listed a w (.inr (.inl ⟨hgd, fun w _ => by rw [hy w]; exact ⟨rfl, rfl⟩⟩)) (closed_of hah.2)
    (Region.free_spec (op_of_drop hi) hf) (by simpa using hr) (.inl ⟨hgd, fun w hw => by rw [hy w]; exact ⟨rfl, rfl⟩⟩) h

/-- a call that always hands back the same, in each world of the class -/
theorem wpW_call (i : Nat) {ws : List Nat} {oi : Oper} {tl : List Oper} {fuel : Nat} {listed : Array Bool} {a : Act} {w : World} (hB : Keeps S) (hi : ops.toList.drop i = oi :: tl)
    (hs : Region.noSelect ops = true) (hf : Region.free md ops listed i = true) (hr : (Region.ready md ops listed).contains i = true) (hah : aheadB md ops ws listed i = true) (hgd : Region.wanted oi (yielded ops a.tmps) = true)
    (hQ : ∀ c a w v, Q (.panic c) (a.put oi.dst v) w → Q (.panic c) a w) (f : FuncId) (args : Array Value) (hrun : ∀ w, (execOp a.eval oi).run P w = .ok (.enter f args) w) (v : Value)
    (hc : ∀ w, S w → Calls P f args w fun e w' => e = .returned v ∧ Below w.heap.size w w')
    (h : wpW P md ops Q S ws fuel (listed.setIfInBounds i true) (a.put oi.dst v) w) : wpW P md ops Q S ws (fuel + 1) listed a w := by
  simp only [aheadB, Bool.and_eq_true, Bool.not_eq_true'] at hah
  exact wpW_first (op_of_drop hi) (Region.noSelect_spec hs) (fun c a w => hQ c a w v) hB hah.1.1 ops.size fuel listed a w (.inl fun j hj => List.all_eq_true.1 hah.2 j (by simpa using hj)) (closed_of hah.1.2)
    (Region.free_spec (op_of_drop hi) hf) (by simpa using hr) (.inl ⟨hgd, fun w hw => by rw [hrun w]; exact ⟨rfl, hc w hw⟩⟩) h

theorem wpW_done {ws : List Nat} {fuel : Nat} {listed : Array Bool} {a : Act} {w : World} (hr : Region.ready md ops listed = []) (h : ∀ w1, Below w.heap.size w w1 → S w1 → Q .normal a w1) : wpW P md ops Q S ws fuel listed a w := by
  cases fuel with
  | zero => exact ⟨hr, h⟩
  | succ n => exact fun w1 b1 s1 => ⟨fun _ => h w1 b1 s1, by rw [hr]; simp⟩

/-- the one that may come up: it makes memory, or is a call whose result is open -/
theorem wpW_one (i : Nat) {ws : List Nat} {oi : Oper} {tl : List Oper} {fuel : Nat} {listed : Array Bool} {a : Act} {w : World} (hi : ops.toList.drop i = oi :: tl) (hr : Region.ready md ops listed = [i]) (hw : ws.contains i = false) (hgd : Region.wanted oi (yielded ops a.tmps) = true)
    (h : ∀ w1, Below w.heap.size w w1 → S w1 → oi.wp P a w1 (fun a' w' => S w' ∧ wpW P md ops Q S ws fuel (listed.setIfInBounds i true) a' w') Q) : wpW P md ops Q S ws (fuel + 1) listed a w :=
  fun w1 b1 s1 => ⟨fun h0 => (by rw [hr] at h0; cases h0), fun j hj => by
    obtain rfl : j = i := by rw [hr] at hj; simpa using hj
    exact wpOp_step (op_of_drop hi) (fun K' hK => by
      rw [if_pos hgd]
      refine Oper.wp_mono (fun a' w' h' => hK a' w' ?_) (h w1 b1 s1)
      rw [if_neg (by rw [hw]; simp)]
      exact h')⟩

/-- the one that may come up writes -/
theorem wpW_write (i : Nat) {ws : List Nat} {oi : Oper} {tl : List Oper} {fuel : Nat} {listed : Array Bool} {a : Act} {w : World} (hi : ops.toList.drop i = oi :: tl) (hr : Region.ready md ops listed = [i]) (hw : ws.contains i = true) (hgd : Region.wanted oi (yielded ops a.tmps) = true)
    (h : ∀ w1, Below w.heap.size w w1 → S w1 → oi.wp P a w1 (fun a' w' => wpU P md ops Q (fun _ => True) fuel (listed.setIfInBounds i true) a' w') Q) : wpW P md ops Q S ws (fuel + 1) listed a w :=
  fun w1 b1 s1 => ⟨fun h0 => (by rw [hr] at h0; cases h0), fun j hj => by
    obtain rfl : j = i := by rw [hr] at hj; simpa using hj
    exact wpOp_step (op_of_drop hi) (fun K' hK => by
      rw [if_pos hgd]
      refine Oper.wp_mono (fun a' w' h' => hK a' w' ?_) (h w1 b1 s1)
      rw [if_pos hw]
      exact h')⟩

/-- a store of a whole array or struct -/
theorem wpW_store_box (i : Nat) {ws : List Nat} {oi : Oper} {tl : List Oper} {fuel : Nat} {listed : Array Bool} {a : Act} {w : World} (hi : ops.toList.drop i = oi :: tl) (hr : Region.ready md ops listed = [i]) (hw : ws.contains i = true) (hgd : Region.wanted oi (yielded ops a.tmps) = true)
    (ty : TypeId) (x y : Operand) (ho : oi.op = .store ty x y) {g : Nat} {T : TypeId} {old cells : Array Value} (hg : Box w g T old) (hx : a.eval x = .pointer (some ⟨g, 0, none⟩)) (hy : a.eval y = .agg cells) (hsz : old.size = cells.size)
    (hi' : (P.info? ty).map (·.size) = some cells.size) (h1 : cells.all (·.oneCell') = true)
    (h : ∀ w1 w', Below w.heap.size w w1 → S w1 → Box w' g T cells → Stored w1 w' g → wpU P md ops Q (fun _ => True) fuel (listed.setIfInBounds i true) (a.put oi.dst undef) w') : wpW P md ops Q S ws (fuel + 1) listed a w :=
  wpW_write i hi hr hw hgd (fun w1 b1 s1 => wp_store_box ty x y ho (hg.after b1) hx hy hsz hi' h1 (fun w' hb st => h w1 w' b1 s1 hb st))
end Go.Proofs.Ytpkoniebbkkmjaa

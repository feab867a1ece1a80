import Derived.Test.YtmmkaclmgnpplaaGreatDoorMz4
import Derived.StillTail
set_option maxRecDepth 100000
set_option maxHeartbeats 64000000
set_option linter.unusedSimpArgs false
set_option linter.unusedVariables false
namespace Go.Proofs.YtmmkaclmgnpplaaGreatDoor
open Go.RowKit
section
variable {P : Program} {ops : Array Oper} {Q : Exit → Act → World → Prop} {md : Region.Mode} {S : World → Prop}
def reachB (md : Region.Mode) (ops : Array Oper) : Nat → Nat → Nat → Bool
 | 0, _, _ => false
 | f + 1, j, i => match ops[j]? with
  | some o => o.after.toList.any fun e => Region.binds md e && (e.on == i || reachB md ops f e.on i)
  | none => false
def closedB (md : Region.Mode) (ops : Array Oper) (listed : Array Bool) : Bool :=
 (List.range ops.size).all fun k => !(listed.getD k false) || match ops[k]? with
  | some o => o.after.toList.all fun e => !(Region.binds md e) || listed.getD e.on false
  | none => true
def Closed (md : Region.Mode) (ops : Array Oper) (listed : Array Bool) : Prop :=
 ∀ k o, ops[k]? = some o → listed.getD k false = true → ∀ e ∈ o.after, Region.binds md e = true → listed.getD e.on false = true
theorem kY {listed : Array Bool} (h : closedB md ops listed = true) : Closed md ops listed := by
 intro k o ho hk e he hb
 have aJ : k < ops.size := (Array.getElem?_eq_some_iff.1 ho).1
 have := List.all_eq_true.1 h k (List.mem_range.2 aJ)
 rw [hk, ho] at this
 simp only [Bool.not_true, Bool.false_or] at this
 have := List.all_eq_true.1 this e (by simpa using he)
 rw [hb] at this
 simpa using this
theorem nd (listed : Array Bool) (j : Nat) (h : j < listed.size) : (listed.setIfInBounds j true).getD j false = true := by simp [h]
theorem il {listed : Array Bool} {j k : Nat} (h : j ≠ k) : (listed.setIfInBounds j true).getD k false = listed.getD k false := by
 simp [h]
theorem jc {listed : Array Bool} {j k : Nat} (h : listed.getD k false = true) : (listed.setIfInBounds j true).getD k false = true := by
 by_cases e : j = k
 ·subst e
  refine nd _ _ ?_
  rcases Nat.lt_or_ge j listed.size with h' | h'
  ·exact h'
  ·simp [Array.getElem?_eq_none h'] at h
 ·rw [il e]; exact h
theorem Closed.set {listed : Array Bool} {j : Nat} (h : Closed md ops listed) (hj : j ∈ Region.ready md ops listed) : Closed md ops (listed.setIfInBounds j true) := by
 intro k o ho hk e he hb
 by_cases zJ : j = k
 ·subst zJ
  obtain ⟨_, oj, hoj, hall⟩ := mem_ready.1 hj
  obtain rfl : oj = o := Option.some.inj (hoj.symm.trans ho)
  exact jc (hall e he hb)
 ·rw [il zJ] at hk
  exact jc (h k o ho hk e he hb)
theorem nu {listed : Array Bool} {i : Nat} (hc : Closed md ops listed) (hi : listed.getD i false = false) : ∀ (f j : Nat), reachB md ops f j i = true → j ∉ Region.ready md ops listed ∧ listed.getD j false = false
 | 0, _, h => by cases h
 | f + 1, j, h => by
  unfold reachB at h
  cases ho : ops[j]? with
  | none => rw [ho] at h; cases h
  | some o =>
   rw [ho] at h
   obtain ⟨e, he, h2⟩ := List.any_eq_true.1 h
   simp only [Bool.and_eq_true, Bool.or_eq_true, beq_iff_eq] at h2
   have Cl : listed.getD e.on false = false := by
    rcases h2.2 with h3 | h3
    ·rw [h3]; exact hi
    ·exact (nu hc hi f e.on h3).2
   refine ⟨fun hj => ?_, ?_⟩
   ·obtain ⟨_, oj, hoj, hall⟩ := mem_ready.1 hj
    obtain rfl : oj = o := Option.some.inj (hoj.symm.trans ho)
    have := hall e (by simpa using he) h2.1
    rw [Cl] at this
    cases this
   ·by_cases hj : listed.getD j false = true
    ·have := hc j o ho hj e (by simpa using he) h2.1
     rw [Cl] at this
     cases this
    ·simpa using hj
def wpW (P : Program) (md : Region.Mode) (ops : Array Oper) (Q : Exit → Act → World → Prop) (S : World → Prop) (ws : List Nat) : Nat → Array Bool → Act → World → Prop
 | 0, listed, a, w => Region.ready md ops listed = [] ∧ ∀ w1, Below w.heap.size w w1 → S w1 → Q .normal a w1
 | fuel + 1, listed, a, w => ∀ w1, Below w.heap.size w w1 → S w1 → (Region.ready md ops listed = [] → Q .normal a w1) ∧
   ∀ i ∈ Region.ready md ops listed, wpOp P ops Q i (fun a' w' => if ws.contains i then wpU P md ops Q (fun _ => True) fuel (listed.setIfInBounds i true) a' w' else S w' ∧ wpW P md ops Q S ws fuel (listed.setIfInBounds i true) a' w') a w1
theorem pk {ws : List Nat} : ∀ {fuel : Nat} {listed : Array Bool} {a : Act} {w w2 : World}, Below w.heap.size w w2 → wpW P md ops Q S ws fuel listed a w → wpW P md ops Q S ws fuel listed a w2
 | 0, _, _, _, _, hb, h => ⟨h.1, fun w1 b1 s1 => h.2 w1 (hb.trans (b1.mono hb.size)) s1⟩
 | _ + 1, _, _, _, _, hb, h => fun w1 b1 s1 => h w1 (hb.trans (b1.mono hb.size)) s1
theorem lD {ws : List Nat} : ∀ (fuel : Nat) (listed : Array Bool) (a : Act) (w : World), S w → wpW P md ops Q S ws fuel listed a w → wpAny P md ops Q fuel listed a w
 | 0, _, _, w, hS, h => ⟨h.1, h.2 w (Below.refl _ _) hS⟩
 | fuel + 1, _, _, w, hS, h => ⟨(h w (Below.refl _ _) hS).1, fun i hi => wpOp_mono (fun a' w' h' => by
   split at h'
   ·exact je fuel _ a' w' trivial h'
   ·exact lD fuel _ a' w' h'.1 h'.2) ((h w (Below.refl _ _) hS).2 i hi)⟩
theorem fE : ∀ w w' : World, True → Below w.heap.size w w' → True := fun _ _ _ _ => trivial
theorem f7 {ws : List Nat} {i : Nat} {oi : Oper} {v : Value} (hi : ops[i]? = some oi) (kR : ∀ (j : Nat) (o : Oper) cs b, ops[j]? = some o → o.op ≠ .select cs b)
  (hQ : ∀ c a w, Q (.panic c) (a.put oi.dst v) w → Q (.panic c) a w) (hK : ∀ w w', S w → Below w.heap.size w w' → S w') (Dq : ws.contains i = false)
  (F : Nat) :
  ∀ (fuel : Nat) (listed : Array Bool) (a : Act) (w : World), ((∀ j, ws.contains j = true → reachB md ops F j i = true) ∨ Tame P ops (fun _ => True) oi v a) → Closed md ops listed →
   (∀ j oj, ops[j]? = some oj → j ≠ i → listed.getD j true = false → (∀ e ∈ oj.after, Region.binds md e = true → e.on ≠ i) → oi.apart ops oj = true) →
   i ∈ Region.ready md ops listed → Tame P ops S oi v a → wpW P md ops Q S ws fuel (listed.setIfInBounds i true) (a.put oi.dst v) w → wpW P md ops Q S ws (fuel + 1) listed a w
 | 0, listed, a, w, _, _, _, hr, hy, H => fun w1 b1 s1 => by
  refine ⟨fun h => (by rw [h] at hr; cases hr), fun j hj => ?_⟩
  by_cases mp : j = i
  ·subst mp
   refine hy.wpOp hi s1 fun w2 b2 => ?_
   rw [if_neg (by rw [Dq]; simp)]
   exact ⟨hK _ _ s1 b2, pk (b1.trans (b2.mono b1.size)) H⟩
  ·have := ready_mono hj mp
   rw [H.1] at this
   cases this
 | fuel + 1, listed, a, w, hb, hc, mq, hr, hy, H => fun w1 b1 s1 => by
  refine ⟨fun h => (by rw [h] at hr; cases hr), fun j hj => ?_⟩
  by_cases mp : j = i
  ·subst mp
   refine hy.wpOp hi s1 fun w2 b2 => ?_
   rw [if_neg (by rw [Dq]; simp)]
   exact ⟨hK _ _ s1 b2, pk (b1.trans (b2.mono b1.size)) H⟩
  ·have h1 := (H w1 b1 s1).2 j (ready_mono hj mp)
   obtain ⟨rK, oj, hoj, hall⟩ := mem_ready.1 hj
   have zH := (mem_ready.1 hr).1
   have wE : ∀ e ∈ oj.after, Region.binds md e = true → e.on ≠ i := fun e he hb EB => by
    have h3 := hall e he hb
    have h0 := zH
    rw [EB] at h3
    rcases Nat.lt_or_ge i listed.size with h' | h'
    ·simp [h'] at h0 h3; rw [h0] at h3; cases h3
    ·simp [Array.getElem?_eq_none h'] at h3
   have hfree' : ∀ k ok, ops[k]? = some ok → k ≠ i → (listed.setIfInBounds j true).getD k true = false → (∀ e ∈ ok.after, Region.binds md e = true → e.on ≠ i) → oi.apart ops ok = true := by
    intro k ok hk fS zH gy
    refine mq k ok hk fS ?_ gy
    by_cases zJ : j = k
    ·subst zJ; exact rK
    ·rw [getD_set_ne true zJ] at zH; exact zH
   by_cases hw : ws.contains j = true
   ·rcases hb with hb | hb
    ·exact absurd hj (nu hc (getD_both zH) F j (hb j hw)).1
    ·have h2 := iv hoj (mq j oj hoj mp rK wE) (fun cs b => kR i oi cs b hi) (fun cs b => kR j oj cs b hoj) hQ hb h1
     refine wpOp_mono (fun a' w' h3 => ?_) h2
     rw [if_pos hw]
     have h4 := h3.2
     rw [if_pos hw] at h4
     refine f8 hi kR hQ fE fuel (listed.setIfInBounds j true) a' w' hfree' (ready_mono hr (Ne.symm mp)) h3.1 ?_
     rw [Array.setIfInBounds_comm _ _ mp]
     exact h4
   ·have h2 := iv hoj (mq j oj hoj mp rK wE) (fun cs b => kR i oi cs b hi) (fun cs b => kR j oj cs b hoj) hQ hy h1
    have IQ : ∀ (a' : Act), execOp a'.eval oi = execOp a.eval oi → Region.wanted oi (yielded ops a'.tmps) = Region.wanted oi (yielded ops a.tmps) → (∀ j, ws.contains j = true → reachB md ops F j i = true) ∨ Tame P ops (fun _ => True) oi v a' := fun a' e1 e2 => hb.imp id fun t => t.of_same e1 e2
    rcases hb with hb | hb
    ·refine wpOp_mono (fun a' w' h3 => ?_) h2
     rw [if_neg hw]
     have h4 := h3.2
     rw [if_neg hw] at h4
     refine ⟨h4.1, f7 hi kR hQ hK Dq F fuel (listed.setIfInBounds j true) a' w' (.inl hb) (hc.set hj) hfree' (ready_mono hr (Ne.symm mp)) h3.1 ?_⟩
     rw [Array.setIfInBounds_comm _ _ mp]
     exact h4.2
    ·have h5 := iv hoj (mq j oj hoj mp rK wE) (fun cs b => kR i oi cs b hi) (fun cs b => kR j oj cs b hoj) hQ hb h1
     refine wpOp_mono (fun a' w' h3 => ?_) h5
     rw [if_neg hw]
     have h4 := h3.2
     rw [if_neg hw] at h4
     refine ⟨h4.1, f7 hi kR hQ hK Dq F fuel (listed.setIfInBounds j true) a' w' (.inr h3.1) (hc.set hj) hfree' (ready_mono hr (Ne.symm mp)) ?_ ?_⟩
     ·rcases h3.1 with ⟨h6, h7⟩ | h6
      ·exact .inl ⟨h6, fun w _ => h7 w trivial⟩
      ·exact .inr h6
     ·rw [Array.setIfInBounds_comm _ _ mp]
      exact h4.2
theorem aX {id : Nat} {a : Act} {w : World} {l : List Oper} (ws : List Nat) (S : World → Prop) (hm : P.follows .mixedOrders = true) (h0 : S w.drew)
  (h : wpW P .any l.toArray Q S ws l.toArray.size (Array.replicate l.toArray.size false) a w.drew) : (Code.region id l.toArray true).wp P Q a w :=
 wp_region_any hm (lD _ _ _ _ h0 h)
def aheadB (md : Region.Mode) (ops : Array Oper) (ws : List Nat) (listed : Array Bool) (i : Nat) : Bool :=
 !(ws.contains i) && closedB md ops listed && ws.all (fun j => reachB md ops ops.size j i)
theorem ag (i : Nat) {ws : List Nat} {oi : Oper} {tl : List Oper} {fuel : Nat} {listed : Array Bool} {a : Act} {w : World} (hB : Keeps S) (hi : ops.toList.drop i = oi :: tl)
  (hs : Region.noSelect ops = true) (hf : Region.free md ops listed i = true) (hr : (Region.ready md ops listed).contains i = true) (uw : aheadB md ops ws listed i = true) (dR : Region.wanted oi (yielded ops a.tmps) = true)
  (hQ : ∀ c a w v, Q (.panic c) (a.put oi.dst v) w → Q (.panic c) a w) (v : Value) (hy : ∀ w, S w → (execOp a.eval oi).run P w = .ok (.value v) w)
  (h : wpW P md ops Q S ws fuel (listed.setIfInBounds i true) (a.put oi.dst v) w) : wpW P md ops Q S ws (fuel + 1) listed a w := by
 simp only [aheadB, Bool.and_eq_true, Bool.not_eq_true'] at uw
 exact f7 (bB hi) (Region.noSelect_spec hs) (fun c a w => hQ c a w v) hB uw.1.1 ops.size fuel listed a w (.inl fun j hj => List.all_eq_true.1 uw.2 j (by simpa using hj)) (kY uw.1.2)
  (Region.free_spec (bB hi) hf) (by simpa using hr) (.inl ⟨dR, fun w hw => by rw [hy w hw]; exact ⟨rfl, rfl⟩⟩) h
theorem bG (i : Nat) {ws : List Nat} {oi : Oper} {tl : List Oper} {fuel : Nat} {listed : Array Bool} {a : Act} {w : World} (hB : Keeps S) (hi : ops.toList.drop i = oi :: tl)
  (hs : Region.noSelect ops = true) (hf : Region.free md ops listed i = true) (hr : (Region.ready md ops listed).contains i = true) (uw : (!(ws.contains i) && closedB md ops listed) = true) (dR : Region.wanted oi (yielded ops a.tmps) = true)
  (hQ : ∀ c a w v, Q (.panic c) (a.put oi.dst v) w → Q (.panic c) a w) (v : Value) (hy : ∀ w, (execOp a.eval oi).run P w = .ok (.value v) w)
  (h : wpW P md ops Q S ws fuel (listed.setIfInBounds i true) (a.put oi.dst v) w) : wpW P md ops Q S ws (fuel + 1) listed a w := by
 simp only [Bool.and_eq_true, Bool.not_eq_true'] at uw
 exact f7 (bB hi) (Region.noSelect_spec hs) (fun c a w => hQ c a w v) hB uw.1 ops.size fuel listed a w (.inr (.inl ⟨dR, fun w _ => by rw [hy w]; exact ⟨rfl, rfl⟩⟩)) (kY uw.2)
  (Region.free_spec (bB hi) hf) (by simpa using hr) (.inl ⟨dR, fun w hw => by rw [hy w]; exact ⟨rfl, rfl⟩⟩) h
theorem vF (i : Nat) {ws : List Nat} {oi : Oper} {tl : List Oper} {fuel : Nat} {listed : Array Bool} {a : Act} {w : World} (hB : Keeps S) (hi : ops.toList.drop i = oi :: tl)
  (hs : Region.noSelect ops = true) (hf : Region.free md ops listed i = true) (hr : (Region.ready md ops listed).contains i = true) (uw : aheadB md ops ws listed i = true) (dR : Region.wanted oi (yielded ops a.tmps) = true)
  (hQ : ∀ c a w v, Q (.panic c) (a.put oi.dst v) w → Q (.panic c) a w) (f : FuncId) (args : Array Value) (rH : ∀ w, (execOp a.eval oi).run P w = .ok (.enter f args) w) (v : Value)
  (hc : ∀ w, S w → Calls P f args w fun e w' => e = .returned v ∧ Below w.heap.size w w')
  (h : wpW P md ops Q S ws fuel (listed.setIfInBounds i true) (a.put oi.dst v) w) : wpW P md ops Q S ws (fuel + 1) listed a w := by
 simp only [aheadB, Bool.and_eq_true, Bool.not_eq_true'] at uw
 exact f7 (bB hi) (Region.noSelect_spec hs) (fun c a w => hQ c a w v) hB uw.1.1 ops.size fuel listed a w (.inl fun j hj => List.all_eq_true.1 uw.2 j (by simpa using hj)) (kY uw.1.2)
  (Region.free_spec (bB hi) hf) (by simpa using hr) (.inl ⟨dR, fun w hw => by rw [rH w]; exact ⟨rfl, hc w hw⟩⟩) h
theorem eK {ws : List Nat} {fuel : Nat} {listed : Array Bool} {a : Act} {w : World} (hr : Region.ready md ops listed = []) (h : ∀ w1, Below w.heap.size w w1 → S w1 → Q .normal a w1) : wpW P md ops Q S ws fuel listed a w := by
 cases fuel with
 | zero => exact ⟨hr, h⟩
 | succ n => exact fun w1 b1 s1 => ⟨fun _ => h w1 b1 s1, by rw [hr]; simp⟩
theorem aN (i : Nat) {ws : List Nat} {oi : Oper} {tl : List Oper} {fuel : Nat} {listed : Array Bool} {a : Act} {w : World} (hi : ops.toList.drop i = oi :: tl) (hr : Region.ready md ops listed = [i]) (hw : ws.contains i = false) (dR : Region.wanted oi (yielded ops a.tmps) = true)
  (h : ∀ w1, Below w.heap.size w w1 → S w1 → oi.wp P a w1 (fun a' w' => S w' ∧ wpW P md ops Q S ws fuel (listed.setIfInBounds i true) a' w') Q) : wpW P md ops Q S ws (fuel + 1) listed a w :=
 fun w1 b1 s1 => ⟨fun h0 => (by rw [hr] at h0; cases h0), fun j hj => by
  obtain rfl : j = i := by rw [hr] at hj; simpa using hj
  exact wpOp_step (bB hi) (fun K' hK => by
   rw [if_pos dR]
   refine Oper.wp_mono (fun a' w' h' => hK a' w' ?_) (h w1 b1 s1)
   rw [if_neg (by rw [hw]; simp)]
   exact h')⟩
theorem dr (i : Nat) {ws : List Nat} {oi : Oper} {tl : List Oper} {fuel : Nat} {listed : Array Bool} {a : Act} {w : World} (hi : ops.toList.drop i = oi :: tl) (hr : Region.ready md ops listed = [i]) (hw : ws.contains i = true) (dR : Region.wanted oi (yielded ops a.tmps) = true)
  (h : ∀ w1, Below w.heap.size w w1 → S w1 → oi.wp P a w1 (fun a' w' => wpU P md ops Q (fun _ => True) fuel (listed.setIfInBounds i true) a' w') Q) : wpW P md ops Q S ws (fuel + 1) listed a w :=
 fun w1 b1 s1 => ⟨fun h0 => (by rw [hr] at h0; cases h0), fun j hj => by
  obtain rfl : j = i := by rw [hr] at hj; simpa using hj
  exact wpOp_step (bB hi) (fun K' hK => by
   rw [if_pos dR]
   refine Oper.wp_mono (fun a' w' h' => hK a' w' ?_) (h w1 b1 s1)
   rw [if_pos hw]
   exact h')⟩
theorem lC (i : Nat) {ws : List Nat} {oi : Oper} {tl : List Oper} {fuel : Nat} {listed : Array Bool} {a : Act} {w : World} (hi : ops.toList.drop i = oi :: tl) (hr : Region.ready md ops listed = [i]) (hw : ws.contains i = true) (dR : Region.wanted oi (yielded ops a.tmps) = true)
  (ty : TypeId) (x y : Operand) (ho : oi.op = .store ty x y) {g : Nat} {T : TypeId} {old : Array Value} (hg : Box w g T old) (j : Nat) {k : IntKind} {n : Int} (hx : a.eval x = .pointer (some ⟨g, j, none⟩)) (hy : a.eval y = .int k n) (hj : j < old.size) (hz : ∀ w, (sizeOf ty).run P w = .ok 1 w)
  (h : ∀ w1 w', Below w.heap.size w w1 → S w1 → Box w' g T (old.setIfInBounds j (.int k n)) → But (fun k => k = g) w1 w' → wpU P md ops Q (fun _ => True) fuel (listed.setIfInBounds i true) (a.put oi.dst undef) w') : wpW P md ops Q S ws (fuel + 1) listed a w :=
 dr i hi hr hw dR (fun w1 b1 s1 =>
  have h1 := hg.after b1
  mR ty x y ho hx hy (h1.cell j (Array.getElem?_eq_getElem hj)) (h1.frozen j) hz (h w1 _ b1 s1 (h1.set j _) ((But.refl (fun k => k = g) w1).setCell (p := ⟨g, j, none⟩) (.inl rfl) _)))
end
theorem od (l : List UInt8) : (textL l).length = (numL l.length).length + 1 + l.length := by simp [textL]; omega
theorem jt (g N S : Nat) (a : Option Addr) (n c : Nat) (lb : List UInt8) (w : World) (hg : Box w g 82 #[.int .i64 N, .int .i64 S]) (hn : n ≤ 35184372088832) (hS : S ≤ 35184372088832) (mn : n = lb.length) (ht : Tab w) :
  Calls Tryz.prog 104 #[.pointer (some ⟨g, 0, none⟩), .slice a n c] w fun e w' => e = .returned (.tuple #[]) ∧ Box w' g 82 #[.int .i64 N, .int .i64 (S + (textL lb).length : Nat)] ∧ But (fun k => k = g) w w' := by
 have HG := I5 hg
 have HT := I5 ht
 have hk := jM (n : Int) (by omega)
 obtain ⟨d, hd⟩ : ∃ d, d = numL n := ⟨_, rfl⟩
 rw [← hd] at hk
 have HE : Hid (((S + (textL lb).length : Nat) : Int) = (S : Int) + ((d.length : Int) + 1 + (n : Int))) := I5 (by rw [od, ← mn, ← hd]; omega)
 have HD := I5 hd
 have BI := I5 (fun w1 h => rk n (by omega) (by omega) w1 h)
 rw [← hd] at BI
 have c1 := hg.cell 1 rfl
 clear hg ht hd mn
 have e1 : IntKind.i64.wrap ((d.length : Int) + 1) = (d.length : Int) + 1 := IntWalk.i64_in _ ⟨by omega, by omega⟩
 have e2 : IntKind.i64.wrap ((d.length : Int) + 1 + (n : Int)) = (d.length : Int) + 1 + (n : Int) := IntWalk.i64_in _ ⟨by omega, by omega⟩
 have e3 : IntKind.i64.wrap ((S : Int) + ((d.length : Int) + 1 + (n : Int))) = (S : Int) + ((d.length : Int) + 1 + (n : Int)) := IntWalk.i64_in _ ⟨by omega, by omega⟩
 have E1 := I5 e1
 have E2 := I5 e2
 have E3 := I5 e3
 clear e1 e2 e3
 go_enter Tryz.func104, Tryz.ntmps104
 go_upto_region 0 with fail
 have aF : Keeps (fun w' => Box w' g 82 #[.int .i64 N, .int .i64 S] ∧ Tab w') := fun w w' h b => ⟨h.1.after b, h.2.after b⟩
 refine aX (w := w) [15] (fun w' => Box w' g 82 #[.int .i64 N, .int .i64 S] ∧ Tab w') rfl ⟨HG.out.drew, HT.out.after ((Below.refl _ _).drew)⟩ ?_
 refine ag 0 aF rfl (by kernel_rfl) (by kernel_rfl) (by kernel_rfl) (by kernel_rfl) rfl (fun _ _ _ _ h => h) (.pointer (some ⟨g, 0, none⟩)) (fun w' h => by simp [go_sem]) ?_
 simp only [Act.put, I2, I3, I4]
 refine ag 1 aF rfl (by kernel_rfl) (by kernel_rfl) (by kernel_rfl) (by kernel_rfl) rfl (fun _ _ _ _ h => h) (.pointer (some ⟨g, 0, none⟩)) (fun w' h => by simp [go_sem]) ?_
 simp only [Act.put, I2, I3, I4]
 refine ag 2 aF rfl (by kernel_rfl) (by kernel_rfl) (by kernel_rfl) (by kernel_rfl) rfl (fun _ _ _ _ h => h) (.pointer (some ⟨g, 1, none⟩)) (fun w' h => by simp [go_sem]) ?_
 simp only [Act.put, I2, I3, I4]
 refine ag 3 aF rfl (by kernel_rfl) (by kernel_rfl) (by kernel_rfl) (by kernel_rfl) rfl (fun _ _ _ _ h => h) (.int .i64 S) (fun w' h => by simp [go_sem, h.1.cell 1 rfl]) ?_
 simp only [Act.put, I2, I3, I4]
 refine ag 4 aF rfl (by kernel_rfl) (by kernel_rfl) (by kernel_rfl) (by kernel_rfl) rfl (fun _ _ _ _ h => h) (.slice a n c) (fun w' h => by simp [go_sem]) ?_
 simp only [Act.put, I2, I3, I4]
 refine ag 5 aF rfl (by kernel_rfl) (by kernel_rfl) (by kernel_rfl) (by kernel_rfl) rfl (fun _ _ _ _ h => h) (.int .i64 n) (fun w' h => by simp [go_sem]) ?_
 simp only [Act.put, I2, I3, I4]
 refine vF 6 aF rfl (by kernel_rfl) (by kernel_rfl) (by kernel_rfl) (by kernel_rfl) rfl (fun _ _ _ _ h => h) 126 #[.int .i64 n] (fun w => by simp [go_sem]) (.string ⟨d.toArray⟩) (fun w' h => BI.out w' h.2) ?_
 simp only [Act.put, I2, I3, I4]
 refine ag 7 aF rfl (by kernel_rfl) (by kernel_rfl) (by kernel_rfl) (by kernel_rfl) rfl (fun _ _ _ _ h => h) (.int .i64 d.length) (fun w' h => by simp [go_sem]; first | done | rfl) ?_
 simp only [Act.put, I2, I3, I4]
 refine ag 8 aF rfl (by kernel_rfl) (by kernel_rfl) (by kernel_rfl) (by kernel_rfl) rfl (fun _ _ _ _ h => h) (.int .i64 ((d.length : Int) + 1)) (fun w' h => by simp [go_sem, E1.out]) ?_
 simp only [Act.put, I2, I3, I4]
 refine ag 9 aF rfl (by kernel_rfl) (by kernel_rfl) (by kernel_rfl) (by kernel_rfl) rfl (fun _ _ _ _ h => h) (.slice a n c) (fun w' h => by simp [go_sem]) ?_
 simp only [Act.put, I2, I3, I4]
 refine ag 10 aF rfl (by kernel_rfl) (by kernel_rfl) (by kernel_rfl) (by kernel_rfl) rfl (fun _ _ _ _ h => h) (.int .i64 n) (fun w' h => by simp [go_sem]) ?_
 simp only [Act.put, I2, I3, I4]
 refine ag 11 aF rfl (by kernel_rfl) (by kernel_rfl) (by kernel_rfl) (by kernel_rfl) rfl (fun _ _ _ _ h => h) (.int .i64 ((d.length : Int) + 1 + (n : Int))) (fun w' h => by simp [go_sem, E2.out]) ?_
 simp only [Act.put, I2, I3, I4]
 refine ag 12 aF rfl (by kernel_rfl) (by kernel_rfl) (by kernel_rfl) (by kernel_rfl) rfl (fun _ _ _ _ h => h) (.int .i64 ((S : Int) + ((d.length : Int) + 1 + (n : Int)))) (fun w' h => by simp [go_sem, E3.out]) ?_
 simp only [Act.put, I2, I3, I4]
 refine ag 13 aF rfl (by kernel_rfl) (by kernel_rfl) (by kernel_rfl) (by kernel_rfl) rfl (fun _ _ _ _ h => h) (.pointer (some ⟨g, 0, none⟩)) (fun w' h => by simp [go_sem]) ?_
 simp only [Act.put, I2, I3, I4]
 refine ag 14 aF rfl (by kernel_rfl) (by kernel_rfl) (by kernel_rfl) (by kernel_rfl) rfl (fun _ _ _ _ h => h) (.pointer (some ⟨g, 1, none⟩)) (fun w' h => by simp [go_sem]) ?_
 simp only [Act.put, I2, I3, I4]
 refine lC 15 rfl (by kernel_rfl) rfl rfl 3 _ _ rfl HG.out.drew 1 rfl rfl (show 1 < 2 by decide) (fun w => by simp [go_sem]) ?_
 intro w1 w2 b1 s1 hbx st
 refine cB (by kernel_rfl) ?_
 intro w3 b3 _
 simp only [Act.put]
 have HB := (((But.refl (fun k => k = g) w).drew.trans (But.ofBelow (S := fun k => k = g) b1) (fun k hk => .inl hk)).trans st (fun k hk => .inl hk)).trans (But.ofBelow (S := fun k => k = g) b3) (fun k hk => .inl hk)
 have bK := hbx.after b3
 rw [← HE.out] at bK
 clear aF b1 b3 st s1 hbx
 go_end0
 exact ⟨rfl, bK, HB⟩
end Go.Proofs.YtmmkaclmgnpplaaGreatDoor

import Derived.Test.YtmmkaclmgnpplaaGreatDoorMz7
import Derived.Recover
set_option maxRecDepth 100000
set_option maxHeartbeats 64000000
set_option linter.unusedSimpArgs false
set_option linter.unusedVariables false
namespace Go.Proofs.YtmmkaclmgnpplaaGreatDoor
open Go.RowKit
theorem jT {M n k : Nat} : ∀ (w : List UInt8) (a : Nat), lenScan M a w = some (n, k) → k ≤ w.length ∧ (∀ c ∈ w.take k, isD c) ∧ n = valA a (w.take k) ∧ (a ≤ M → n ≤ M)
 | [], a, h => by
  simp only [lenScan, Option.some.injEq, Prod.mk.injEq] at h
  obtain ⟨rfl, rfl⟩ := h
  exact ⟨Nat.le_refl _, (fun c hc => by cases hc), rfl, fun h => h⟩
 | c :: w, a, h => by
  unfold lenScan at h
  split at h
  ·rename_i hd
   split at h
   ·cases h
   ·rename_i hM
    cases hr : lenScan M (10 * a + (c.toNat - 48)) w with
    | none => rw [hr] at h; cases h
    | some q =>
     obtain ⟨n', k'⟩ := q
     rw [hr] at h
     simp only [Option.map_some, Option.some.injEq, Prod.mk.injEq] at h
     obtain ⟨rfl, rfl⟩ := h
     obtain ⟨h1, h2, h3, h4⟩ := jT w _ hr
     refine ⟨by simp only [List.length_cons]; omega, fun d hd' => ?_, by rw [List.take_succ_cons, tG]; exact h3, fun _ => h4 (by omega)⟩
     rw [List.take_succ_cons] at hd'
     rcases List.mem_cons.1 hd' with rfl | hd'
     ·exact hd
     ·exact h2 d hd'
  ·simp only [Option.some.injEq, Prod.mk.injEq] at h
   obtain ⟨rfl, rfl⟩ := h
   exact ⟨Nat.zero_le _, (fun c hc => by simp at hc), by simp [px], fun h => h⟩
theorem mx (c : UInt8) (h : isD c) : UInt8.ofNat (48 + (c.toNat - 48)) = c := by
 unfold isD at h
 rw [show 48 + (c.toNat - 48) = c.toNat by omega]
 simp
theorem tY : ∀ (k : Nat) (d : List UInt8), d.length = k → (∀ c ∈ d, isD c) → d ≠ [] → d.getD 0 0 ≠ 48 → numL ((valA 0 d : Nat) : Int) = d ∧ 1 ≤ valA 0 d := by
 intro k
 induction k with
 | zero => intro d hl _ hn; exact absurd (List.eq_nil_of_length_eq_zero hl) hn
 | succ k ih =>
  intro d hl hd hn h0
  obtain ⟨d', c, rfl⟩ : ∃ d' c, d = d' ++ [c] := ⟨_, _, (List.dropLast_concat_getLast hn).symm⟩
  have hc : isD c := hd c (by simp)
  have zL := hc
  unfold isD at zL
  rw [tF]
  by_cases e : d' = []
  ·subst e
   simp only [List.nil_append, List.getD_cons_zero] at h0
   have gj : c.toNat ≠ 48 := fun e => h0 (by rw [← UInt8.toNat_inj]; exact e)
   rw [px, ji _ (by omega)]
   refine ⟨?_, by omega⟩
   rw [show (((10 * 0 + (c.toNat - 48) : Nat) : Int)).toNat = c.toNat - 48 by omega, mx c hc]
   rfl
  ·have hl' : d'.length = k := by simpa using hl
   have ur : 0 < d'.length := List.length_pos_iff.2 e
   obtain ⟨h1, h2⟩ := ih d' hl' (fun c hc => hd c (by simp [hc])) e (by
    simp only [List.getD_eq_getElem?_getD] at h0 ⊢
    rwa [List.getElem?_append_left ur] at h0)
   refine ⟨?_, by omega⟩
   rw [nB _ (by omega)]
   rw [show ((10 * valA 0 d' + (c.toNat - 48) : Nat) : Int) / 10 = ((valA 0 d' : Nat) : Int) by omega, h1]
   rw [show (((10 * valA 0 d' + (c.toNat - 48) : Nat) : Int) % 10).toNat = c.toNat - 48 by omega, mx c hc]
theorem rC (l : List UInt8) (p M : Nat) :
  (l.length ≤ p ∧ lenR l p M = (0, (p : Int), 2)) ∨ (p < l.length ∧ ¬ isD (l.getD p 0) ∧ lenR l p M = (0, (p : Int), 3)) ∨ (p < l.length ∧ lenR l p M = (0, (p : Int), 4)) ∨
  ∃ k n, 1 ≤ k ∧ p + k ≤ l.length ∧ n ≤ M ∧ (l.drop p).take k = numL ((n : Nat) : Int) ∧ lenR l p M = ((n : Int), ((p + k : Nat) : Int), 0) := by
 by_cases h1 : l.length ≤ p
 ·exact .inl ⟨h1, by unfold lenR; rw [if_neg (by omega), if_pos (by omega)]⟩
 ·replace h1 : p < l.length := by omega
  right
  by_cases h2 : isD (l.getD p 0)
  ·right
   by_cases h3 : l.getD p 0 = 48
   ·right
    refine ⟨1, 0, Nat.le_refl _, h1, Nat.zero_le _, ?_, ?_⟩
    ·rw [List.drop_eq_getElem_cons h1]
     have : l[p] = 48 := by rw [← h3]; simp [List.getD_eq_getElem?_getD, h1]
     rw [this, ji _ (by omega)]
     rfl
    ·unfold lenR
     rw [if_neg (by omega), if_neg (by omega), Int.toNat_natCast, if_neg (fun h => h h2), if_pos h3]
     rfl
   ·have hb : lenR l p M = match lenScan M 0 (l.drop p) with
     | none => (0, (p : Int), 4)
     | some (n, k) => ((n : Int), (p : Int) + k, 0) := by
     unfold lenR
     rw [if_neg (by omega), if_neg (by omega), Int.toNat_natCast, if_neg (fun h => h h2), if_neg h3]
     all_goals (cases lenScan M 0 (l.drop p) <;> rfl)
    cases hs : lenScan M 0 (l.drop p) with
    | none => exact .inl ⟨h1, by rw [hb, hs]⟩
    | some q =>
     right
     obtain ⟨n, k⟩ := q
     obtain ⟨k1, k2, k3, k4⟩ := jT _ _ hs
     have hk : 1 ≤ k := by
      rcases Nat.eq_zero_or_pos k with e | e
      ·subst e
       rw [List.drop_eq_getElem_cons h1] at hs
       unfold lenScan at hs
       have e2 : l[p] = l.getD p 0 := by simp [List.getD_eq_getElem?_getD, h1]
       rw [e2, if_pos h2] at hs
       split at hs
       ·cases hs
       ·cases hr : lenScan M (10 * 0 + ((l.getD p 0).toNat - 48)) (l.drop (p + 1)) with
        | none => rw [hr] at hs; cases hs
        | some q => rw [hr] at hs; simp at hs
      ·exact e
     rw [List.length_drop] at k1
     refine ⟨k, n, hk, by omega, k4 (Nat.zero_le _), ?_, by rw [hb, hs]; simp⟩
     rw [k3]
     refine (tY k _ (by simp; omega) k2 ?_ ?_).1.symm
     ·intro e
      have := congrArg List.length e
      simp at this
      omega
     ·simp only [List.getD_eq_getElem?_getD] at h3 ⊢
      rw [List.getElem?_take_of_lt (by omega), List.getElem?_drop]
      simpa using h3
  ·exact .inl ⟨h1, h2, by unfold lenR; rw [if_neg (by omega), if_neg (by omega), Int.toNat_natCast, if_pos h2]⟩
theorem tw {a : UInt8} {k : Nat} (h : a.toNat ≠ k) : ((a.toNat : Int) == (k : Int)) = false ∧ ((a.toNat : Int) != (k : Int)) = true := by
 have h1 : ((a.toNat : Int) == (k : Int)) = false := beq_eq_false_iff_ne.2 (fun e => h (Int.ofNat.inj e))
 exact ⟨h1, by rw [bne, h1]; rfl⟩
theorem tz {a : UInt8} {k : Nat} (h : a.toNat = k) : ((a.toNat : Int) == (k : Int)) = true ∧ ((a.toNat : Int) != (k : Int)) = false := by
 have h1 : ((a.toNat : Int) == (k : Int)) = true := beq_iff_eq.2 (by rw [h])
 exact ⟨h1, by rw [bne, h1]; rfl⟩
theorem de {ok : Nat → Prop} {w : World} {a : Option Addr} {n c : Nat} {l : List UInt8} (h : Sl w a n c l) (hi : InB ok a n) : RdI ok w ⟨false, false, none, 0, 0, a, n, c, none, 0, 0⟩ (.mk false false [] l []) :=
 .mk _ [] l [] (fun _ => SV.nil) (Sl.nil w) (.inl rfl) h hi ⟨Nat.le_refl _, Nat.zero_le _, fun _ => rfl, .inl rfl⟩ (.inl rfl) rfl (fun i hi => by cases hi)
def okK (ok : Nat → Prop) (g : Nat) (vt : Value) : Nat → Prop := fun k => (ok k ∨ g < k) ∧ vt.ownBlock ≠ some k
theorem bEq {a : UInt8} (k : Nat) (z : Int) (hz : z = (k : Int)) (h : a.toNat = k) : ((a.toNat : Int) == z) = true ∧ ((a.toNat : Int) != z) = false ∧ (a.toNat : Int) = z := by
 subst hz
 exact ⟨(tz h).1, (tz h).2, by rw [h]⟩
theorem bNe {a : UInt8} (k : Nat) (z : Int) (hz : z = (k : Int)) (h : a.toNat ≠ k) : ((a.toNat : Int) == z) = false ∧ ((a.toNat : Int) != z) = true ∧ ¬ (a.toNat : Int) = z := by
 subst hz
 exact ⟨(tw h).1, (tw h).2, by omega⟩
theorem rm (K : Nat → SV) (n : Nat) (v : SV) : newsK K n ++ newsK (fun _ => v) 1 = newsK (fun i => if i = n then v else K i) (n + 1) := by
 have e : newsK (fun i => if i = n then v else K i) n = newsK K n := hJ fun i h => if_neg (by omega)
 show newsK K n ++ ([] ++ v.cells.toList) = newsK _ n ++ (if n = n then v else K n).cells.toList
 rw [e, if_pos rfl, List.nil_append]
theorem xL (w : World) (v : SV) : Src Tryz.prog 5 30 (.slice (some ⟨w.heap.size, 0, none⟩) 1 1) 1 (newsK (fun _ => v) 1) (w.alloc (.cells v.cells 32)) := by
 refine Src.ofSlice _ Tryz.underlying30 _ 1 1 _ (dQ _ 1) (fun j u hu => ?_) (ge _ 1)
 rw [Addr.add_mid]
 refine (Box.new w 32 v.cells).cell (0 + j) ?_
 rw [Nat.zero_add]
 simpa [newsK] using hu
theorem nI {ok : Nat → Prop} {g B G al : Nat} {own v' : Value} {u w2 : World} {K : Nat → SV} {acc : List Sx} {v : SV} {rv : Sx} (Gs : al = acc.length)
  (hK : ∀ i (hi : i < acc.length), RdI (okK ok g own) u (K i) acc[i]) (hR : RdI (fun k => (ok k ∨ B ≤ k) ∧ k < G) u v rv)
  (ml : ∀ k, ok k → k < g) (hB : g < B) (iX : ∀ k, own.ownBlock = some k → g < k ∧ k < B)
  (hg : u.grownBy w2 own.ownBlock) (hw : ∀ k, v'.ownBlock = some k → own.ownBlock = some k ∨ u.heap.size ≤ k) (x : Value) :
  ∀ i (hi : i < (acc ++ [rv]).length), RdI (okK ok g v') (w2.setCell ⟨g, 4, none⟩ x) (if i = al then v else K i) (acc ++ [rv])[i] := by
 have key : ∀ {p : Nat → Prop} {v0 : SV} {s0 : Sx}, RdI p u v0 s0 → (∀ k, p k → (ok k ∨ g < k) ∧ own.ownBlock ≠ some k) → RdI (okK ok g v') (w2.setCell ⟨g, 4, none⟩ x) v0 s0 := by
  intro p v0 s0 h hp
  refine (h.there.keep (fun k hk => ?_)).mono (fun k hk => ⟨(hp k hk.1).1, fun e => ?_⟩)
  ·obtain ⟨h1, h2⟩ := hp k hk.1
   have gj : k ≠ g := by
    rcases h1 with h1 | h1
    ·exact Nat.ne_of_lt (ml k h1)
    ·omega
   exact (heap_setCell_other _ _ _ _ gj).trans (hg.block k hk.2 (fun e => h2 e.symm))
  ·rcases hw k e with e | e
   ·exact (hp k hk.1).2 e
   ·exact absurd hk.2 (by omega)
 intro i hi
 by_cases m5 : i = al
 ·rw [if_pos m5]
  have e : (acc ++ [rv])[i] = rv := by
   subst m5 Gs
   simp
  rw [e]
  refine key hR (fun k hk => ⟨hk.1.imp id (fun h => by omega), fun e => ?_⟩)
  have h1 := iX k e
  rcases hk.1 with h2 | h2
  ·have := ml k h2; omega
  ·omega
 ·rw [if_neg m5]
  have aJ : i < acc.length := by simp at hi; omega
  rw [List.getElem_append_left aJ]
  exact key (hK i aJ) (fun k hk => hk)
theorem oU {P : Program} {fn : Func} {p q r : Tmp} {ty : TypeId} (h : fn.results = #[.cell p ty, .tmp q, .tmp r]) (tmps : Array Value) (w : World) {g : Nat} {T : TypeId} {cs : Array Value} {d : TypeDesc}
  (hp : tmps.getD p undef = .pointer (some ⟨g, 0, none⟩)) (hg : Box w g T cs) (hu : P.underlying ty = some d) (hd : (match d with | .struct _ | .array _ _ => true | _ => false) = true) (hi : (P.info? ty).map (·.size) = some cs.size) :
  (results fn tmps).run P w = .ok (.tuple #[.agg cs, tmps.getD q undef, tmps.getD r undef]) w := by
 have hp' : tmps[p]?.getD undef = .pointer (some ⟨g, 0, none⟩) := by simpa using hp
 simp [results, h, hp', asAddr, run_loadVar_row w g T ty cs (0, 0) d hg hu hd hi]
def CloneP (l : List UInt8) (w : World) (e : Ending) (w' : World) : Prop := ∃ v', e = .returned v' ∧ OwnB w' w.heap.size v' l ∧ Below w.heap.size w w'
theorem AY (a : Option Addr) (n c : Nat) (l : List UInt8) (w : World) (hs : Sl w a n c l) (hn : n ≤ 1000000) : Calls Tryz.prog 157 #[.slice a n c] w (CloneP l w) := by
 cases a with
 | none =>
  have hc := hs.2.2.2.1 rfl
  have td := hs.2.1
  have hl := hs.1
  have e : l = [] := List.eq_nil_of_length_eq_zero (by omega)
  obtain rfl : n = 0 := by omega
  subst hc e
  clear td hl hs
  have ly : ∀ W, (binOp .eql 22 (.slice none 0 0) (.slice none 0 0)).run Tryz.prog W = .ok (.bool true) W := fun _ => rfl
  go_enter Tryz.func157, Tryz.ntmps157
  go_wp2_with fail
  go_ret
  exact ⟨_, rfl, OwnB.nil _ _, Below.refl _ _⟩
 | some ad =>
  have ly : ∀ W, (binOp .eql 22 (.slice (some ad) n c) (.slice none 0 0)).run Tryz.prog W = .ok (.bool false) W := fun _ => rfl
  have au : Below w.heap.size w (w.alloc (.cells #[] 5)) := (Below.refl _ _).alloc (Nat.le_refl _) _
  have nK : OwnB (w.alloc (.cells #[] 5)) w.heap.size (.slice (some ⟨w.heap.size, 0, none⟩) 0 0) [] := OwnG.new w w.heap.size 1 (Nat.le_refl _) #[] 5 0 0 (Nat.le_refl _) (Nat.zero_le _) rfl
  have HO := I5 nK
  have HS := I5 (hs.after au)
  have HL := I5 hs.1
  clear nK hs
  go_enter Tryz.func157, Tryz.ntmps157
  go_wp2_with (refine aV rfl _ _ rfl rfl HO.out rfl HS.out (by have := HL.out; simp only [List.length_nil]; omega) (by simp) ?_; intro v2 w2 kS lm)
  rw [List.nil_append] at kS
  have hB := au.grown lm (by simp) (fun k hk => by cases hk; exact Nat.le_refl _)
  clear lm
  go_ret
  exact ⟨v2, rfl, kS, hB⟩
theorem dq (a : Option Addr) (n c : Nat) (l : List UInt8) (w : World) (hs : Sl w a n c l) (hn : n ≤ 1000000) : Calls Tryz.prog 53 #[.slice a n c] w (CloneP l w) := by
 cases a with
 | none =>
  have hc := hs.2.2.2.1 rfl
  have td := hs.2.1
  have hl := hs.1
  have e : l = [] := List.eq_nil_of_length_eq_zero (by omega)
  obtain rfl : n = 0 := by omega
  subst hc e
  clear td hl hs
  have ly : ∀ W, (binOp .eql 22 (.slice none 0 0) (.slice none 0 0)).run Tryz.prog W = .ok (.bool true) W := fun _ => rfl
  go_enter Tryz.func53, Tryz.ntmps53
  go_wp2_with fail
  go_ret
  exact ⟨_, rfl, OwnB.nil _ _, Below.refl _ _⟩
 | some ad =>
  have ly : ∀ W, (binOp .eql 22 (.slice (some ad) n c) (.slice none 0 0)).run Tryz.prog W = .ok (.bool false) W := fun _ => rfl
  have au : Below w.heap.size w (w.alloc (.cells #[] 5)) := (Below.refl _ _).alloc (Nat.le_refl _) _
  have nK : OwnB (w.alloc (.cells #[] 5)) w.heap.size (.slice (some ⟨w.heap.size, 0, none⟩) 0 0) [] := OwnG.new w w.heap.size 1 (Nat.le_refl _) #[] 5 0 0 (Nat.le_refl _) (Nat.zero_le _) rfl
  have HO := I5 nK
  have HS := I5 (hs.after au)
  have HL := I5 hs.1
  clear nK hs
  go_enter Tryz.func53, Tryz.ntmps53
  go_wp2_with (refine aV rfl _ _ rfl rfl HO.out rfl HS.out (by have := HL.out; simp only [List.length_nil]; omega) (by simp) ?_; intro v2 w2 kS lm)
  rw [List.nil_append] at kS
  have hB := au.grown lm (by simp) (fun k hk => by cases hk; exact Nat.le_refl _)
  clear lm
  go_ret
  exact ⟨v2, rfl, kS, hB⟩
theorem But.drewN {S : Nat → Prop} {w1 w2 : World} (h : But S w1 w2) (n : Nat) : But S w1 (w2.drewN n) := ⟨h.os, h.tape, h.output, h.size, h.block⟩
theorem Box.drewN {w : World} {g : Nat} {T : TypeId} {cs : Array Value} (h : Box w g T cs) (n : Nat) : Box (w.drewN n) g T cs := h
theorem OwnB.parts {w : World} {B : Nat} {v : Value} {l : List UInt8} (h : OwnB w B v l) : ∃ a n c, v = .slice a n c ∧ Sl w a n c l ∧ InB (fun k => B ≤ k) a n := by
 obtain ⟨a, c, rfl, hs⟩ := h.sl
 refine ⟨a, _, c, rfl, hs, ?_⟩
 cases a with
 | none => exact .inr fun b o s e => by cases e
 | some ad =>
  refine .inr fun b o s e => ?_
  cases e
  rcases h.2 with ⟨h1, _⟩ | ⟨g, o', cap, h1, h2, _⟩
  ·cases h1
  ·cases h1
   exact h2
theorem OwnG.at_ {w : World} {B size n : Nat} {a : Option Addr} {c : Nat} {xs : List Value} (h : OwnG w B size (.slice a n c) n xs) (hn : 0 < n) : ∃ b o, a = some ⟨b, o, none⟩ ∧ n ≤ c ∧ c ≤ maxLen := by
 rcases h.2 with ⟨h2, h3⟩ | ⟨g, o, cap, h2, h3, h4, h5, h6, h7, h8⟩
 ·omega
 ·cases h2
  exact ⟨g, o, rfl, h5, h6⟩
section
end
theorem dc {P : Program} {Q : Exit → Act → World → Prop} {o : Oper} {a : Act} {w : World} {K : Act → World → Prop} (ty : TypeId) (x y : Operand) (ho : o.op = .store ty x y)
  {b off : Nat} {p : Option Addr} {n c : Nat} (hx : a.eval x = .pointer (some ⟨b, off, none⟩)) (hy : a.eval y = .slice p n c) {u : Value} (hc : w.cell? ⟨b, off, none⟩ = some u) (hf : w.frozen? ⟨b, off, none⟩ = false) (hz : ∀ w, (sizeOf ty).run P w = .ok 1 w)
  (h : K (a.put o.dst undef) (w.setCell ⟨b, off, none⟩ (.slice p n c))) : o.wp P a w K Q := by
 unfold Oper.wp execOp
 simp only [ho, hx, hy]
 simp [go_sem, hz, hc, hf]
 exact h
theorem uY (w : World) (b o : Nat) (vs : List Value) : But (fun k => k = b) w (w.setCells b o vs) := But.ofGrown (gm w b o vs) (fun k e => by cases e; rfl)
theorem j9 (w : World) (p : Addr) (v : Value) : But (fun k => k = p.block) w (w.setCell p v) := (But.refl (fun k => k = p.block) w).setCell (.inl rfl) v
def hval (n : Nat) : Option Nat := if 48 ≤ n ∧ n ≤ 57 then some (n - 48) else if 97 ≤ n ∧ n ≤ 102 then some (n - 87) else if 65 ≤ n ∧ n ≤ 70 then some (n - 55) else none
def unhex : List UInt8 → Option (List UInt8)
 | [] => some []
 | [_] => none
 | a :: b :: t => match hval a.toNat, hval b.toNat with
  | some x, some y => (unhex t).map (UInt8.ofNat (16 * x + y) :: ·)
  | _, _ => none
def signs : ByteArray := ⟨#[65, 66, 67, 68, 69, 70, 71, 72, 73, 74, 75, 76, 77, 78, 79, 80, 81, 82, 83, 84, 85, 86, 87, 88, 89, 90, 97, 98, 99, 100, 101, 102, 103, 104, 105, 106, 107, 108, 109, 110, 111, 112, 113, 114, 115, 116, 117, 118, 119, 120, 121, 122, 48, 49, 50, 51, 52, 53, 54, 55, 56, 57, 43, 47]⟩
def sgn (k : Nat) : UInt8 := if h : k < 64 then signs[k]'h else 0
def quad (n : Nat) : List UInt8 := [sgn (n / 262144 % 64), sgn (n / 4096 % 64), sgn (n / 64 % 64), sgn (n % 64)]
def b64 : List UInt8 → List UInt8
 | [] => []
 | [a] => [sgn (a.toNat * 65536 / 262144 % 64), sgn (a.toNat * 65536 / 4096 % 64), 61, 61]
 | [a, b] => [sgn ((a.toNat * 65536 + b.toNat * 256) / 262144 % 64), sgn ((a.toNat * 65536 + b.toNat * 256) / 4096 % 64), sgn ((a.toNat * 65536 + b.toNat * 256) / 64 % 64), 61]
 | a :: b :: c :: t => quad (a.toNat * 65536 + b.toNat * 256 + c.toNat) ++ b64 t
def sval (n : Nat) : Option Nat := if 65 ≤ n ∧ n ≤ 90 then some (n - 65) else if 97 ≤ n ∧ n ≤ 122 then some (n - 71) else if 48 ≤ n ∧ n ≤ 57 then some (n + 4) else if n = 43 then some 62 else if n = 47 then some 63 else none
theorem BQ : ∀ n : Fin 256, Lib.indexByte signs.data.toList (n.val.toUInt8) = (match sval n.val with | some v => (v : Int) | none => -1) := by decide +kernel
def dec4 (a b c d : UInt8) : List UInt8 :=
 match sval a.toNat, sval b.toNat with
 | some x, some y => match sval c.toNat with
  | some z => match sval d.toNat with
   | some u => [UInt8.ofNat ((x * 262144 + y * 4096 + z * 64 + u) / 65536), UInt8.ofNat ((x * 262144 + y * 4096 + z * 64 + u) / 256), UInt8.ofNat (x * 262144 + y * 4096 + z * 64 + u)]
   | none => [UInt8.ofNat ((x * 262144 + y * 4096 + z * 64) / 65536), UInt8.ofNat ((x * 262144 + y * 4096 + z * 64) / 256)]
  | none => [UInt8.ofNat ((x * 262144 + y * 4096) / 65536)]
 | _, _ => []
def unb : List UInt8 → List UInt8
 | a :: b :: c :: d :: t => dec4 a b c d ++ unb t
 | _ => []
def unb64 (s : List UInt8) : Option (List UInt8) := if b64 (unb s) = s then some (unb s) else none
def blankB (c : UInt8) : Bool := c == 32 || (decide (9 ≤ c.toNat) && decide (c.toNat ≤ 13))
def letterB (c : UInt8) : Bool := (decide (97 ≤ c.toNat) && decide (c.toNat ≤ 122)) || (decide (65 ≤ c.toNat) && decide (c.toNat ≤ 90))
def numB (c : UInt8) : Bool := decide (48 ≤ c.toNat) && decide (c.toNat ≤ 57)
def signB (c : UInt8) : Bool := letterB c || numB c || c == 46 || c == 47 || c == 95 || c == 58 || c == 42 || c == 43 || c == 61 || c == 45
def hexC (c : UInt8) : Bool := (hval c.toNat).isSome
def b64C (c : UInt8) : Bool := letterB c || numB c || c == 43 || c == 47 || c == 61
def blankL : List UInt8 := [32, 9, 10, 11, 12, 13]
def signL : List UInt8 := [65, 66, 67, 68, 69, 70, 71, 72, 73, 74, 75, 76, 77, 78, 79, 80, 81, 82, 83, 84, 85, 86, 87, 88, 89, 90, 97, 98, 99, 100, 101, 102, 103, 104, 105, 106, 107, 108, 109, 110, 111, 112, 113, 114, 115, 116, 117, 118, 119, 120, 121, 122, 48, 49, 50, 51, 52, 53, 54, 55, 56, 57, 46, 47, 95, 58, 42, 43, 61, 45]
def numsL : List UInt8 := [48, 49, 50, 51, 52, 53, 54, 55, 56, 57]
def isIn (l : List UInt8) (c : UInt8) : Bool := decide (0 ≤ Lib.indexByte l c)
theorem rF : ∀ n : Fin 256, isIn blankL (n.val.toUInt8) = blankB (n.val.toUInt8) := by decide +kernel
theorem ue : ∀ n : Fin 256, isIn signL (n.val.toUInt8) = signB (n.val.toUInt8) := by decide +kernel
theorem wt : ∀ n : Fin 256, isIn numsL (n.val.toUInt8) = numB (n.val.toUInt8) := by decide +kernel
theorem gs (c : UInt8) : (⟨c.toNat, c.toNat_lt⟩ : Fin 256).val.toUInt8 = c := by simp
def skipN (l : List UInt8) (p : Nat) : Nat := p + ((l.drop p).takeWhile blankB).length
theorem nm {l : List UInt8} {p : Nat} (h : l.length ≤ p) : skipN l p = p := by unfold skipN; rw [List.drop_eq_nil_of_le h]; rfl
theorem pF {l : List UInt8} {p : Nat} (h : p < l.length) (hb : blankB l[p] = true) : skipN l p = skipN l (p + 1) := by
 unfold skipN
 rw [List.drop_eq_getElem_cons h, List.takeWhile_cons_of_pos hb, List.length_cons]
 omega
theorem k8 {l : List UInt8} {p : Nat} (h : p < l.length) (hb : blankB l[p] = false) : skipN l p = p := by
 unfold skipN
 rw [List.drop_eq_getElem_cons h, List.takeWhile_cons_of_neg (by rw [hb]; simp)]
 rfl
theorem dI {l : List UInt8} {p : Nat} (h : p ≤ l.length) : p ≤ skipN l p ∧ skipN l p ≤ l.length := by
 unfold skipN
 have := (List.takeWhile_sublist (l := l.drop p) blankB).length_le
 simp at this
 omega
structure BR where
 b : List UInt8
 p : Nat
 e : Nat
def BR.err (p e : Nat) : BR := ⟨[], p, e⟩
def nLen (l : List UInt8) (p : Nat) : BR :=
 let r := lenR l p 4096
 if r.2.2 ≠ 0 then BR.err p r.2.2.toNat else
 if l.length ≤ r.2.1.toNat then BR.err l.length 2 else if l.getD r.2.1.toNat 0 ≠ 58 then BR.err r.2.1.toNat 3 else
 if l.length - r.2.1.toNat - 1 < r.1.toNat then BR.err l.length 2 else ⟨(l.drop (r.2.1.toNat + 1)).take r.1.toNat, r.2.1.toNat + 1 + r.1.toNat, 0⟩
def nSome (good : UInt8 → Bool) (en : UInt8) : List UInt8 → Nat → BR
 | [], p => BR.err p 2
 | c :: r, p => if c = en then ⟨[], p, 0⟩ else if !good c && !blankB c then BR.err p 3 else
  let x := nSome good en r (p + 1)
  if x.e = 0 then ⟨if good c then c :: x.b else x.b, x.p, 0⟩ else x
def nB64 (l : List UInt8) (p : Nat) (en : UInt8) : BR :=
 let x := nSome b64C en (l.drop p) p
 if x.e ≠ 0 then BR.err x.p x.e else match unb64 x.b with
 | some b => ⟨b, x.p + 1, 0⟩
 | none => BR.err x.p 3
def nHex (l : List UInt8) (p : Nat) : BR :=
 let x := nSome hexC 35 (l.drop p) p
 if x.e ≠ 0 then BR.err x.p x.e else match unhex x.b with
 | some b => ⟨b, x.p + 1, 0⟩
 | none => BR.err x.p 3
def nDigs (base : Nat) (l : List UInt8) : Nat → Nat → Nat → Nat → BR
 | 0, _, p, x => ⟨[UInt8.ofNat x], p, 0⟩
 | k + 1, first, p, x => if l.length ≤ p then BR.err l.length 2 else match hval (l.getD p 0).toNat with
  | some d => if d < base ∧ d ≤ first then nDigs base l k base (p + 1) (x * base + d) else BR.err p 3
  | none => BR.err p 3
def escL : List UInt8 := [98, 116, 118, 110, 102, 114, 34, 39, 92]
def escTo : List UInt8 := [8, 9, 11, 10, 12, 13, 34, 39, 92]
def nEsc (l : List UInt8) (p : Nat) : BR :=
 if l.length ≤ p then BR.err l.length 2 else
 if 48 ≤ (l.getD p 0).toNat ∧ (l.getD p 0).toNat ≤ 55 then nDigs 8 l 3 3 p 0 else
 if l.getD p 0 = 120 then nDigs 16 l 2 15 (p + 1) 0 else
 match escL.idxOf? (l.getD p 0) with
 | some i => ⟨[escTo.getD i 0], p + 1, 0⟩
 | none => BR.err p 3
def BR.pre (y : List UInt8) (x : BR) : BR := if x.e = 0 then ⟨y ++ x.b, x.p, 0⟩ else x
def nQuo (l : List UInt8) : Nat → Nat → BR
 | 0, _ => BR.err l.length 2
 | f + 1, p => if l.length ≤ p then BR.err l.length 2 else
  if l.getD p 0 = 34 then ⟨[], p + 1, 0⟩ else
  if l.getD p 0 ≠ 92 then (nQuo l f (p + 1)).pre [l.getD p 0] else
  if (nEsc l (p + 1)).e ≠ 0 then nEsc l (p + 1) else (nQuo l f (nEsc l (p + 1)).p).pre (nEsc l (p + 1)).b
theorem ia (base : Nat) (l : List UInt8) : ∀ k first p x, p ≤ l.length → (nDigs base l k first p x).p ≤ l.length ∧ p ≤ (nDigs base l k first p x).p
 | 0, _, p, x, h => ⟨h, Nat.le_refl _⟩
 | k + 1, first, p, x, h => by
  unfold nDigs
  split
  ·exact ⟨Nat.le_refl _, h⟩
  ·split
   ·rename_i d _
    split
    ·have := ia base l k base (p + 1) (x * base + d) (by omega)
     exact ⟨this.1, by omega⟩
    ·exact ⟨h, Nat.le_refl _⟩
   ·exact ⟨h, Nat.le_refl _⟩
theorem ru (l : List UInt8) (p : Nat) (h : p ≤ l.length) : (nEsc l p).p ≤ l.length ∧ p ≤ (nEsc l p).p := by
 unfold nEsc
 split
 ·exact ⟨Nat.le_refl _, h⟩
 ·split
  ·exact ia 8 l 3 3 p 0 h
  ·split
   ·have := ia 16 l 2 15 (p + 1) 0 (by omega)
    exact ⟨this.1, by omega⟩
   ·split
    ·exact ⟨by show p + 1 ≤ l.length; omega, Nat.le_succ _⟩
    ·exact ⟨h, Nat.le_refl _⟩
def nQuote (l : List UInt8) (p : Nat) : BR := nQuo l (l.length + 1) p
def nPlain (l : List UInt8) (p : Nat) : BR :=
 if l.length ≤ p then BR.err l.length 2 else
 if numB (l.getD p 0) then nLen l p else
 if l.getD p 0 = 34 then nQuote l (p + 1) else
 if l.getD p 0 = 35 then nHex l (p + 1) else
 if l.getD p 0 = 124 then nB64 l (p + 1) 124 else
 if signB (l.getD p 0) then ⟨(l.drop p).takeWhile signB, p + ((l.drop p).takeWhile signB).length, 0⟩ else BR.err p 3
def nHint (l : List UInt8) (p n : Nat) : RV :=
 let h := nPlain l (skipN l p)
 if h.e ≠ 0 then RV.err h.p h.e else
 if l.length ≤ skipN l h.p then RV.err l.length 2 else if l.getD (skipN l h.p) 0 ≠ 93 then RV.err (skipN l h.p) 3 else
 let d := nPlain l (skipN l (skipN l h.p + 1))
 if d.e ≠ 0 then RV.err d.p d.e else ⟨.mk false true h.b d.b [], d.p, n, 0⟩
def nAtom (l : List UInt8) (p n : Nat) : RV :=
 let d := nPlain l p
 if d.e ≠ 0 then RV.err d.p d.e else ⟨.mk false false [] d.b [], d.p, n, 0⟩
def begB (c : UInt8) : Bool := c == 40 || c == 91 || c == 34 || c == 35 || c == 124 || signB c
inductive Nt (l : List UInt8) : Option (List Sx) → Nat → Nat → Nat → RV → Prop
 | short {p lv n : Nat} : l.length ≤ skipN l p → Nt l none p lv n (RV.err l.length 2)
 | bad {p lv n : Nat} : skipN l p < l.length → begB (l.getD (skipN l p) 0) = false → Nt l none p lv n (RV.err (skipN l p) 3)
 | long {p lv n : Nat} : skipN l p < l.length → begB (l.getD (skipN l p) 0) = true → (512 < n + 1 ∨ l.getD (skipN l p) 0 = 40 ∧ 16 < lv) → Nt l none p lv n (RV.err (skipN l p) 4)
 | hint {p lv n : Nat} : skipN l p < l.length → l.getD (skipN l p) 0 = 91 → n + 1 ≤ 512 → Nt l none p lv n (nHint l (skipN l p + 1) (n + 1))
 | atom {p lv n : Nat} : skipN l p < l.length → begB (l.getD (skipN l p) 0) = true → l.getD (skipN l p) 0 ≠ 40 → l.getD (skipN l p) 0 ≠ 91 → n + 1 ≤ 512 → Nt l none p lv n (nAtom l (skipN l p) (n + 1))
 | list {p lv n : Nat} {r : RV} : skipN l p < l.length → l.getD (skipN l p) 0 = 40 → n + 1 ≤ 512 → lv ≤ 16 → Nt l (some []) (skipN l p + 1) lv (n + 1) r → Nt l none p lv n r
 | close {p lv n : Nat} {acc : List Sx} : skipN l p < l.length → l.getD (skipN l p) 0 = 41 → Nt l (some acc) p lv n ⟨.mk true false [] [] acc, skipN l p + 1, n, 0⟩
 | fail {p lv n : Nat} {acc : List Sx} {r : RV} : (skipN l p < l.length → l.getD (skipN l p) 0 ≠ 41) → Nt l none (skipN l p) (lv + 1) n r → r.e ≠ 0 → Nt l (some acc) p lv n r
 | more {p lv n : Nat} {acc : List Sx} {r r2 : RV} : skipN l p < l.length → l.getD (skipN l p) 0 ≠ 41 → Nt l none (skipN l p) (lv + 1) n r → r.e = 0 → Nt l (some (acc ++ [r.v])) r.p lv r.n r2 → Nt l (some acc) p lv n r2
theorem Nt.det {l : List UInt8} {m : Option (List Sx)} {p lv n : Nat} {r r' : RV} (h : Nt l m p lv n r) (h' : Nt l m p lv n r') : r = r' := by
 induction h generalizing r' with
 | short h1 => cases h' <;> first | rfl | omega
 | bad h1 h2 => cases h' <;> first | rfl | omega | simp_all [begB]
 | long h1 h2 h3 => cases h' <;> first | rfl | omega | simp_all [begB] <;> omega
 | hint h1 h2 h3 => cases h' <;> first | rfl | omega | simp_all [begB] <;> omega
 | atom h1 h2 h3 h4 h5 => cases h' <;> first | rfl | omega | simp_all [begB] <;> omega
 | list h1 h2 h3 h4 h5 ih =>
  cases h' with
  | list _ _ _ _ h6 => exact ih h6
  | short h6 => omega
  | bad h6 h7 => simp_all [begB]
  | long h6 h7 h8 => simp_all [begB]; omega
  | hint h6 h7 h8 => simp_all
  | atom h6 h7 h8 => simp_all
 | close h1 h2 =>
  cases h' with
  | close => rfl
  | fail h3 => exact absurd h2 (h3 h1)
  | more _ h3 => exact absurd h2 h3
 | fail h1 h2 h3 ih =>
  cases h' with
  | close h4 h5 => exact absurd h5 (h1 h4)
  | fail _ h5 _ => exact ih h5
  | more h4 h5 h6 h7 h8 => rw [ih h6] at h3; exact absurd h7 h3
 | more h1 h2 h3 h4 h5 ih1 ih2 =>
  cases h' with
  | close h6 h7 => exact absurd h7 h2
  | fail h6 h7 h8 => rw [ih1 h7] at h4; exact absurd h4 h8
  | more h6 h7 h8 h9 h10 => rw [← ih1 h8] at h10; exact ih2 h10
end Go.Proofs.YtmmkaclmgnpplaaGreatDoor

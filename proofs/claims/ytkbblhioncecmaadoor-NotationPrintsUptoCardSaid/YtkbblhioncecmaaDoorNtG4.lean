/- The program's Put: what it computes. Atom, List, and the document's example. octet.GetLen and the document's Len: what they compute. A length that is written is read: plain. No two trees have one form: plain. SexpOne: the walk. SexpLists: the walk. The program's Same: what it computes. -/
import Derived.Test.YtkbblhioncecmaaDoorNtG3
import Derived.Deep.LoopGhost
import Derived.Deep.QuietTactic
import Derived.BigQuiet
import Derived.WalkLawsBesides
import Derived.WalkSmall
namespace Go.Proofs.YtkbblhioncecmaaDoor
open Go.RowKit
set_option linter.unusedSimpArgs false
set_option linter.unusedVariables false

/-! what is to be put yet -/
def itF : Option Sx → List UInt8
  | none => [41]
  | some t => t.form
def itW : Option Sx → Nat
  | none => 1
  | some t => 2 * t.nodes
def stF : List (Option Sx) → List UInt8
  | [] => []
  | x :: r => stF r ++ itF x
def stW : List (Option Sx) → Nat
  | [] => 0
  | x :: r => stW r + itW x
theorem stF_snoc (l : List (Option Sx)) (x : Option Sx) : stF (l ++ [x]) = itF x ++ stF l := by
  induction l with
  | nil => simp [stF]
  | cons a r ih => simp [stF, ih]
theorem stW_snoc (l : List (Option Sx)) (x : Option Sx) : stW (l ++ [x]) = stW l + itW x := by
  induction l with
  | nil => simp [stW]
  | cons a r ih => simp only [List.cons_append, stW, ih]; omega
theorem itW_pos (x : Option Sx) : 1 ≤ itW x := by
  cases x with
  | none => exact Nat.le_refl _
  | some t => have := nodes_pos t; simp only [itW]; omega
theorem stW_len (l : List (Option Sx)) : l.length ≤ stW l := by
  induction l with
  | nil => exact Nat.le_refl _
  | cons a r ih => have := itW_pos a; simp only [List.length_cons, stW]; omega

/-- a value, or a list's end, to be put -/
def ItemAt (w : World) (B : Nat) (p : Value) : Option Sx → Prop
  | none => p = .pointer none
  | some t => ∃ b k v, p = .pointer (some ⟨b, k, none⟩) ∧ b < B ∧ w.rangeAt b k v.cells.toList ∧ RdI (fun k => k < B) w v t ∧ ∃ m, t.wide m = false
def Items (w : World) (B : Nat) (ps : List Value) (its : List (Option Sx)) : Prop := ps.length = its.length ∧ ∀ (j : Nat) (p : Value) (it : Option Sx), ps[j]? = some p → its[j]? = some it → ItemAt w B p it
theorem Items.nil (w : World) (B : Nat) : Items w B [] [] := ⟨rfl, fun j p it h => by simp at h⟩
theorem Items.snoc {w : World} {B : Nat} {ps : List Value} {its : List (Option Sx)} {p : Value} {it : Option Sx} (h : Items w B ps its) (hp : ItemAt w B p it) : Items w B (ps ++ [p]) (its ++ [it]) := by
  refine ⟨by simp [h.1], fun j q jt h1 h2 => ?_⟩
  rw [List.getElem?_append] at h1 h2
  rw [← h.1] at h2
  by_cases hj : j < ps.length
  · rw [if_pos hj] at h1 h2
    exact h.2 j q jt h1 h2
  · rw [if_neg hj] at h1 h2
    have e : j - ps.length = 0 := by
      rcases Nat.eq_zero_or_pos (j - ps.length) with e | e
      · exact e
      · rw [List.getElem?_eq_none (by simp; omega)] at h1; cases h1
    rw [e] at h1 h2
    simp at h1 h2
    subst h1 h2
    exact hp
theorem Items.pop {w : World} {B : Nat} {ps : List Value} {its : List (Option Sx)} (h : Items w B ps its) (hn : ps ≠ []) :
    ∃ ps' p its' it, ps = ps' ++ [p] ∧ its = its' ++ [it] ∧ Items w B ps' its' ∧ ItemAt w B p it := by
  have hn2 : its ≠ [] := fun e => hn (List.eq_nil_of_length_eq_zero (by have := h.1; rw [e] at this; exact this))
  obtain ⟨ps', p, rfl⟩ : ∃ ps' p, ps = ps' ++ [p] := ⟨_, _, (List.dropLast_concat_getLast hn).symm⟩
  obtain ⟨its', it, rfl⟩ : ∃ ps' p, its = ps' ++ [p] := ⟨_, _, (List.dropLast_concat_getLast hn2).symm⟩
  have hl : ps'.length = its'.length := by have := h.1; simpa using this
  refine ⟨ps', p, its', it, rfl, rfl, ⟨hl, fun j q jt h1 h2 => ?_⟩, ?_⟩
  · have e1 : j < ps'.length := (List.getElem?_eq_some_iff.1 h1).1
    exact h.2 j q jt (by rw [List.getElem?_append_left e1]; exact h1) (by rw [List.getElem?_append_left (hl ▸ e1)]; exact h2)
  · exact h.2 ps'.length p it (by simp) (by rw [hl]; simp)

theorem OwnG.form {w : World} {B size n : Nat} {v : Value} {xs : List Value} (h : OwnG w B size v n xs) (hn : n ≠ 0) : ∃ g o cap, v = .slice (some ⟨g, o, none⟩) n cap ∧ n ≤ cap ∧ cap ≤ maxLen ∧ w.rangeAt g o xs := by
  rcases h.2 with ⟨_, h2⟩ | ⟨g, o, cap, h2, _, _, h5, h6, _, h8⟩
  · exact absurd h2 hn
  · exact ⟨g, o, cap, h2, h5, h6, h8⟩
theorem OwnG.shape {w : World} {B size n : Nat} {v : Value} {xs : List Value} (h : OwnG w B size v n xs) : ∃ a cap, v = .slice a n cap := by
  rcases h.2 with ⟨h1, h2⟩ | ⟨g, o, cap, h2, _⟩
  · subst h2; exact ⟨_, _, h1⟩
  · exact ⟨_, _, h2⟩
theorem OwnG.pop {w : World} {B g o n cap : Nat} {xs : List Value} {x : Value} (h : OwnG w B 1 (.slice (some ⟨g, o, none⟩) (n + 1) cap) (n + 1) (xs ++ [x])) : OwnG w B 1 (.slice (some ⟨g, o, none⟩) n cap) n xs := by
  obtain ⟨h1, h2⟩ := h
  rcases h2 with ⟨h2, _⟩ | ⟨g', o', cap', h2, h3, h4, h5, h6, h7, h8⟩
  · cases h2
  · cases h2
    exact .made (by simp at h1; omega) h3 h4 (by omega) h6 h7 (fun j u hu => h8 j u (by rw [List.getElem?_append_left (List.getElem?_eq_some_iff.1 hu).1]; exact hu))

theorem infoPE : (Tryd.prog.info? 85).map (fun i => (i.zero, i.size, i.bytes)) = some (some (.pointer none), 1, 8) := by kernel_rfl
theorem news_cell {w : World} {h : Nat} {p : Value} (hc : w.cell? ⟨h, 0, none⟩ = some p) : ∀ (j : Nat) (u : Value), [p][j]? = some u → w.cell? ((⟨h, 0, none⟩ : Addr).add j) = some u := by
  intro j u hu
  match j with
  | 0 => simp at hu; subst hu; exact hc
  | j + 1 => simp at hu
/-- 'append(todo, p)' -/
theorem wp_append_P {o : Oper} {a : Act} {w : World} {B n : Nat} {v : Value} {xs : List Value} {K : Act → World → Prop} {Q : Exit → Act → World → Prop} (s x : Operand)
    (ho : o.op = .call { callee := .builtin .append, args := #[s, x], argTypes := #[95, 95] })
    (hs : a.eval s = v) (h : OwnG w B 1 v n xs) {g c : Nat} {p : Value} (hx : a.eval x = .slice (some ⟨g, 0, none⟩) 1 c) (hc : w.cell? ⟨g, 0, none⟩ = some p) (h1 : p.oneCell' = true) (hn : n ≤ 1000000) (hB : B ≤ w.heap.size)
    (hk : ∀ v' w', OwnG w' B 1 v' (n + 1) (xs ++ [p]) → w.grownBy w' v.ownBlock → (∀ k, v'.ownBlock = some k → v.ownBlock = some k ∨ w.heap.size ≤ k) → K (a.put o.dst v') w') : o.wp Tryd.prog a w K Q := by
  obtain ⟨i0, hi, hi2⟩ := Option.map_eq_some_iff.1 infoPE
  simp only [Prod.mk.injEq] at hi2
  obtain ⟨hz0, hz1, hz2⟩ := hi2
  exact wp_append_G s x 95 95 ho 85 i0 (.pointer none) 8 Tryd.underlying95 hi hz0 hz1 hz2 rfl (by decide) hs h _ hx 1 [p]
    (Src.ofSlice w Tryd.underlying95 ⟨g, 0, none⟩ 1 c [p] rfl (news_cell hc) (fun u hu => by simp at hu; subst hu; exact h1)) (by unfold maxLen; omega) (by omega) hB hk
theorem wpList_append_P {ops : Array Oper} {rest : List Oper} {o : Oper} {a : Act} {w : World} {B n : Nat} {v : Value} {xs : List Value} {Q : Exit → Act → World → Prop} (hgd : o.guard = none) (s x : Operand)
    (ho : o.op = .call { callee := .builtin .append, args := #[s, x], argTypes := #[95, 95] })
    (hs : a.eval s = v) (h : OwnG w B 1 v n xs) {g c : Nat} {p : Value} (hx : a.eval x = .slice (some ⟨g, 0, none⟩) 1 c) (hc : w.cell? ⟨g, 0, none⟩ = some p) (h1 : p.oneCell' = true) (hn : n ≤ 1000000) (hB : B ≤ w.heap.size)
    (hk : ∀ v' w', OwnG w' B 1 v' (n + 1) (xs ++ [p]) → w.grownBy w' v.ownBlock → (∀ k, v'.ownBlock = some k → v.ownBlock = some k ∨ w.heap.size ≤ k) → wpList Tryd.prog ops Q rest (a.put o.dst v') w') : wpList Tryd.prog ops Q (o :: rest) a w :=
  wpList_plain hgd fun _ hK => wp_append_P s x ho hs h hx hc h1 hn hB fun v' w' h1 h2 h3 => hK _ _ (hk v' w' h1 h2 h3)

/-- both rows of the call's own, apart -/
structure Two (v0 : World) (B : Nat) (w : World) (vo : Value) (l : List UInt8) (vt : Value) (ps : List Value) : Prop where
  out : OwnB w B vo l
  todo : OwnG w B 1 vt ps.length ps
  apart : ∀ k, vo.ownBlock = some k → vt.ownBlock ≠ some k
  below : Below B v0 w
  size : B ≤ w.heap.size
theorem Two.after {v0 w w' : World} {B : Nat} {vo vt : Value} {l : List UInt8} {ps : List Value} (h : Two v0 B w vo l vt ps) (hb : Below w.heap.size w w') : Two v0 B w' vo l vt ps :=
  ⟨h.out.after hb, h.todo.after hb, h.apart, h.below.trans (hb.mono h.size), Nat.le_trans h.size hb.size⟩
theorem Two.alloc {v0 w : World} {B : Nat} {vo vt : Value} {l : List UInt8} {ps : List Value} (h : Two v0 B w vo l vt ps) (o : Obj) : Two v0 B (w.alloc o) vo l vt ps := h.after ((Below.refl _ _).alloc (Nat.le_refl _) _)
/-- out has been written on -/
theorem Two.wrote {v0 w w' : World} {B : Nat} {vo vt vo' : Value} {l l' : List UInt8} {ps : List Value} (h : Two v0 B w vo l vt ps) (ho : OwnB w' B vo' l') (hb : But (fun k => vo.ownBlock = some k) w w') (hw : ∀ k, vo'.ownBlock = some k → vo.ownBlock = some k ∨ w.heap.size ≤ k) : Two v0 B w' vo' l' vt ps :=
  ⟨ho, h.todo.but hb (fun k hk e => h.apart k e hk), fun k hk => (hw k hk).elim (h.apart k) (fun e e' => by have := (h.todo.lt k e').2; omega), But.after h.below hb h.size (fun k hk => (h.out.own k hk).1), Nat.le_trans h.size hb.size⟩
theorem Two.wrote' {v0 w w' : World} {B : Nat} {vo vt vo' : Value} {l l' : List UInt8} {ps : List Value} (h : Two v0 B w vo l vt ps) (ho : OwnB w' B vo' l') (hb : w.grownBy w' vo.ownBlock) (hw : ∀ k, vo'.ownBlock = some k → vo.ownBlock = some k ∨ w.heap.size ≤ k) : Two v0 B w' vo' l' vt ps :=
  h.wrote ho (But.ofGrown hb fun k hk => hk) hw
/-- one more is to be put -/
theorem Two.pushed {v0 w w' : World} {B : Nat} {vo vt vt' : Value} {l : List UInt8} {ps ps' : List Value} (h : Two v0 B w vo l vt ps) (hn : OwnG w' B 1 vt' ps'.length ps') (hg : w.grownBy w' vt.ownBlock) (hw : ∀ k, vt'.ownBlock = some k → vt.ownBlock = some k ∨ w.heap.size ≤ k) : Two v0 B w' vo l vt' ps' := by
  have hb : But (fun k => vt.ownBlock = some k) w w' := But.ofGrown hg fun k hk => hk
  exact ⟨OwnG.but h.out hb (fun k hk e => h.apart k hk e), hn, fun k hk e => (hw k e).elim (h.apart k hk) (fun e' => by have := (h.out.own k hk).2; omega), But.after h.below hb h.size (fun k hk => (h.todo.lt k hk).1), Nat.le_trans h.size hb.size⟩

theorem wp_of_run {P : Program} {o : Oper} {a : Act} {w : World} {K : Act → World → Prop} {Q : Exit → Act → World → Prop} (v : Value) (w' : World) (hr : (execOp a.eval o).run P w = .ok (.value v) w') (h : K (a.put o.dst v) w') : o.wp P a w K Q := by
  unfold Oper.wp
  rw [hr]
  exact h

theorem range_at {w w' : World} {B b k : Nat} {v : SV} (h : w.rangeAt b k v.cells.toList) (hb : b < B) (hB : Below B w w') (j : Nat) {u : Value} (hu : v.cells[j]? = some u) : w'.cell? ⟨b, k + j, none⟩ = some u :=
  (hB.cell (p := ⟨b, k + j, none⟩) hb).trans (h j u (by simpa using hu))
theorem formL_drop {ks : List Sx} (i : Nat) (h : i < ks.length) : Sx.formL (ks.drop (ks.length - (i + 1))) = (ks[ks.length - 1 - i]'(by omega)).form ++ Sx.formL (ks.drop (ks.length - i)) := by
  rw [List.drop_eq_getElem_cons (by omega)]
  simp only [Sx.formL]
  congr 2 <;> (try congr 1) <;> omega
theorem nodesL_drop {ks : List Sx} (i : Nat) (h : i < ks.length) : Sx.nodesL (ks.drop (ks.length - (i + 1))) = (ks[ks.length - 1 - i]'(by omega)).nodes + Sx.nodesL (ks.drop (ks.length - i)) := by
  rw [List.drop_eq_getElem_cons (by omega)]
  simp only [Sx.nodesL]
  congr 2 <;> (try congr 1) <;> omega

/-- the form, or the error -/
def PutR (s : Sx) (w : World) (e : Ending) (w' : World) : Prop :=
  (s.may = true ∧ ∃ v, e = .returned (.tuple #[v, .int .i64 0]) ∧ OwnB w' w.heap.size v s.form ∧ Below w.heap.size w w') ∨
  (s.may = false ∧ e = .returned (.tuple #[.slice none 0 0, .int .i64 4]) ∧ Below w.heap.size w w')


set_option maxHeartbeats 16000000 in
set_option maxRecDepth 100000 in
theorem put_all (s : Sx) (v : SV) (w : World) (hr : Rd w v s) (m : Nat) (hw : s.wide m = false) (ht : Tab w) : Calls Tryd.prog 34 #[v.val] w (PutR s w) := by
  obtain ⟨vl, vh, a1, n1, k1, a2, n2, k2, a3, n3, k3⟩ := v
  have hb0 : Below w.heap.size w (w.alloc (.cells #[.bool vl, .bool vh, .slice a1 n1 k1, .slice a2 n2 k2, .slice a3 n3 k3] 26)) := (Below.refl _ _).alloc (Nat.le_refl _) _
  have X0 := Box.new w 26 #[.bool vl, .bool vh, .slice a1 n1 k1, .slice a2 n2 k2, .slice a3 n3 k3]
  have hrB := (hr.there.mono (ok' := fun k => k < w.heap.size + 1) (fun b hb => by have := hb.2; omega)).after hb0
  obtain ⟨my, hmy⟩ : ∃ my, my = s.may := ⟨_, rfl⟩
  have HMY := Lib.hid hmy
  have CALL := Lib.hid (may_any s ⟨vl, vh, a1, n1, k1, a2, n2, k2, a3, n3, k3⟩ (w.alloc (.cells #[.bool vl, .bool vh, .slice a1 n1 k1, .slice a2 n2 k2, .slice a3 n3 k3] 26)) (hr.after hb0) m hw (ht.after hb0))
  rw [← hmy] at CALL
  have HX := Lib.hid X0
  have HRB := Lib.hid hrB
  have HW := Lib.hid hw
  have HT := Lib.hid ht
  clear hrB hmy hr ht hw X0
  show Calls _ _ #[.agg #[.bool vl, .bool vh, .slice a1 n1 k1, .slice a2 n2 k2, .slice a3 n3 k3]] _ _
  go_enter Tryd.func34, Tryd.ntmps34
  go_upto_region 1 with fail
  change Code.wp _ _ _ _ (w.alloc (.cells #[.bool vl, .bool vh, .slice a1 n1 k1, .slice a2 n2 k2, .slice a3 n3 k3] 26))
  have hz0 : (w.alloc (.cells #[.bool vl, .bool vh, .slice a1 n1 k1, .slice a2 n2 k2, .slice a3 n3 k3] 26)).heap.size = w.heap.size + 1 := by simp
  have HZ0 := Lib.hid hz0
  clear hz0
  generalize (w.alloc (.cells #[.bool vl, .bool vh, .slice a1 n1 k1, .slice a2 n2 k2, .slice a3 n3 k3] 26)) = u0 at *
  go_wp2_with (refine wpList_load_box rfl 26 _ rfl HX.out (by rfl) Tryd.underlying26 rfl (by kernel_rfl) ?_)
  refine CALL.out.mono ?_
  rintro e v0 ⟨rfl, b1⟩
  have HB0 := hb0.trans (b1.mono hb0.size)
  have HX0 := Lib.hid (HX.out.after b1)
  have HR0 := Lib.hid (HRB.out.after b1)
  have hz1 : w.heap.size + 1 ≤ v0.heap.size := by have := b1.size; rw [HZ0.out] at this; exact this
  clear b1 CALL HX HRB hb0
  cases my with
  | false =>
    go_wp2_with fail
    go_ret2
    exact .inr ⟨HMY.out.symm, rfl, HB0⟩
  | true =>
    have hfl : s.form.length ≤ 4096 ∧ s.nodes ≤ 512 := by
      have := HMY.out
      simp only [Sx.may, Bool.true_eq, Bool.and_eq_true, decide_eq_true_eq] at this
      exact ⟨this.2, this.1.1.2⟩
    obtain ⟨hfl, hnd⟩ := hfl
    obtain ⟨B, hBd⟩ : ∃ B, B = w.heap.size + 1 := ⟨_, rfl⟩
    have HBD := Lib.hid hBd
    have hI0 : Items v0 B [.pointer (some ⟨w.heap.size, 0, none⟩)] [some s] := by
      have := (Items.nil v0 B).snoc (it := some s) (p := .pointer (some ⟨w.heap.size, 0, none⟩)) ⟨w.heap.size, 0, ⟨vl, vh, a1, n1, k1, a2, n2, k2, a3, n3, k3⟩, rfl, by omega, fun j u hu => by rw [Nat.zero_add]; exact HX0.out.cell j (by simpa [SV.cells] using hu), by rw [hBd]; exact HR0.out, _, HW.out⟩
      simpa using this
    have hT0 : Two v0 B (v0.alloc (.cells #[.pointer (some ⟨w.heap.size, 0, none⟩)] 85)) (.slice none 0 0) [] (.slice (some ⟨v0.heap.size, 0, none⟩) 1 1) [.pointer (some ⟨w.heap.size, 0, none⟩)] :=
      ⟨OwnB.nil _ _, OwnG.new v0 B 1 (by omega) #[.pointer (some ⟨w.heap.size, 0, none⟩)] 85 1 1 (Nat.le_refl _) (by unfold maxLen; omega) rfl, (fun k hk => by cases hk), (Below.refl _ _).alloc (by omega) _, by simp; omega⟩
    rw [← hBd] at hz1
    have HI0 := Lib.hid hI0
    have HT0 := Lib.hid hT0
    have HSW : Hid (stW [some s] ≤ 1024) := Lib.hid (by simp only [stW, itW]; omega)
    clear hBd hI0 hT0
    go_upto_region 5 with fail
    go_loopg [4, 5, 6, 7, 46, 52] (stW [some s]) (fun gk a b _ _ _ _ wr => ∃ (l : List UInt8) (its : List (Option Sx)) (ps : List Value), Two v0 B wr a l b ps ∧ Items v0 B ps its ∧ l ++ stF its = s.form ∧ stW its = gk ∧ gk ≤ 1024)
    case atStart => exact ⟨[], [some s], _, HT0.out, HI0.out, by simp [stF, itF], rfl, HSW.out⟩
    case round =>
      obtain ⟨l, its, ps, hT, hI, hF, hW, hgk⟩ := hrel
      obtain ⟨wa, rfl⟩ : ∃ wa : World, wa = wr := ⟨_, rfl⟩
      clear HT0 HI0 HSW
      have HF := Lib.hid hF
      have HWt := Lib.hid hW
      have HTW := Lib.hid hT
      have hll : l.length ≤ 4096 := by have := congrArg List.length hF; simp only [List.length_append] at this; omega
      have hpl : ps.length ≤ 1024 := by have := stW_len its; have := hI.1; omega
      clear hF hW hT
      by_cases hps : ps = []
      · subst hps
        have hits : its = [] := List.eq_nil_of_length_eq_zero (by have := hI.1; simpa using this.symm)
        subst hits
        obtain ⟨ta, tc, rfl⟩ := HTW.out.todo.shape
        have HI := Lib.hid hI
        clear hI
        go_wp2_with fail
        go_ret2
        have hE := HF.out
        simp only [stF, List.append_nil] at hE
        subst hE
        exact .inl ⟨HMY.out.symm, _, rfl, HTW.out.out.le (by have := HBD.out; omega), HB0.trans (HTW.out.below.mono (by have := HBD.out; omega))⟩
      · obtain ⟨qs, p, jts, it, rfl, rfl, hI2, hP⟩ := hI.pop hps
        have hk1 : (qs ++ [p]).length = qs.length + 1 := by simp
        have hT := HTW.out
        obtain ⟨g, o, cap, hv, hcap1, hcap2, hrange⟩ := hT.todo.form (by rw [hk1]; omega)
        rw [hk1] at hv hcap1
        subst hv
        have htop : wa.cell? ⟨g, o + qs.length, none⟩ = some p := hrange qs.length p (by simp)
        have hpop : Two v0 B wa u4 l (.slice (some ⟨g, o, none⟩) qs.length cap) qs := by
          have h0 := hT.todo
          rw [hk1] at h0
          exact ⟨hT.out, h0.pop, fun k hk => hT.apart k hk, hT.below, hT.size⟩
        have HTP := Lib.hid hpop
        have HI2 := Lib.hid hI2
        have HP := Lib.hid hP
        have hWit := HWt.out
        rw [stW_snoc] at hWit
        have hFit := HF.out
        rw [stF_snoc] at hFit
        have HFi := Lib.hid hFit
        have HWi := Lib.hid hWit
        have hqs : qs.length ≤ 1023 := by rw [hk1] at hpl; omega
        unfold maxLen at hcap2
        clear hk1 hT hrange hpop hI2 hP hI hWit hFit HWt HF HTW hps hpl
        cases it with
        | none =>
          have hp := HP.out
          simp only [ItemAt] at hp
          subst hp
          go_upto_region 12 with fail
          go_wp2_with (refine wpList_append_B3 rfl _ _ rfl rfl (HTP.out.out.alloc _) (l2 := [41]) rfl (sl_cell1 _ 41 _ rfl) (by omega) (by simp; have := HTP.out.size; omega) ?_; intro v3 w3 ho3 hg3 hw3)
          have hT3 := (HTP.out.alloc _).wrote' ho3 hg3 hw3
          have HT3 := Lib.hid hT3
          clear ho3 hg3 hw3 hT3
          go_roundg (stW jts)
          case measure => have := HWi.out; simp only [itW] at this; omega
          case rel => exact ⟨_, jts, _, HT3.out, HI2.out, by have := HFi.out; simp only [itF] at this; rw [← this]; simp, rfl, by have := HWi.out; omega⟩
        | some t =>
          obtain ⟨b, k, tv, hpv, hbB, hrg, hrd, mt, hwt⟩ := HP.out
          subst hpv
          obtain ⟨tl, th, thi, tda, tks⟩ := t
          obtain ⟨hvl, hvh, hs1, hs2, hn, hnc, hcm, TK, hrow, hkk⟩ := hrd.parts
          obtain ⟨in1, in2, in3⟩ := hrd.inb
          obtain ⟨vl2, vh2, b1, m1, j1, b2, m2, j2, b3, m3, j3⟩ := tv
          dsimp only at hvl hvh hs1 hs2 hn hnc hcm hrow hkk in1 in2 in3
          obtain rfl : vl2 = tl := hvl
          obtain rfl : vh2 = th := hvh
          replace hn : m3 = tks.length := hn
          replace hs1 : Sl v0 b1 m1 j1 thi := hs1
          replace hs2 : Sl v0 b2 m2 j2 tda := hs2
          replace hkk : ∀ i (hi : i < tks.length), RdI (fun k => k < B) v0 (TK i) tks[i] := hkk
          obtain ⟨_, wt3, wt1, wt2, wtk⟩ := wide_no hwt
          replace wt1 : thi.length ≤ 5000 := wt1
          replace wt2 : tda.length ≤ 5000 := wt2
          have hm1 : m1 ≤ 5000 := by rw [hs1.1]; exact wt1
          have hm2 : m2 ≤ 5000 := by rw [hs2.1]; exact wt2
          have HS1 := Lib.hid hs1
          have HS2 := Lib.hid hs2
          have HIN1 := Lib.hid in1
          have HIN2 := Lib.hid in2
          have HRow := Lib.hid hrow
          have HKK := Lib.hid hkk
          have HRG := Lib.hid hrg
          have HWK := Lib.hid wtk
          subst hn
          unfold maxLen at hcm
          have HIN3 := Lib.hid in3
          clear hs1 hs2 in1 in2 hrow hkk hrg hrd hwt wtk HP in3
          have q0 : wa.cell? ⟨b, k, none⟩ = some (.bool vl2) := range_at HRG.out hbB HTP.out.below 0 rfl
          cases vl2 with
          | true =>
            go_upto_region 15 with (refine wpList_append_B3 rfl _ _ rfl rfl (HTP.out.out.alloc _) (l2 := [40]) rfl (sl_cell1 _ 40 _ rfl) (by omega) (by simp; have := HTP.out.size; omega) ?_; intro v3 w3 ho3 hg3 hw3)
            have hT3 := (HTP.out.alloc _).wrote' ho3 hg3 hw3
            have HT3 := Lib.hid hT3
            clear ho3 hg3 hw3 hT3 q0 htop HTP
            go_upto_region 16 with (refine wpList_append_P rfl _ _ rfl rfl (OwnG.alloc HT3.out.todo _) (c := 1) rfl (Box.cell (Box.new _ _ _) 0 rfl) rfl (by omega) (by simp; have := HT3.out.size; omega) ?_; intro v4 w4 ho4 hg4 hw4)
            have hT4 := (HT3.out.alloc _).pushed (ps' := qs ++ [.pointer none]) (by simpa using ho4) hg4 hw4
            have HT4 := Lib.hid hT4
            clear ho4 hg4 hw4 hT4 HT3
            have q4 : w4.cell? ⟨b, k + 4, none⟩ = some (.slice b3 tks.length j3) := range_at HRG.out hbB HT4.out.below 4 rfl
            go_wp2_with fail
            go_loopw [5, 7, 68] (fun c _ i wr => ∃ n : Nat, n ≤ tks.length ∧ i = .int .i64 n ∧ ∃ its2 ps2, Two v0 B wr v3 (l ++ [40]) c ps2 ∧ Items v0 B ps2 its2 ∧ Hid (stF its2 = Sx.formL (tks.drop (tks.length - n)) ++ 41 :: stF jts) ∧ Hid (stW its2 = stW jts + 1 + 2 * Sx.nodesL (tks.drop (tks.length - n)))) (fun _ _ i _ => tks.length - (intOf i).toNat)
            case atStart => exact ⟨0, Nat.zero_le _, rfl, jts ++ [none], _, HT4.out, HI2.out.snoc rfl, Lib.hid (by rw [stF_snoc, Nat.sub_zero, List.drop_length]; rfl), Lib.hid (by rw [stW_snoc, Nat.sub_zero, List.drop_length]; rfl)⟩
            case round =>
              clear q4
              obtain ⟨n, hnl, rfl, its2, ps2, hT2, hI5, HF2, HW2⟩ := hrel
              obtain ⟨ta, tc, hc⟩ := hT2.todo.shape
              subst hc
              have HT2 := Lib.hid hT2
              have HI5 := Lib.hid hI5
              have hp2 : ps2.length ≤ 1024 := by
                have e1 := stW_len its2
                have e2 := hI5.1
                have e3 := HW2.out
                have e4 := HWi.out
                have e5 := Sx.nodesL_append (tks.take (tks.length - n)) (tks.drop (tks.length - n))
                rw [List.take_append_drop] at e5
                simp only [itW, Sx.nodes] at e4
                omega
              clear hT2 hI5
              by_cases hlt : n < tks.length
              · obtain ⟨gb, ob, rfl, _⟩ := HRow.out.rangeB hlt
                obtain ⟨q, hq⟩ : ∃ q, q = tks.length - 1 - n := ⟨_, rfl⟩
                have HQ := Lib.hid hq
                have hql : q < tks.length := by omega
                have e1 : IntKind.i64.wrap ((tks.length : Int) - 1) = (tks.length : Int) - 1 := IntWalk.i64_in _ ⟨by omega, by omega⟩
                have e2 : IntKind.i64.wrap ((tks.length : Int) - 1 - (n : Int)) = (q : Int) := by rw [show (tks.length : Int) - 1 - (n : Int) = (q : Int) by omega]; exact IntWalk.i64_in _ ⟨by omega, by omega⟩
                have E1 := Lib.hid e1
                have E2 := Lib.hid e2
                have hgb : gb < B := by rcases HIN3.out with h0 | h0; · omega
                                        · exact h0 gb ob none rfl
                have hq4 : ∀ w', Below B v0 w' → w'.cell? ⟨b, k + 4, none⟩ = some (.slice (some ⟨gb, ob, none⟩) tks.length j3) := fun w' h => range_at HRG.out hbB h 4 rfl
                have HQ4 := Lib.hid hq4
                clear hq e1 e2 hq4
                go_upto_region 19 with fail
                have hKS : Keeps (fun w' => Below B v0 w') := fun w w' h b => h.trans (b.mono (Nat.le_trans hz1 h.size))
                refine wp_region_U (w := wr) (fun w' => Below B v0 w') rfl (HT2.out.below.drew) ?_
                refine wpU_val 0 hKS rfl (by kernel_rfl) (by kernel_rfl) (by kernel_rfl) rfl (fun _ _ _ _ h => h) (.slice ta ps2.length tc) (fun w' h => by simp [go_sem]) ?_
                simp only [Act.put, List.setIfInBounds_toArray, List.set_cons_zero, List.set_cons_succ]
                refine wpU_val 1 hKS rfl (by kernel_rfl) (by kernel_rfl) (by kernel_rfl) rfl (fun _ _ _ _ h => h) (.pointer (some ⟨b, k, none⟩)) (fun w' h => by simp [go_sem]) ?_
                simp only [Act.put, List.setIfInBounds_toArray, List.set_cons_zero, List.set_cons_succ]
                refine wpU_val 2 hKS rfl (by kernel_rfl) (by kernel_rfl) (by kernel_rfl) rfl (fun _ _ _ _ h => h) (.pointer (some ⟨b, k, none⟩)) (fun w' h => by simp [go_sem]) ?_
                simp only [Act.put, List.setIfInBounds_toArray, List.set_cons_zero, List.set_cons_succ]
                refine wpU_val 3 hKS rfl (by kernel_rfl) (by kernel_rfl) (by kernel_rfl) rfl (fun _ _ _ _ h => h) (.pointer (some ⟨b, k + 4, none⟩)) (fun w' h => by simp [go_sem]) ?_
                simp only [Act.put, List.setIfInBounds_toArray, List.set_cons_zero, List.set_cons_succ]
                refine wpU_val 4 hKS rfl (by kernel_rfl) (by kernel_rfl) (by kernel_rfl) rfl (fun _ _ _ _ h => h) (.slice (some ⟨gb, ob, none⟩) tks.length j3) (fun w' h => by simp [go_sem, HQ4.out w' h]) ?_
                simp only [Act.put, List.setIfInBounds_toArray, List.set_cons_zero, List.set_cons_succ]
                refine wpU_val 5 hKS rfl (by kernel_rfl) (by kernel_rfl) (by kernel_rfl) rfl (fun _ _ _ _ h => h) (.pointer (some ⟨b, k, none⟩)) (fun w' h => by simp [go_sem]) ?_
                simp only [Act.put, List.setIfInBounds_toArray, List.set_cons_zero, List.set_cons_succ]
                refine wpU_val 6 hKS rfl (by kernel_rfl) (by kernel_rfl) (by kernel_rfl) rfl (fun _ _ _ _ h => h) (.pointer (some ⟨b, k, none⟩)) (fun w' h => by simp [go_sem]) ?_
                simp only [Act.put, List.setIfInBounds_toArray, List.set_cons_zero, List.set_cons_succ]
                refine wpU_val 7 hKS rfl (by kernel_rfl) (by kernel_rfl) (by kernel_rfl) rfl (fun _ _ _ _ h => h) (.pointer (some ⟨b, k + 4, none⟩)) (fun w' h => by simp [go_sem]) ?_
                simp only [Act.put, List.setIfInBounds_toArray, List.set_cons_zero, List.set_cons_succ]
                refine wpU_val 8 hKS rfl (by kernel_rfl) (by kernel_rfl) (by kernel_rfl) rfl (fun _ _ _ _ h => h) (.slice (some ⟨gb, ob, none⟩) tks.length j3) (fun w' h => by simp [go_sem, HQ4.out w' h]) ?_
                simp only [Act.put, List.setIfInBounds_toArray, List.set_cons_zero, List.set_cons_succ]
                refine wpU_val 9 hKS rfl (by kernel_rfl) (by kernel_rfl) (by kernel_rfl) rfl (fun _ _ _ _ h => h) (.int .i64 tks.length) (fun w' h => by simp [go_sem]) ?_
                simp only [Act.put, List.setIfInBounds_toArray, List.set_cons_zero, List.set_cons_succ]
                refine wpU_val 10 hKS rfl (by kernel_rfl) (by kernel_rfl) (by kernel_rfl) rfl (fun _ _ _ _ h => h) (.int .i64 ((tks.length : Int) - 1)) (fun w' h => by simp [go_sem, E1.out]) ?_
                simp only [Act.put, List.setIfInBounds_toArray, List.set_cons_zero, List.set_cons_succ]
                refine wpU_val 11 hKS rfl (by kernel_rfl) (by kernel_rfl) (by kernel_rfl) rfl (fun _ _ _ _ h => h) (.int .i64 n) (fun w' h => by simp [go_sem]) ?_
                simp only [Act.put, List.setIfInBounds_toArray, List.set_cons_zero, List.set_cons_succ]
                refine wpU_val 12 hKS rfl (by kernel_rfl) (by kernel_rfl) (by kernel_rfl) rfl (fun _ _ _ _ h => h) (.int .i64 q) (fun w' h => by simp [go_sem, E2.out]) ?_
                simp only [Act.put, List.setIfInBounds_toArray, List.set_cons_zero, List.set_cons_succ]
                refine wpU_val 13 hKS rfl (by kernel_rfl) (by kernel_rfl) (by kernel_rfl) rfl (fun _ _ _ _ h => h) (.pointer (some ⟨gb, ob + q * 5, none⟩)) (fun w' h => by simp [go_sem, hql]) ?_
                simp only [Act.put, List.setIfInBounds_toArray, List.set_cons_zero, List.set_cons_succ]
                refine wpU_run 14 rfl (by kernel_rfl) rfl (fun w1 => .slice (some ⟨w1.heap.size, 0, none⟩) 1 1) (fun w1 => w1.alloc (.cells #[.pointer (some ⟨gb, ob + q * 5, none⟩)] 85)) (fun w1 b1 s1 => ⟨by simp [go_sem], hKS _ _ s1 ((Below.refl _ _).alloc (Nat.le_refl _) _), ?_⟩)
                simp only [Act.put, List.setIfInBounds_toArray, List.set_cons_zero, List.set_cons_succ]
                have T6 := ((HT2.out.after ((Below.refl _ _).drew)).after b1).alloc (.cells #[.pointer (some ⟨gb, ob + q * 5, none⟩)] 85)
                have X6 := Box.new w1 85 #[.pointer (some ⟨gb, ob + q * 5, none⟩)]
                clear b1 s1
                generalize w1.alloc (.cells #[.pointer (some ⟨gb, ob + q * 5, none⟩)] 85) = w6 at *
                generalize w1.heap.size = h6 at *
                refine wpU_one 15 rfl (by kernel_rfl) rfl (fun w7 b7 s7 => wp_append_P (.tmp 71) (.tmp 85) rfl rfl (T6.after b7).todo (c := 1) rfl ((X6.after b7).cell 0 rfl) rfl (by omega) (T6.after b7).size (fun v8 w8 ho8 hg8 hw8 => ⟨((T6.after b7).pushed (ps' := ps2 ++ [.pointer (some ⟨gb, ob + q * 5, none⟩)]) (by simpa using ho8) hg8 hw8).below, ?_⟩))
                simp only [Act.put, List.setIfInBounds_toArray, List.set_cons_zero, List.set_cons_succ]
                have T8 := (T6.after b7).pushed (ps' := ps2 ++ [.pointer (some ⟨gb, ob + q * 5, none⟩)]) (by simpa using ho8) hg8 hw8
                clear ho8 hg8 hw8 b7 s7 X6 T6
                refine wpU_val 16 hKS rfl (by kernel_rfl) (by kernel_rfl) (by kernel_rfl) rfl (fun _ _ _ _ h => h) v8 (fun w' h => by simp [go_sem]) ?_
                simp only [Act.put, List.setIfInBounds_toArray, List.set_cons_zero, List.set_cons_succ]
                refine wpU_done (by kernel_rfl) ?_
                intro w9 b9 s9
                have T9 := Lib.hid (T8.after b9)
                clear T8 b9 s9 hKS HQ4
                go_wp2_with fail
                go_roundw
                case rel =>
                  refine ⟨n + 1, by omega, by go_num, its2 ++ [some tks[q]], _, T9.out, HI5.out.snoc ⟨gb, ob + q * 5, TK q, rfl, hgb, HRow.out.rangeA hql, HKK.out q hql, _, HWK.out _ (List.getElem_mem hql)⟩, Lib.hid ?_, Lib.hid ?_⟩
                  · rw [stF_snoc, HF2.out, formL_drop n hlt]
                    have hq := HQ.out
                    subst hq
                    simp [itF]
                  · rw [stW_snoc, HW2.out, nodesL_drop n hlt]
                    have hq := HQ.out
                    subst hq
                    simp only [itW]
                    omega
                case measure => simp [intOf]; omega
              · have hnn : n = tks.length := by omega
                subst hnn
                have hF3 := HF2.out
                have hW3 := HW2.out
                rw [Nat.sub_self, List.drop_zero] at hF3 hW3
                have HF3 := Lib.hid hF3
                have HW3 := Lib.hid hW3
                clear hF3 hW3 HF2 HW2
                go_wp2_with fail
                go_roundg (stW its2)
                case measure => have e1 := HWi.out; have e2 := HW3.out; simp only [itW, Sx.nodes] at e1; omega
                case rel =>
                  refine ⟨_, its2, ps2, HT2.out, HI5.out, ?_, rfl, ?_⟩
                  · have e1 := HFi.out
                    rw [← e1, HF3.out]
                    simp only [itF]
                    rw [form_def, if_pos rfl]
                    simp
                  · have e1 := HWi.out
                    have e2 := HW3.out
                    simp only [itW, Sx.nodes] at e1
                    omega
          | false =>
            have q1 : wa.cell? ⟨b, k + 1, none⟩ = some (.bool vh2) := range_at HRG.out hbB HTP.out.below 1 rfl
            cases vh2 with
            | false =>
              have q3 : wa.cell? ⟨b, k + 3, none⟩ = some (.slice b2 m2 j2) := range_at HRG.out hbB HTP.out.below 3 rfl
              go_wp2_with fail
              refine (put_any u4 l b2 m2 j2 tda B wa HTP.out.out HTP.out.size (HS2.out.keep (HIN2.out.imp id (fun h b o s e => HTP.out.below.block b (h b o s e)))) (HIN2.out.mono (fun b hb e => by have := (HTP.out.out.own b e).1; omega)) (HT.out.after (HB0.trans (HTP.out.below.mono (by have := HBD.out; omega)))) (by omega) (by omega)).mono ?_
              rintro e w12 ⟨v12, rfl, ho12, hb12, hw12⟩
              have T12 := Lib.hid (HTP.out.wrote ho12 hb12 hw12)
              clear ho12 hb12 hw12 q3
              go_wp2_with fail
              go_roundg (stW jts)
              case measure => have := HWi.out; simp only [itW, Sx.nodes] at this; omega
              case rel => exact ⟨_, jts, qs, T12.out, HI2.out, by have := HFi.out; simp only [itF] at this; rw [form_def, if_neg (by simp)] at this; rw [← this]; simp, rfl, by have := HWi.out; omega⟩
            | true =>
              have hq2 : ∀ w', Below B v0 w' → w'.cell? ⟨b, k + 2, none⟩ = some (.slice b1 m1 j1) := fun w' h => range_at HRG.out hbB h 2 rfl
              have HQ2 := Lib.hid hq2
              clear hq2
              have hth := textL_len thi (by omega)
              go_upto_region 9 with fail
              clear q0 q1
              have hKS : Keeps (fun w' => Below B v0 w') := fun w w' h b => h.trans (b.mono (Nat.le_trans hz1 h.size))
              have T0 := HTP.out.after ((Below.refl _ _).drew)
              refine wp_region_U (w := wa) (fun w' => Below B v0 w') rfl (HTP.out.below.drew) ?_
              refine wpU_val 0 hKS rfl (by kernel_rfl) (by kernel_rfl) (by kernel_rfl) rfl (fun _ _ _ _ h => h) u4 (fun w' h => by simp [go_sem]) ?_
              simp only [Act.put, List.setIfInBounds_toArray, List.set_cons_zero, List.set_cons_succ]
              refine wpU_val 3 hKS rfl (by kernel_rfl) (by kernel_rfl) (by kernel_rfl) rfl (fun _ _ _ _ h => h) (.pointer (some ⟨b, k, none⟩)) (fun w' h => by simp [go_sem]) ?_
              simp only [Act.put, List.setIfInBounds_toArray, List.set_cons_zero, List.set_cons_succ]
              refine wpU_val 4 hKS rfl (by kernel_rfl) (by kernel_rfl) (by kernel_rfl) rfl (fun _ _ _ _ h => h) (.pointer (some ⟨b, k, none⟩)) (fun w' h => by simp [go_sem]) ?_
              simp only [Act.put, List.setIfInBounds_toArray, List.set_cons_zero, List.set_cons_succ]
              refine wpU_val 5 hKS rfl (by kernel_rfl) (by kernel_rfl) (by kernel_rfl) rfl (fun _ _ _ _ h => h) (.pointer (some ⟨b, k + 2, none⟩)) (fun w' h => by simp [go_sem]) ?_
              simp only [Act.put, List.setIfInBounds_toArray, List.set_cons_zero, List.set_cons_succ]
              refine wpU_val 6 hKS rfl (by kernel_rfl) (by kernel_rfl) (by kernel_rfl) rfl (fun _ _ _ _ h => h) (.slice b1 m1 j1) (fun w' h => by simp [go_sem, HQ2.out w' h]) ?_
              simp only [Act.put, List.setIfInBounds_toArray, List.set_cons_zero, List.set_cons_succ]
              generalize wa.drew = x0 at *
              refine wpU_two 1 8 rfl rfl (by kernel_rfl) rfl rfl (fun y1 b1_ s1_ => wp_of_run (.slice (some ⟨y1.heap.size, 0, none⟩) 1 1) (y1.alloc (.cells #[.int .u8 91] 5)) (by simp [go_sem]) ⟨hKS _ _ s1_ ((Below.refl _ _).alloc (Nat.le_refl _) _), ?_⟩) (fun y1 b1_ s1_ => wp_of_run (.slice (some ⟨y1.heap.size, 0, none⟩) 1 1) (y1.alloc (.cells #[.int .u8 93] 5)) (by simp [go_sem]) ⟨hKS _ _ s1_ ((Below.refl _ _).alloc (Nat.le_refl _) _), ?_⟩)
              · simp only [Act.put, List.setIfInBounds_toArray, List.set_cons_zero, List.set_cons_succ]
                have T1 := T0.after b1_
                have A1 : Below y1.heap.size y1 (y1.alloc (.cells #[.int .u8 91] 5)) := (Below.refl _ _).alloc (Nat.le_refl _) _
                have TT1 := T1.after A1
                have Z1 := sl_cell1 y1 91 91 rfl
                clear b1_ s1_ A1 T1
                generalize y1.alloc (.cells #[.int .u8 91] 5) = x1 at *
                generalize y1.heap.size = h1 at *
                refine wpU_two 2 8 rfl rfl (by kernel_rfl) rfl rfl (fun y2 b2_ s2_ => wp_append_B3 _ _ rfl rfl (TT1.after b2_).out (l2 := [91]) rfl (Z1.after b2_) (by omega) (TT1.after b2_).size (fun v2_ x2 ho2 hg2 hw2 => ⟨((TT1.after b2_).wrote' ho2 hg2 hw2).below, ?_⟩)) (fun y2 b2_ s2_ => wp_of_run (.slice (some ⟨y2.heap.size, 0, none⟩) 1 1) (y2.alloc (.cells #[.int .u8 93] 5)) (by simp [go_sem]) ⟨hKS _ _ s2_ ((Below.refl _ _).alloc (Nat.le_refl _) _), ?_⟩)
                · simp only [Act.put, List.setIfInBounds_toArray, List.set_cons_zero, List.set_cons_succ]
                  have T2 := TT1.after b2_
                  have R2 := Z1.after b2_
                  have TT2 := T2.wrote' ho2 hg2 hw2
                  clear b2_ s2_ T2 ho2 hg2 hw2 R2
                  refine wpU_two 7 8 rfl rfl (by kernel_rfl) rfl rfl (fun y3 b3_ s3_ => wp_callR 58 #[v2_, .slice b1 m1 j1] (by simp [go_sem]) _ (put_any v2_ (l ++ [91]) b1 m1 j1 thi B y3 (TT2.after b3_).out (TT2.after b3_).size (HS1.out.keep (HIN1.out.imp id (fun h b o s e => (TT2.after b3_).below.block b (h b o s e)))) (HIN1.out.mono (fun b hb e => by have := ((TT2.after b3_).out.own b e).1; omega)) (HT.out.after (HB0.trans ((TT2.after b3_).below.mono (by have := HBD.out; omega)))) (by omega) (by simp only [List.length_append, List.length_cons, List.length_nil]; omega)) (fun e x3 h3_ => ?_)) (fun y3 b3_ s3_ => wp_of_run (.slice (some ⟨y3.heap.size, 0, none⟩) 1 1) (y3.alloc (.cells #[.int .u8 93] 5)) (by simp [go_sem]) ⟨hKS _ _ s3_ ((Below.refl _ _).alloc (Nat.le_refl _) _), ?_⟩)
                  · obtain ⟨v3_, rfl, ho3, hb3, hw3⟩ := h3_
                    have T3 := TT2.after b3_
                    have TT3 := T3.wrote ho3 hb3 hw3
                    refine ⟨_, rfl, TT3.below, ?_⟩
                    simp only [Act.put, List.setIfInBounds_toArray, List.set_cons_zero, List.set_cons_succ]
                    clear b3_ s3_ T3 ho3 hb3 hw3
                    refine wpU_one 8 rfl (by kernel_rfl) rfl (fun y4 b4_ s4_ => wp_of_run (.slice (some ⟨y4.heap.size, 0, none⟩) 1 1) (y4.alloc (.cells #[.int .u8 93] 5)) (by simp [go_sem]) ⟨hKS _ _ s4_ ((Below.refl _ _).alloc (Nat.le_refl _) _), ?_⟩)
                    simp only [Act.put, List.setIfInBounds_toArray, List.set_cons_zero, List.set_cons_succ]
                    have TT4 := (TT3.after b4_).alloc (.cells #[.int .u8 93] 5)
                    have Z4 := sl_cell1 y4 93 93 rfl
                    clear b4_ s4_
                    generalize y4.alloc (.cells #[.int .u8 93] 5) = x4 at *
                    generalize y4.heap.size = h4 at *
                    refine wpU_one 9 rfl (by kernel_rfl) rfl (fun y5 b5_ s5_ => wp_append_B3 _ _ rfl rfl (TT4.after b5_).out (l2 := [93]) rfl (Z4.after b5_) (by simp only [List.length_append, List.length_cons, List.length_nil]; omega) (TT4.after b5_).size (fun v5_ x5 ho5 hg5 hw5 => ⟨((TT4.after b5_).wrote' ho5 hg5 hw5).below, ?_⟩))
                    simp only [Act.put, List.setIfInBounds_toArray, List.set_cons_zero, List.set_cons_succ]
                    have T5 := TT4.after b5_
                    have S5 := Z4.after b5_
                    have TT5 := T5.wrote' ho5 hg5 hw5
                    clear b5_ s5_ T5 ho5 hg5 hw5
                    refine wpU_val 10 hKS rfl (by kernel_rfl) (by kernel_rfl) (by kernel_rfl) rfl (fun _ _ _ _ h => h) v5_ (fun w' h => by simp [go_sem]) ?_
                    simp only [Act.put, List.setIfInBounds_toArray, List.set_cons_zero, List.set_cons_succ]
                    refine wpU_done (by kernel_rfl) ?_
                    intro z1 bz sz
                    have TZ := TT5.after bz
                    clear bz sz hKS HQ2 TT5
                    have TZH := Lib.hid TZ
                    clear TZ
                    have q3 : z1.cell? ⟨b, k + 3, none⟩ = some (.slice b2 m2 j2) := range_at HRG.out hbB TZH.out.below 3 rfl
                    go_wp2_with fail
                    refine (put_any v5_ (l ++ [91] ++ textL thi ++ [93]) b2 m2 j2 tda B z1 TZH.out.out TZH.out.size (HS2.out.keep (HIN2.out.imp id (fun h b o s e => TZH.out.below.block b (h b o s e)))) (HIN2.out.mono (fun b hb e => by have := (TZH.out.out.own b e).1; omega)) (HT.out.after (HB0.trans (TZH.out.below.mono (by have := HBD.out; omega)))) (by omega) (by simp only [List.length_append, List.length_cons, List.length_nil]; omega)).mono ?_
                    rintro e w12 ⟨v12, rfl, ho12, hb12, hw12⟩
                    have T12 := Lib.hid (TZH.out.wrote ho12 hb12 hw12)
                    clear ho12 hb12 hw12 q3
                    go_wp2_with fail
                    go_roundg (stW jts)
                    case measure => have := HWi.out; simp only [itW, Sx.nodes] at this; omega
                    case rel => exact ⟨_, jts, qs, T12.out, HI2.out, by have := HFi.out; simp only [itF] at this; rw [form_def, if_neg (by simp)] at this; rw [← this]; simp, rfl, by have := HWi.out; omega⟩
                  · simp only [Act.put, List.setIfInBounds_toArray, List.set_cons_zero, List.set_cons_succ]
                    have T3 := TT2.after b3_
                    have A3 : Below y3.heap.size y3 (y3.alloc (.cells #[.int .u8 93] 5)) := (Below.refl _ _).alloc (Nat.le_refl _) _
                    have TT3 := T3.after A3
                    have Z3 := sl_cell1 y3 93 93 rfl
                    have NE3 : ∀ k, v2_.ownBlock = some k → k ≠ y3.heap.size := fun k hk => by have := (T3.out.own k hk).2; omega
                    clear b3_ s3_ A3 T3
                    generalize y3.alloc (.cells #[.int .u8 93] 5) = x3 at *
                    generalize y3.heap.size = h3 at *
                    refine wpU_one 7 rfl (by kernel_rfl) rfl (fun y6 b6_ s6_ => wp_callR 58 #[v2_, .slice b1 m1 j1] (by simp [go_sem]) _ (put_any v2_ (l ++ [91]) b1 m1 j1 thi B y6 (TT3.after b6_).out (TT3.after b6_).size (HS1.out.keep (HIN1.out.imp id (fun h b o s e => (TT3.after b6_).below.block b (h b o s e)))) (HIN1.out.mono (fun b hb e => by have := ((TT3.after b6_).out.own b e).1; omega)) (HT.out.after (HB0.trans ((TT3.after b6_).below.mono (by have := HBD.out; omega)))) (by omega) (by simp only [List.length_append, List.length_cons, List.length_nil]; omega)) (fun e x6 h6_ => ?_))
                    obtain ⟨v6_, rfl, ho6, hb6, hw6⟩ := h6_
                    have T6 := TT3.after b6_
                    have S6 := Z3.after b6_
                    have TT6 := T6.wrote ho6 hb6 hw6
                    refine ⟨_, rfl, TT6.below, ?_⟩
                    simp only [Act.put, List.setIfInBounds_toArray, List.set_cons_zero, List.set_cons_succ]
                    have SS6 := S6.but hb6 (ok := fun k => k = h3) (.inr fun b o s e => by cases e; rfl) (fun k hk e => NE3 k e hk)
                    clear b6_ s6_ T6 ho6 hb6 hw6 S6
                    refine wpU_one 9 rfl (by kernel_rfl) rfl (fun y7 b7_ s7_ => wp_append_B3 _ _ rfl rfl (TT6.after b7_).out (l2 := [93]) rfl (SS6.after b7_) (by simp only [List.length_append, List.length_cons, List.length_nil]; omega) (TT6.after b7_).size (fun v7_ x7 ho7 hg7 hw7 => ⟨((TT6.after b7_).wrote' ho7 hg7 hw7).below, ?_⟩))
                    simp only [Act.put, List.setIfInBounds_toArray, List.set_cons_zero, List.set_cons_succ]
                    have T7 := TT6.after b7_
                    have S7 := SS6.after b7_
                    have TT7 := T7.wrote' ho7 hg7 hw7
                    clear b7_ s7_ T7 ho7 hg7 hw7
                    refine wpU_val 10 hKS rfl (by kernel_rfl) (by kernel_rfl) (by kernel_rfl) rfl (fun _ _ _ _ h => h) v7_ (fun w' h => by simp [go_sem]) ?_
                    simp only [Act.put, List.setIfInBounds_toArray, List.set_cons_zero, List.set_cons_succ]
                    refine wpU_done (by kernel_rfl) ?_
                    intro z1 bz sz
                    have TZ := TT7.after bz
                    clear bz sz hKS HQ2 TT7
                    have TZH := Lib.hid TZ
                    clear TZ
                    have q3 : z1.cell? ⟨b, k + 3, none⟩ = some (.slice b2 m2 j2) := range_at HRG.out hbB TZH.out.below 3 rfl
                    go_wp2_with fail
                    refine (put_any v7_ (l ++ [91] ++ textL thi ++ [93]) b2 m2 j2 tda B z1 TZH.out.out TZH.out.size (HS2.out.keep (HIN2.out.imp id (fun h b o s e => TZH.out.below.block b (h b o s e)))) (HIN2.out.mono (fun b hb e => by have := (TZH.out.out.own b e).1; omega)) (HT.out.after (HB0.trans (TZH.out.below.mono (by have := HBD.out; omega)))) (by omega) (by simp only [List.length_append, List.length_cons, List.length_nil]; omega)).mono ?_
                    rintro e w12 ⟨v12, rfl, ho12, hb12, hw12⟩
                    have T12 := Lib.hid (TZH.out.wrote ho12 hb12 hw12)
                    clear ho12 hb12 hw12 q3
                    go_wp2_with fail
                    go_roundg (stW jts)
                    case measure => have := HWi.out; simp only [itW, Sx.nodes] at this; omega
                    case rel => exact ⟨_, jts, qs, T12.out, HI2.out, by have := HFi.out; simp only [itF] at this; rw [form_def, if_neg (by simp)] at this; rw [← this]; simp, rfl, by have := HWi.out; omega⟩
                · simp only [Act.put, List.setIfInBounds_toArray, List.set_cons_zero, List.set_cons_succ]
                  have T2 := TT1.after b2_
                  have R2 := Z1.after b2_
                  have A2 : Below y2.heap.size y2 (y2.alloc (.cells #[.int .u8 93] 5)) := (Below.refl _ _).alloc (Nat.le_refl _) _
                  have TT2 := T2.after A2
                  have Z2 := sl_cell1 y2 93 93 rfl
                  have NE2 : ∀ k, u4.ownBlock = some k → k ≠ y2.heap.size := fun k hk => by have := (T2.out.own k hk).2; omega
                  have RR2 := R2.after A2
                  clear b2_ s2_ A2 T2 R2
                  generalize y2.alloc (.cells #[.int .u8 93] 5) = x2 at *
                  generalize y2.heap.size = h2 at *
                  refine wpU_one 2 rfl (by kernel_rfl) rfl (fun y8 b8_ s8_ => wp_append_B3 _ _ rfl rfl (TT2.after b8_).out (l2 := [91]) rfl (RR2.after b8_) (by omega) (TT2.after b8_).size (fun v8_ x8 ho8 hg8 hw8 => ⟨((TT2.after b8_).wrote' ho8 hg8 hw8).below, ?_⟩))
                  simp only [Act.put, List.setIfInBounds_toArray, List.set_cons_zero, List.set_cons_succ]
                  have T8 := TT2.after b8_
                  have S8 := Z2.after b8_
                  have R8 := RR2.after b8_
                  have TT8 := T8.wrote' ho8 hg8 hw8
                  have SS8 := S8.but (But.ofGrown (S := fun k => u4.ownBlock = some k) hg8 fun k hk => hk) (ok := fun k => k = h2) (.inr fun b o s e => by cases e; rfl) (fun k hk e => NE2 k e hk)
                  have LT8 : h2 < y8.heap.size := S8.inB.elim (fun h0 => by cases h0) (fun h0 => h0 _ _ _ rfl)
                  have NE8 : ∀ k, v8_.ownBlock = some k → k ≠ h2 := fun k hk => (hw8 k hk).elim (NE2 k) (fun e => by omega)
                  clear b8_ s8_ T8 ho8 hg8 hw8 R8 S8 LT8 NE2
                  refine wpU_one 7 rfl (by kernel_rfl) rfl (fun y9 b9_ s9_ => wp_callR 58 #[v8_, .slice b1 m1 j1] (by simp [go_sem]) _ (put_any v8_ (l ++ [91]) b1 m1 j1 thi B y9 (TT8.after b9_).out (TT8.after b9_).size (HS1.out.keep (HIN1.out.imp id (fun h b o s e => (TT8.after b9_).below.block b (h b o s e)))) (HIN1.out.mono (fun b hb e => by have := ((TT8.after b9_).out.own b e).1; omega)) (HT.out.after (HB0.trans ((TT8.after b9_).below.mono (by have := HBD.out; omega)))) (by omega) (by simp only [List.length_append, List.length_cons, List.length_nil]; omega)) (fun e x9 h9_ => ?_))
                  obtain ⟨v9_, rfl, ho9, hb9, hw9⟩ := h9_
                  have T9 := TT8.after b9_
                  have S9 := SS8.after b9_
                  have TT9 := T9.wrote ho9 hb9 hw9
                  refine ⟨_, rfl, TT9.below, ?_⟩
                  simp only [Act.put, List.setIfInBounds_toArray, List.set_cons_zero, List.set_cons_succ]
                  have SS9 := S9.but hb9 (ok := fun k => k = h2) (.inr fun b o s e => by cases e; rfl) (fun k hk e => NE8 k e hk)
                  clear b9_ s9_ T9 ho9 hb9 hw9 S9
                  refine wpU_one 9 rfl (by kernel_rfl) rfl (fun y10 b10_ s10_ => wp_append_B3 _ _ rfl rfl (TT9.after b10_).out (l2 := [93]) rfl (SS9.after b10_) (by simp only [List.length_append, List.length_cons, List.length_nil]; omega) (TT9.after b10_).size (fun v10_ x10 ho10 hg10 hw10 => ⟨((TT9.after b10_).wrote' ho10 hg10 hw10).below, ?_⟩))
                  simp only [Act.put, List.setIfInBounds_toArray, List.set_cons_zero, List.set_cons_succ]
                  have T10 := TT9.after b10_
                  have S10 := SS9.after b10_
                  have TT10 := T10.wrote' ho10 hg10 hw10
                  clear b10_ s10_ T10 ho10 hg10 hw10
                  refine wpU_val 10 hKS rfl (by kernel_rfl) (by kernel_rfl) (by kernel_rfl) rfl (fun _ _ _ _ h => h) v10_ (fun w' h => by simp [go_sem]) ?_
                  simp only [Act.put, List.setIfInBounds_toArray, List.set_cons_zero, List.set_cons_succ]
                  refine wpU_done (by kernel_rfl) ?_
                  intro z1 bz sz
                  have TZ := TT10.after bz
                  clear bz sz hKS HQ2 TT10
                  have TZH := Lib.hid TZ
                  clear TZ
                  have q3 : z1.cell? ⟨b, k + 3, none⟩ = some (.slice b2 m2 j2) := range_at HRG.out hbB TZH.out.below 3 rfl
                  go_wp2_with fail
                  refine (put_any v10_ (l ++ [91] ++ textL thi ++ [93]) b2 m2 j2 tda B z1 TZH.out.out TZH.out.size (HS2.out.keep (HIN2.out.imp id (fun h b o s e => TZH.out.below.block b (h b o s e)))) (HIN2.out.mono (fun b hb e => by have := (TZH.out.out.own b e).1; omega)) (HT.out.after (HB0.trans (TZH.out.below.mono (by have := HBD.out; omega)))) (by omega) (by simp only [List.length_append, List.length_cons, List.length_nil]; omega)).mono ?_
                  rintro e w12 ⟨v12, rfl, ho12, hb12, hw12⟩
                  have T12 := Lib.hid (TZH.out.wrote ho12 hb12 hw12)
                  clear ho12 hb12 hw12 q3
                  go_wp2_with fail
                  go_roundg (stW jts)
                  case measure => have := HWi.out; simp only [itW, Sx.nodes] at this; omega
                  case rel => exact ⟨_, jts, qs, T12.out, HI2.out, by have := HFi.out; simp only [itF] at this; rw [form_def, if_neg (by simp)] at this; rw [← this]; simp, rfl, by have := HWi.out; omega⟩
              · simp only [Act.put, List.setIfInBounds_toArray, List.set_cons_zero, List.set_cons_succ]
                have T1 := T0.after b1_
                have A1 : Below y1.heap.size y1 (y1.alloc (.cells #[.int .u8 93] 5)) := (Below.refl _ _).alloc (Nat.le_refl _) _
                have TT1 := T1.after A1
                have Z1 := sl_cell1 y1 93 93 rfl
                have NE1 : ∀ k, u4.ownBlock = some k → k ≠ y1.heap.size := fun k hk => by have := (T1.out.own k hk).2; omega
                clear b1_ s1_ A1 T1
                generalize y1.alloc (.cells #[.int .u8 93] 5) = x1 at *
                generalize y1.heap.size = h1 at *
                refine wpU_one 1 rfl (by kernel_rfl) rfl (fun y11 b11_ s11_ => wp_of_run (.slice (some ⟨y11.heap.size, 0, none⟩) 1 1) (y11.alloc (.cells #[.int .u8 91] 5)) (by simp [go_sem]) ⟨hKS _ _ s11_ ((Below.refl _ _).alloc (Nat.le_refl _) _), ?_⟩)
                simp only [Act.put, List.setIfInBounds_toArray, List.set_cons_zero, List.set_cons_succ]
                have T11 := TT1.after b11_
                have S11 := Z1.after b11_
                have A11 : Below y11.heap.size y11 (y11.alloc (.cells #[.int .u8 91] 5)) := (Below.refl _ _).alloc (Nat.le_refl _) _
                have TT11 := T11.after A11
                have Z11 := sl_cell1 y11 91 91 rfl
                have SS11 := S11.after A11
                clear b11_ s11_ A11 T11 S11
                generalize y11.alloc (.cells #[.int .u8 91] 5) = x11 at *
                generalize y11.heap.size = h11 at *
                refine wpU_one 2 rfl (by kernel_rfl) rfl (fun y12 b12_ s12_ => wp_append_B3 _ _ rfl rfl (TT11.after b12_).out (l2 := [91]) rfl (Z11.after b12_) (by omega) (TT11.after b12_).size (fun v12_ x12 ho12 hg12 hw12 => ⟨((TT11.after b12_).wrote' ho12 hg12 hw12).below, ?_⟩))
                simp only [Act.put, List.setIfInBounds_toArray, List.set_cons_zero, List.set_cons_succ]
                have T12 := TT11.after b12_
                have S12 := SS11.after b12_
                have R12 := Z11.after b12_
                have TT12 := T12.wrote' ho12 hg12 hw12
                have SS12 := S12.but (But.ofGrown (S := fun k => u4.ownBlock = some k) hg12 fun k hk => hk) (ok := fun k => k = h1) (.inr fun b o s e => by cases e; rfl) (fun k hk e => NE1 k e hk)
                have LT12 : h1 < y12.heap.size := S12.inB.elim (fun h0 => by cases h0) (fun h0 => h0 _ _ _ rfl)
                have NE12 : ∀ k, v12_.ownBlock = some k → k ≠ h1 := fun k hk => (hw12 k hk).elim (NE1 k) (fun e => by omega)
                clear b12_ s12_ T12 ho12 hg12 hw12 R12 S12 LT12 NE1
                refine wpU_one 7 rfl (by kernel_rfl) rfl (fun y13 b13_ s13_ => wp_callR 58 #[v12_, .slice b1 m1 j1] (by simp [go_sem]) _ (put_any v12_ (l ++ [91]) b1 m1 j1 thi B y13 (TT12.after b13_).out (TT12.after b13_).size (HS1.out.keep (HIN1.out.imp id (fun h b o s e => (TT12.after b13_).below.block b (h b o s e)))) (HIN1.out.mono (fun b hb e => by have := ((TT12.after b13_).out.own b e).1; omega)) (HT.out.after (HB0.trans ((TT12.after b13_).below.mono (by have := HBD.out; omega)))) (by omega) (by simp only [List.length_append, List.length_cons, List.length_nil]; omega)) (fun e x13 h13_ => ?_))
                obtain ⟨v13_, rfl, ho13, hb13, hw13⟩ := h13_
                have T13 := TT12.after b13_
                have S13 := SS12.after b13_
                have TT13 := T13.wrote ho13 hb13 hw13
                refine ⟨_, rfl, TT13.below, ?_⟩
                simp only [Act.put, List.setIfInBounds_toArray, List.set_cons_zero, List.set_cons_succ]
                have SS13 := S13.but hb13 (ok := fun k => k = h1) (.inr fun b o s e => by cases e; rfl) (fun k hk e => NE12 k e hk)
                clear b13_ s13_ T13 ho13 hb13 hw13 S13
                refine wpU_one 9 rfl (by kernel_rfl) rfl (fun y14 b14_ s14_ => wp_append_B3 _ _ rfl rfl (TT13.after b14_).out (l2 := [93]) rfl (SS13.after b14_) (by simp only [List.length_append, List.length_cons, List.length_nil]; omega) (TT13.after b14_).size (fun v14_ x14 ho14 hg14 hw14 => ⟨((TT13.after b14_).wrote' ho14 hg14 hw14).below, ?_⟩))
                simp only [Act.put, List.setIfInBounds_toArray, List.set_cons_zero, List.set_cons_succ]
                have T14 := TT13.after b14_
                have S14 := SS13.after b14_
                have TT14 := T14.wrote' ho14 hg14 hw14
                clear b14_ s14_ T14 ho14 hg14 hw14
                refine wpU_val 10 hKS rfl (by kernel_rfl) (by kernel_rfl) (by kernel_rfl) rfl (fun _ _ _ _ h => h) v14_ (fun w' h => by simp [go_sem]) ?_
                simp only [Act.put, List.setIfInBounds_toArray, List.set_cons_zero, List.set_cons_succ]
                refine wpU_done (by kernel_rfl) ?_
                intro z1 bz sz
                have TZ := TT14.after bz
                clear bz sz hKS HQ2 TT14
                have TZH := Lib.hid TZ
                clear TZ
                have q3 : z1.cell? ⟨b, k + 3, none⟩ = some (.slice b2 m2 j2) := range_at HRG.out hbB TZH.out.below 3 rfl
                go_wp2_with fail
                refine (put_any v14_ (l ++ [91] ++ textL thi ++ [93]) b2 m2 j2 tda B z1 TZH.out.out TZH.out.size (HS2.out.keep (HIN2.out.imp id (fun h b o s e => TZH.out.below.block b (h b o s e)))) (HIN2.out.mono (fun b hb e => by have := (TZH.out.out.own b e).1; omega)) (HT.out.after (HB0.trans (TZH.out.below.mono (by have := HBD.out; omega)))) (by omega) (by simp only [List.length_append, List.length_cons, List.length_nil]; omega)).mono ?_
                rintro e w12 ⟨v12, rfl, ho12, hb12, hw12⟩
                have T12 := Lib.hid (TZH.out.wrote ho12 hb12 hw12)
                clear ho12 hb12 hw12 q3
                go_wp2_with fail
                go_roundg (stW jts)
                case measure => have := HWi.out; simp only [itW, Sx.nodes] at this; omega
                case rel => exact ⟨_, jts, qs, T12.out, HI2.out, by have := HFi.out; simp only [itF] at this; rw [form_def, if_neg (by simp)] at this; rw [← this]; simp, rfl, by have := HWi.out; omega⟩

end Go.Proofs.YtkbblhioncecmaaDoor
namespace Go.Proofs.YtkbblhioncecmaaDoor
open Go.RowKit
set_option linter.unusedSimpArgs false
set_option linter.unusedVariables false

/-- a value is handed back that reads as a tree -/
def ValP (s : Sx) (w : World) (e : Ending) (w' : World) : Prop := ∃ v : SV, e = .returned v.val ∧ Rd w' v s ∧ Below w.heap.size w w'

theorem rd_atom {w : World} {a : Option Addr} {n c : Nat} {l : List UInt8} (h : Sl w a n c l) : Rd w ⟨false, false, none, 0, 0, a, n, c, none, 0, 0⟩ (.mk false false [] l []) :=
  .mk _ [] l [] (fun _ => SV.nil) (Sl.nil w) (.inl rfl) h (.inr fun _ _ _ _ => trivial) ⟨Nat.le_refl _, Nat.zero_le _, fun _ => rfl, .inl rfl⟩ (.inl rfl) rfl (fun i hi => by cases hi)

/-- the cells of a row, one behind the other -/
def newsK (K : Nat → SV) : Nat → List Value
  | 0 => []
  | n + 1 => newsK K n ++ (K n).cells.toList
theorem newsK_len (K : Nat → SV) (n : Nat) : (newsK K n).length = n * 5 := by
  induction n with
  | zero => rfl
  | succ n ih => simp only [newsK, List.length_append, ih]; rw [Array.length_toList, SV.cells_size]; omega
theorem newsK_at (K : Nat → SV) (n i j : Nat) (hi : i < n) (hj : j < 5) : (newsK K n)[i * 5 + j]? = (K i).cells[j]? := by
  induction n with
  | zero => omega
  | succ n ih =>
    simp only [newsK]
    by_cases h : i < n
    · rw [List.getElem?_append_left (by rw [newsK_len]; omega), ih h]
    · obtain rfl : i = n := by omega
      rw [List.getElem?_append_right (by rw [newsK_len]; omega), newsK_len, Nat.add_sub_cancel_left]
      simp
theorem newsK_congr {K K' : Nat → SV} {n : Nat} (h : ∀ i, i < n → K i = K' i) : newsK K n = newsK K' n := by
  induction n with
  | zero => rfl
  | succ n ih => simp only [newsK]; rw [ih (fun i hi => h i (by omega)), h n (by omega)]
theorem newsK_one (K : Nat → SV) (n : Nat) : ∀ u ∈ newsK K n, u.oneCell' = true := by
  induction n with
  | zero => intro u hu; cases hu
  | succ n ih =>
    intro u hu
    simp only [newsK, List.mem_append] at hu
    rcases hu with hu | hu
    · exact ih u hu
    · exact (Array.all_eq_true_iff_forall_mem.1 (SV.one (K n))) u (by simpa using hu)
theorem newsK_cells {w : World} {b o n c : Nat} {K : Nat → SV} (h : RowAt w (some ⟨b, o, none⟩) n c K) : ∀ j u, (newsK K n)[j]? = some u → w.cell? ((⟨b, o, none⟩ : Addr).add j) = some u := by
  intro j u hu
  have hlt : j < n * 5 := by rw [← newsK_len K n]; exact (List.getElem?_eq_some_iff.1 hu).1
  have e : j = j / 5 * 5 + j % 5 := by omega
  rw [e, newsK_at K n _ _ (by omega) (by omega)] at hu
  rw [Addr.add_mid]
  have := h.rangeA (i := j / 5) (by omega) (j % 5) u (by simpa using hu)
  rwa [show o + j / 5 * 5 + j % 5 = o + j by omega] at this
theorem OwnG.row {w : World} {B n : Nat} {v : Value} {K : Nat → SV} (h : OwnG w B 5 v n (newsK K n)) : ∃ a c, v = .slice a n c ∧ RowAt w a n c K ∧ InB (fun k => B ≤ k) a n := by
  rcases h.2 with ⟨rfl, rfl⟩ | ⟨g, o, cap, rfl, h3, h4, h5, h6, h7, h8⟩
  · exact ⟨none, 0, rfl, ⟨Nat.le_refl _, Nat.zero_le _, fun _ => rfl, .inl rfl⟩, .inl rfl⟩
  · refine ⟨_, _, rfl, ⟨h5, h6, (fun h => by cases h), .inr ⟨g, o, rfl, fun i hi j u hu => ?_⟩⟩, .inr fun b o' s e => by cases e; exact h3⟩
    have hj : j < 5 := by rw [← SV.cells_size (K i)]; exact (Array.getElem?_eq_some_iff.1 hu).1
    have := h8 (i * 5 + j) u (by rw [newsK_at K n i j hi hj]; exact hu)
    rwa [← Nat.add_assoc] at this

theorem infoSV : (Tryd.prog.info? 26).map (fun i => (i.zero, i.size, i.bytes)) = some (some SV.nil.val, 5, 80) := by kernel_rfl
theorem nilV_size : SV.nil.val.cells.size = 5 := rfl
/-- 'append(out, l...)' of values -/
theorem wp_append_K {o : Oper} {a : Act} {w : World} {B n : Nat} {v : Value} {xs : List Value} {K : Act → World → Prop} {Q : Exit → Act → World → Prop} (s x : Operand)
    (ho : o.op = .call { callee := .builtin .append, args := #[s, x], argTypes := #[24, 24] })
    (hs : a.eval s = v) (h : OwnG w B 5 v n xs) {m : Nat} {news : List Value} {xv : Value} (hx : a.eval x = xv) (hsrc : Src Tryd.prog 5 24 xv m news w) (hn : n + m ≤ 1000000) (hB : B ≤ w.heap.size)
    (hk : ∀ v' w', OwnG w' B 5 v' (n + m) (xs ++ news) → w.grownBy w' v.ownBlock → (∀ k, v'.ownBlock = some k → v.ownBlock = some k ∨ w.heap.size ≤ k) → K (a.put o.dst v') w') : o.wp Tryd.prog a w K Q := by
  obtain ⟨i0, hi, hi2⟩ := Option.map_eq_some_iff.1 infoSV
  simp only [Prod.mk.injEq] at hi2
  obtain ⟨hz0, hz1, hz2⟩ := hi2
  exact wp_append_G s x 24 24 ho 26 i0 SV.nil.val 80 Tryd.underlying24 hi hz0 hz1 hz2 nilV_size (by decide) hs h _ hx m news hsrc (by unfold maxLen; omega) (by omega) hB hk
theorem wpList_append_K {ops : Array Oper} {rest : List Oper} {o : Oper} {a : Act} {w : World} {B n : Nat} {v : Value} {xs : List Value} {Q : Exit → Act → World → Prop} (hgd : o.guard = none) (s x : Operand)
    (ho : o.op = .call { callee := .builtin .append, args := #[s, x], argTypes := #[24, 24] })
    (hs : a.eval s = v) (h : OwnG w B 5 v n xs) {m : Nat} {news : List Value} {xv : Value} (hx : a.eval x = xv) (hsrc : Src Tryd.prog 5 24 xv m news w) (hn : n + m ≤ 1000000) (hB : B ≤ w.heap.size)
    (hk : ∀ v' w', OwnG w' B 5 v' (n + m) (xs ++ news) → w.grownBy w' v.ownBlock → (∀ k, v'.ownBlock = some k → v.ownBlock = some k ∨ w.heap.size ≤ k) → wpList Tryd.prog ops Q rest (a.put o.dst v') w') : wpList Tryd.prog ops Q (o :: rest) a w :=
  wpList_plain hgd fun _ hK => wp_append_K s x ho hs h hx hsrc hn hB fun v' w' h1 h2 h3 => hK _ _ (hk v' w' h1 h2 h3)

/-- a row of the call's own -/
def RowP (n : Nat) (K : Nat → SV) (w : World) (e : Ending) (w' : World) : Prop := ∃ a c, e = .returned (.slice a n c) ∧ RowAt w' a n c K ∧ InB (fun k => w.heap.size ≤ k) a n ∧ Below w.heap.size w w'

theorem rd_list {ok : Nat → Prop} {w : World} {a : Option Addr} {n c : Nat} {K : Nat → SV} {ks : List Sx} (h : RowAt w a n c K) (hi : InB ok a n) (hn : n = ks.length) (hk : ∀ i (hi : i < ks.length), RdI ok w (K i) ks[i]) : RdI ok w ⟨true, false, none, 0, 0, none, 0, 0, a, n, c⟩ (.mk true false [] [] ks) :=
  .mk _ [] [] ks K (Sl.nil w) (.inl rfl) (Sl.nil w) (.inl rfl) h hi hn hk

/-- two values, one behind the other -/
def twoK (u v : SV) : Nat → SV
  | 0 => u
  | _ => v
theorem row_two (w : World) (u v : SV) (T : TypeId) : RowAt (w.alloc (.cells #[.bool u.l, .bool u.h, .slice u.a1 u.n1 u.c1, .slice u.a2 u.n2 u.c2, .slice u.a3 u.n3 u.c3, .bool v.l, .bool v.h, .slice v.a1 v.n1 v.c1, .slice v.a2 v.n2 v.c2, .slice v.a3 v.n3 v.c3] T)) (some ⟨w.heap.size, 0, none⟩) 2 2 (twoK u v) := by
  refine ⟨Nat.le_refl _, by unfold maxLen; omega, (fun h => by cases h), .inr ⟨_, 0, rfl, fun i hi j x hx => ?_⟩⟩
  have hb := Box.new w T #[.bool u.l, .bool u.h, .slice u.a1 u.n1 u.c1, .slice u.a2 u.n2 u.c2, .slice u.a3 u.n3 u.c3, .bool v.l, .bool v.h, .slice v.a1 v.n1 v.c1, .slice v.a2 v.n2 v.c2, .slice v.a3 v.n3 v.c3]
  rw [Nat.zero_add]
  have hj : j < 5 := by
    have := (Array.getElem?_eq_some_iff.1 hx).1
    rwa [SV.cells_size] at this
  refine hb.cell (i * 5 + j) ?_
  match i, hi, j, hj with
  | 0, _, 0, _ => exact hx
  | 0, _, 1, _ => exact hx
  | 0, _, 2, _ => exact hx
  | 0, _, 3, _ => exact hx
  | 0, _, 4, _ => exact hx
  | 1, _, 0, _ => exact hx
  | 1, _, 1, _ => exact hx
  | 1, _, 2, _ => exact hx
  | 1, _, 3, _ => exact hx
  | 1, _, 4, _ => exact hx

def exS : Sx := .mk true false [] [] [.mk false false [] [97, 98, 99] [], .mk false false [] [120] []]
theorem exS_form : exS.form = [40, 51, 58, 97, 98, 99, 49, 58, 120, 41] := by
  unfold exS
  simp [form_def, Sx.formL, textL, numL_small]
theorem exS_may : exS.may = true := by
  unfold Sx.may
  rw [exS_form]
  decide
theorem exS_wide : exS.wide 0 = false := by decide

end Go.Proofs.YtkbblhioncecmaaDoor
namespace Go.Proofs.YtkbblhioncecmaaDoor
open Go.RowKit

theorem Sl.some {w : World} {a : Option Addr} {len cap : Nat} {l : List UInt8} (h : Sl w a len cap l) (hl : 0 < len) : ∃ b o, a = Option.some ⟨b, o, none⟩ ∧ (∀ i, i < len → w.cell? ⟨b, o + i, none⟩ = Option.some (.int .u8 ((l.getD i 0).toNat : Int))) ∧ b < w.heap.size := by
  have hlt := h.lt
  rcases h.2.2.2.2 with h4 | ⟨b, o, rfl, h4⟩
  · omega
  · exact ⟨b, o, rfl, h4, hlt b o (by omega) rfl⟩

def isD (c : UInt8) : Prop := 48 ≤ c.toNat ∧ c.toNat ≤ 57
instance (c : UInt8) : Decidable (isD c) := by unfold isD; infer_instance

/-- the number that begins there, and how many digits it has; none: it is above M -/
def lenScan (M : Nat) : Nat → List UInt8 → Option (Nat × Nat)
  | n, [] => some (n, 0)
  | n, c :: t => if isD c then (if M < 10 * n + (c.toNat - 48) then none else (lenScan M (10 * n + (c.toNat - 48)) t).map fun p => (p.1, p.2 + 1)) else some (n, 0)
/-- the length at a place: the number, the place behind it, the error -/
def lenR (l : List UInt8) (at' : Int) (M : Nat) : Int × Int × Int :=
  if at' < 0 then (0, at', 1) else if (l.length : Int) ≤ at' then (0, at', 2) else
  if ¬ isD (l.getD at'.toNat 0) then (0, at', 3) else if l.getD at'.toNat 0 = 48 then (0, at' + 1, 0) else
  match lenScan M 0 (l.drop at'.toNat) with
  | none => (0, at', 4)
  | some (n, k) => (n, at' + k, 0)
theorem lenScan_step (M n : Nat) (l : List UInt8) (i : Nat) (h : i < l.length) (c : UInt8) (hc : c = l.getD i 0) :
    lenScan M n (l.drop i) = if isD c then (if M < 10 * n + (c.toNat - 48) then none else (lenScan M (10 * n + (c.toNat - 48)) (l.drop (i + 1))).map fun p => (p.1, p.2 + 1)) else some (n, 0) := by
  rw [List.drop_eq_getElem_cons h, lenScan]
  have e : l[i] = c := by rw [hc]; simp [List.getD_eq_getElem?_getD, h]
  rw [e]
theorem lenScan_end (M n : Nat) (l : List UInt8) (i : Nat) (h : l.length ≤ i) : lenScan M n (l.drop i) = some (n, 0) := by rw [List.drop_of_length_le h, lenScan]
theorem map_two (o : Option (Nat × Nat)) (k : Nat) : (o.map fun p => (p.1, p.2 + 1)).map (fun p => (p.1, p.2 + k)) = o.map fun p => (p.1, p.2 + (k + 1)) := by
  cases o <;> simp; omega
def LenP (r : Int × Int × Int) (w : World) (e : Ending) (w' : World) : Prop := e = .returned (.tuple #[.int .i64 r.1, .int .i64 r.2.1, .int .i64 r.2.2]) ∧ Below w.heap.size w w'

set_option maxHeartbeats 8000000 in
set_option maxRecDepth 100000 in
theorem getLen_any (a : Option Addr) (len cap : Nat) (l : List UInt8) (at' most : Int) (M : Nat) (w : World) (hs : Sl w a len cap l) (hn : len ≤ 1000000) (hat0 : -9223372036854775808 ≤ at') (hat : at' ≤ 9223372036854775807) (hm : max most 0 = (M : Int)) (hM : M ≤ 9223372036854775807) :
    Calls Tryd.prog 87 #[.slice a len cap, .int .i64 at', .int .i64 most] w (LenP (lenR l at' M) w) := by
  have HS := Lib.hid hs
  have HL := Lib.hid hs.1
  clear hs
  obtain ⟨R, hR⟩ : ∃ R, R = lenR l at' M := ⟨_, rfl⟩
  rw [← hR]
  have HR := Lib.hid hR
  clear hR
  by_cases h1 : at' < 0
  · have HE := Lib.hid (show R = (0, at', 1) by rw [HR.out, lenR, if_pos h1])
    go_enter Tryd.func87, Tryd.ntmps87
    go_wp2_with fail
    exact bodyPost_ret (v := .tuple #[.int .i64 0, .int .i64 at', .int .i64 1]) (by simp [results, Tryd.results87, go_sem]) rfl ⟨by rw [HE.out], Below.refl _ _⟩
  replace h1 : 0 ≤ at' := by omega
  by_cases h2 : (len : Int) ≤ at'
  · have HE := Lib.hid (show R = (0, at', 2) by rw [HR.out, lenR, if_neg (by omega), if_pos (by rw [← HL.out]; exact h2)])
    go_enter Tryd.func87, Tryd.ntmps87
    go_wp2_with fail
    exact bodyPost_ret (v := .tuple #[.int .i64 0, .int .i64 at', .int .i64 2]) (by simp [results, Tryd.results87, go_sem]) rfl ⟨by rw [HE.out], Below.refl _ _⟩
  replace h2 : at' < (len : Int) := by omega
  obtain ⟨p, rfl⟩ : ∃ p : Nat, at' = (p : Int) := ⟨at'.toNat, by omega⟩
  obtain ⟨b, o, rfl, hcc, _⟩ := HS.out.some (by omega)
  have c0 := hcc p (by omega)
  have HC := Lib.hid hcc
  obtain ⟨x, hx⟩ : ∃ x, x = l.getD p 0 := ⟨_, rfl⟩
  rw [← hx] at c0
  have HX := Lib.hid hx
  have hx255 := x.toNat_lt
  have HR2 := Lib.hid (show R = if ¬ isD x then ((0 : Int), (p : Int), (3 : Int)) else if x = 48 then ((0 : Int), (p : Int) + 1, (0 : Int)) else
      match lenScan M 0 (l.drop p) with
      | none => ((0 : Int), (p : Int), (4 : Int))
      | some (n, k) => ((n : Int), (p : Int) + k, (0 : Int)) by
    rw [HR.out, lenR, if_neg (by omega), if_neg (by rw [← HL.out]; omega), Int.toNat_natCast, ← HX.out])
  clear hcc hx
  by_cases h3 : (x.toNat : Int) < 48
  · have HE := Lib.hid (show R = (0, (p : Int), 3) by rw [HR2.out, if_pos (by unfold isD; omega)])
    go_enter Tryd.func87, Tryd.ntmps87
    go_wp2_with fail
    exact bodyPost_ret (v := .tuple #[.int .i64 0, .int .i64 (p : Int), .int .i64 3]) (by simp [results, Tryd.results87, go_sem]) rfl ⟨by rw [HE.out], Below.refl _ _⟩
  replace h3 : (48 : Int) ≤ x.toNat := by omega
  by_cases h4 : (57 : Int) < x.toNat
  · have HE := Lib.hid (show R = (0, (p : Int), 3) by rw [HR2.out, if_pos (by unfold isD; omega)])
    go_enter Tryd.func87, Tryd.ntmps87
    go_wp2_with fail
    exact bodyPost_ret (v := .tuple #[.int .i64 0, .int .i64 (p : Int), .int .i64 3]) (by simp [results, Tryd.results87, go_sem]) rfl ⟨by rw [HE.out], Below.refl _ _⟩
  replace h4 : (x.toNat : Int) ≤ 57 := by omega
  have HR3 := Lib.hid (HR2.out.trans (if_neg (by unfold isD; omega)))
  by_cases h5 : x = 48
  · have HE := Lib.hid (show R = (0, (p : Int) + 1, 0) by rw [HR3.out, if_pos h5])
    have t5 : ((x.toNat : Int) == 48) = true := by rw [h5]; rfl
    have H5 := Lib.hid h5
    clear h5
    go_enter Tryd.func87, Tryd.ntmps87
    go_wp2_with fail
    exact bodyPost_ret (v := .tuple #[.int .i64 0, .int .i64 ((p : Int) + 1), .int .i64 0]) (by simp [results, Tryd.results87, go_sem]) rfl ⟨by rw [HE.out], Below.refl _ _⟩
  have t5 : ((x.toNat : Int) == 48) = false := by
    have : x.toNat ≠ 48 := fun h => h5 (UInt8.toNat_inj.1 h)
    simp; omega
  have HR4 := Lib.hid (HR3.out.trans (if_neg h5))
  have H5 := Lib.hid h5
  clear h5
  obtain ⟨Z, hZ⟩ : ∃ Z, Z = lenScan M 0 (l.drop p) := ⟨_, rfl⟩
  rw [← hZ] at HR4
  have HZ := Lib.hid hZ
  clear hZ
  go_enter Tryd.func87, Tryd.ntmps87
  go_wp2_with fail
  clear t5 h3 h4 c0 hx255
  go_loop [9, 10] (fun n' i' => ∃ m k : Nat, p + k ≤ len ∧ m ≤ M ∧ n' = .int .i64 m ∧ i' = .int .i64 ((p : Int) + (k : Int)) ∧ Hid (Z = (lenScan M m (l.drop (p + k))).map fun q => (q.1, q.2 + k))) (fun _ i' => len - (intOf i').toNat)
  case atStart => exact ⟨0, 0, by omega, Nat.zero_le _, rfl, by go_num, Lib.hid (by rw [HZ.out]; simp)⟩
  case round =>
    obtain ⟨m, k, hk, hmM, rfl, rfl, HD⟩ := hrel
    obtain ⟨i, hi⟩ : ∃ i : Nat, i = p + k := ⟨_, rfl⟩
    have hik : (p : Int) + (k : Int) = (i : Int) := by omega
    rw [hik]
    have HI := Lib.hid hi
    have HIK := Lib.hid hik
    rw [← hi] at hk HD
    clear hik
    by_cases hlt : i < len
    · have c1 := HC.out i hlt
      obtain ⟨y, hy⟩ : ∃ y, y = l.getD i 0 := ⟨_, rfl⟩
      rw [← hy] at c1
      have HT := Lib.hid (lenScan_step M m l i (by have := HL.out; omega) y hy)
      have hy255 := y.toNat_lt
      have hiI : (i : Int) < len := by omega
      clear hy hi
      by_cases d1 : (48 : Int) ≤ y.toNat
      · by_cases d2 : (y.toNat : Int) ≤ 57
        · obtain ⟨d, hd⟩ : ∃ d : Nat, (y.toNat : Int) - 48 = (d : Int) := ⟨y.toNat - 48, by omega⟩
          have hd9 : d ≤ 9 := by omega
          have HDD := Lib.hid (show y.toNat - 48 = d by omega)
          have HT2 := Lib.hid (HT.out.trans (if_pos (show isD y by unfold isD; omega)))
          rw [HDD.out] at HT2
          by_cases hov : M < 10 * m + d
          · have HE := Lib.hid (show R = (0, (p : Int), 4) by rw [HR4.out, HD.out, HT2.out, if_pos hov]; rfl)
            have hw1 : IntKind.u8.wrap ((y.toNat : Int) - 48) = (d : Int) := by rw [IntKind.wrap_u8, hd]; omega
            by_cases hMd : (M : Int) < d
            · have q1 : ((M : Int) - d).tdiv 10 = 0 := by
                rw [show (M : Int) - d = -((d : Int) - M) by omega, Int.neg_tdiv, Int.tdiv_eq_ediv_of_nonneg (by omega)]; omega
              by_cases hm0 : (0 : Int) < m
              · go_wp2_with fail
                exact bodyPost_ret (v := .tuple #[.int .i64 0, .int .i64 p, .int .i64 4]) (by simp [results, Tryd.results87, go_sem]) rfl ⟨by rw [HE.out], Below.refl _ _⟩
              · have hm0' : (m : Int) ≤ 0 := by omega
                go_wp2_with fail
                exact bodyPost_ret (v := .tuple #[.int .i64 0, .int .i64 p, .int .i64 4]) (by simp [results, Tryd.results87, go_sem]) rfl ⟨by rw [HE.out], Below.refl _ _⟩
            · replace hMd : (d : Int) ≤ M := by omega
              have hMd0 : 0 ≤ (M : Int) - d := by omega
              have hq : ((M : Int) - d) / 10 < (m : Int) := by omega
              go_wp2_with fail
              exact bodyPost_ret (v := .tuple #[.int .i64 0, .int .i64 p, .int .i64 4]) (by simp [results, Tryd.results87, go_sem]) rfl ⟨by rw [HE.out], Below.refl _ _⟩
          · have HE := Lib.hid (show Z = (lenScan M (10 * m + d) (l.drop (p + (k + 1)))).map fun q => (q.1, q.2 + (k + 1)) by
              rw [HD.out, HT2.out, if_neg hov, map_two]; rw [show i + 1 = p + (k + 1) by have := HI.out; omega])
            have hMd : (d : Int) ≤ M := by omega
            have hMd0 : 0 ≤ (M : Int) - d := by omega
            have hq : (m : Int) ≤ ((M : Int) - d) / 10 := by omega
            have hmm : 10 * (m : Int) ≤ 9223372036854775807 := by omega
            have hmm2 : 10 * (m : Int) + d ≤ 9223372036854775807 := by omega
            go_wp2_with fail
            go_round
            case rel => exact ⟨10 * m + d, k + 1, by have := HI.out; omega, by omega, by go_num, by have := HIK.out; congr 1; omega, HE⟩
            case measure => simp [intOf]; omega
        · have d2' : (57 : Int) < y.toNat := by omega
          have HE := Lib.hid (show R = (((m : Nat) : Int), (i : Int), 0) by rw [HR4.out, HD.out, HT.out, if_neg (by unfold isD; omega)]; have := HI.out; simp; omega)
          clear d2
          go_wp2_with fail
          exact bodyPost_ret (v := .tuple #[.int .i64 m, .int .i64 i, .int .i64 0]) (by simp [results, Tryd.results87, go_sem]) rfl ⟨by rw [HE.out], Below.refl _ _⟩
      · have d1' : (y.toNat : Int) < 48 := by omega
        have HE := Lib.hid (show R = (((m : Nat) : Int), (i : Int), 0) by rw [HR4.out, HD.out, HT.out, if_neg (by unfold isD; omega)]; have := HI.out; simp; omega)
        clear d1
        go_wp2_with fail
        exact bodyPost_ret (v := .tuple #[.int .i64 m, .int .i64 i, .int .i64 0]) (by simp [results, Tryd.results87, go_sem]) rfl ⟨by rw [HE.out], Below.refl _ _⟩
    · obtain rfl : i = len := by omega
      have HE := Lib.hid (show R = (((m : Nat) : Int), (i : Int), 0) by rw [HR4.out, HD.out, lenScan_end _ _ _ _ (by have := HL.out; omega)]; have := HI.out; simp; omega)
      clear hi
      go_wp2_with fail
      exact bodyPost_ret (v := .tuple #[.int .i64 m, .int .i64 i, .int .i64 0]) (by simp [results, Tryd.results87, go_sem]) rfl ⟨by rw [HE.out], Below.refl _ _⟩

set_option maxHeartbeats 8000000 in
set_option maxRecDepth 100000 in
theorem refLen_any (a : Option Addr) (len cap : Nat) (l : List UInt8) (at' most : Int) (M : Nat) (w : World) (hs : Sl w a len cap l) (hn : len ≤ 1000000) (hat0 : -9223372036854775808 ≤ at') (hat : at' ≤ 9223372036854775807) (hm : max most 0 = (M : Int)) (hM : M ≤ 1000000000000000) :
    Calls Tryd.prog 90 #[.slice a len cap, .int .i64 at', .int .i64 most] w (LenP (lenR l at' M) w) := by
  have HS := Lib.hid hs
  have HL := Lib.hid hs.1
  clear hs
  obtain ⟨R, hR⟩ : ∃ R, R = lenR l at' M := ⟨_, rfl⟩
  rw [← hR]
  have HR := Lib.hid hR
  clear hR
  by_cases h1 : at' < 0
  · have HE := Lib.hid (show R = (0, at', 1) by rw [HR.out, lenR, if_pos h1])
    go_enter Tryd.func90, Tryd.ntmps90
    go_wp2_with fail
    exact bodyPost_ret (v := .tuple #[.int .i64 0, .int .i64 at', .int .i64 1]) (by simp [results, Tryd.results90, go_sem]) rfl ⟨by rw [HE.out], Below.refl _ _⟩
  replace h1 : 0 ≤ at' := by omega
  by_cases h2 : (len : Int) ≤ at'
  · have HE := Lib.hid (show R = (0, at', 2) by rw [HR.out, lenR, if_neg (by omega), if_pos (by rw [← HL.out]; exact h2)])
    go_enter Tryd.func90, Tryd.ntmps90
    go_wp2_with fail
    exact bodyPost_ret (v := .tuple #[.int .i64 0, .int .i64 at', .int .i64 2]) (by simp [results, Tryd.results90, go_sem]) rfl ⟨by rw [HE.out], Below.refl _ _⟩
  replace h2 : at' < (len : Int) := by omega
  obtain ⟨p, rfl⟩ : ∃ p : Nat, at' = (p : Int) := ⟨at'.toNat, by omega⟩
  obtain ⟨b, o, rfl, hcc, _⟩ := HS.out.some (by omega)
  have c0 := hcc p (by omega)
  have HC := Lib.hid hcc
  obtain ⟨x, hx⟩ : ∃ x, x = l.getD p 0 := ⟨_, rfl⟩
  rw [← hx] at c0
  have HX := Lib.hid hx
  have hx255 := x.toNat_lt
  have HR2 := Lib.hid (show R = if ¬ isD x then ((0 : Int), (p : Int), (3 : Int)) else if x = 48 then ((0 : Int), (p : Int) + 1, (0 : Int)) else
      match lenScan M 0 (l.drop p) with
      | none => ((0 : Int), (p : Int), (4 : Int))
      | some (n, k) => ((n : Int), (p : Int) + k, (0 : Int)) by
    rw [HR.out, lenR, if_neg (by omega), if_neg (by rw [← HL.out]; omega), Int.toNat_natCast, ← HX.out])
  clear hcc hx
  by_cases h3 : (x.toNat : Int) < 48
  · have HE := Lib.hid (show R = (0, (p : Int), 3) by rw [HR2.out, if_pos (by unfold isD; omega)])
    go_enter Tryd.func90, Tryd.ntmps90
    go_wp2_with fail
    exact bodyPost_ret (v := .tuple #[.int .i64 0, .int .i64 (p : Int), .int .i64 3]) (by simp [results, Tryd.results90, go_sem]) rfl ⟨by rw [HE.out], Below.refl _ _⟩
  replace h3 : (48 : Int) ≤ x.toNat := by omega
  by_cases h4 : (57 : Int) < x.toNat
  · have HE := Lib.hid (show R = (0, (p : Int), 3) by rw [HR2.out, if_pos (by unfold isD; omega)])
    go_enter Tryd.func90, Tryd.ntmps90
    go_wp2_with fail
    exact bodyPost_ret (v := .tuple #[.int .i64 0, .int .i64 (p : Int), .int .i64 3]) (by simp [results, Tryd.results90, go_sem]) rfl ⟨by rw [HE.out], Below.refl _ _⟩
  replace h4 : (x.toNat : Int) ≤ 57 := by omega
  have HR3 := Lib.hid (HR2.out.trans (if_neg (by unfold isD; omega)))
  by_cases h5 : x = 48
  · have HE := Lib.hid (show R = (0, (p : Int) + 1, 0) by rw [HR3.out, if_pos h5])
    have t5 : ((x.toNat : Int) == 48) = true := by rw [h5]; rfl
    have H5 := Lib.hid h5
    clear h5
    go_enter Tryd.func90, Tryd.ntmps90
    go_wp2_with fail
    exact bodyPost_ret (v := .tuple #[.int .i64 0, .int .i64 ((p : Int) + 1), .int .i64 0]) (by simp [results, Tryd.results90, go_sem]) rfl ⟨by rw [HE.out], Below.refl _ _⟩
  have t5 : ((x.toNat : Int) == 48) = false := by
    have : x.toNat ≠ 48 := fun h => h5 (UInt8.toNat_inj.1 h)
    simp; omega
  have HR4 := Lib.hid (HR3.out.trans (if_neg h5))
  have H5 := Lib.hid h5
  clear h5
  obtain ⟨Z, hZ⟩ : ∃ Z, Z = lenScan M 0 (l.drop p) := ⟨_, rfl⟩
  rw [← hZ] at HR4
  have HZ := Lib.hid hZ
  clear hZ
  go_enter Tryd.func90, Tryd.ntmps90
  go_wp2_with fail
  clear t5 h3 h4 c0 hx255
  go_loop [9, 10] (fun n' i' => ∃ m k : Nat, p + k ≤ len ∧ m ≤ M ∧ n' = .int .i64 m ∧ i' = .int .i64 ((p : Int) + (k : Int)) ∧ Hid (Z = (lenScan M m (l.drop (p + k))).map fun q => (q.1, q.2 + k))) (fun _ i' => len - (intOf i').toNat)
  case atStart => exact ⟨0, 0, by omega, Nat.zero_le _, rfl, by go_num, Lib.hid (by rw [HZ.out]; simp)⟩
  case round =>
    obtain ⟨m, k, hk, hmM, rfl, rfl, HD⟩ := hrel
    obtain ⟨i, hi⟩ : ∃ i : Nat, i = p + k := ⟨_, rfl⟩
    have hik : (p : Int) + (k : Int) = (i : Int) := by omega
    rw [hik]
    have HI := Lib.hid hi
    have HIK := Lib.hid hik
    rw [← hi] at hk HD
    clear hik
    by_cases hlt : i < len
    · have c1 := HC.out i hlt
      obtain ⟨y, hy⟩ : ∃ y, y = l.getD i 0 := ⟨_, rfl⟩
      rw [← hy] at c1
      have HT := Lib.hid (lenScan_step M m l i (by have := HL.out; omega) y hy)
      have hy255 := y.toNat_lt
      have hiI : (i : Int) < len := by omega
      clear hy hi
      by_cases d1 : (48 : Int) ≤ y.toNat
      · by_cases d2 : (y.toNat : Int) ≤ 57
        · obtain ⟨d, hd⟩ : ∃ d : Nat, (y.toNat : Int) - 48 = (d : Int) := ⟨y.toNat - 48, by omega⟩
          have hd9 : d ≤ 9 := by omega
          have HDD := Lib.hid (show y.toNat - 48 = d by omega)
          have HT2 := Lib.hid (HT.out.trans (if_pos (show isD y by unfold isD; omega)))
          rw [HDD.out] at HT2
          by_cases hov : M < 10 * m + d
          · have HE := Lib.hid (show R = (0, (p : Int), 4) by rw [HR4.out, HD.out, HT2.out, if_pos hov]; rfl)
            have hw1 : IntKind.u8.wrap ((y.toNat : Int) - 48) = (d : Int) := by rw [IntKind.wrap_u8, hd]; omega
            have hm9 : (m : Int) ≤ 900000000000000000 := by omega
            have hov' : (M : Int) < 10 * m + d := by omega
            go_wp2_with fail
            exact bodyPost_ret (v := .tuple #[.int .i64 0, .int .i64 p, .int .i64 4]) (by simp [results, Tryd.results90, go_sem]) rfl ⟨by rw [HE.out], Below.refl _ _⟩
          · have HE := Lib.hid (show Z = (lenScan M (10 * m + d) (l.drop (p + (k + 1)))).map fun q => (q.1, q.2 + (k + 1)) by
              rw [HD.out, HT2.out, if_neg hov, map_two]; rw [show i + 1 = p + (k + 1) by have := HI.out; omega])
            have hm9 : (m : Int) ≤ 900000000000000000 := by omega
            have hov' : 10 * (m : Int) + d ≤ M := by omega
            go_wp2_with fail
            go_round
            case rel => exact ⟨10 * m + d, k + 1, by have := HI.out; omega, by omega, by go_num, by have := HIK.out; congr 1; omega, HE⟩
            case measure => simp [intOf]; omega
        · have d2' : (57 : Int) < y.toNat := by omega
          have HE := Lib.hid (show R = (((m : Nat) : Int), (i : Int), 0) by rw [HR4.out, HD.out, HT.out, if_neg (by unfold isD; omega)]; have := HI.out; simp; omega)
          clear d2
          go_wp2_with fail
          exact bodyPost_ret (v := .tuple #[.int .i64 m, .int .i64 i, .int .i64 0]) (by simp [results, Tryd.results90, go_sem]) rfl ⟨by rw [HE.out], Below.refl _ _⟩
      · have d1' : (y.toNat : Int) < 48 := by omega
        have HE := Lib.hid (show R = (((m : Nat) : Int), (i : Int), 0) by rw [HR4.out, HD.out, HT.out, if_neg (by unfold isD; omega)]; have := HI.out; simp; omega)
        clear d1
        go_wp2_with fail
        exact bodyPost_ret (v := .tuple #[.int .i64 m, .int .i64 i, .int .i64 0]) (by simp [results, Tryd.results90, go_sem]) rfl ⟨by rw [HE.out], Below.refl _ _⟩
    · obtain rfl : i = len := by omega
      have HE := Lib.hid (show R = (((m : Nat) : Int), (i : Int), 0) by rw [HR4.out, HD.out, lenScan_end _ _ _ _ (by have := HL.out; omega)]; have := HI.out; simp; omega)
      clear hi
      go_wp2_with fail
      exact bodyPost_ret (v := .tuple #[.int .i64 m, .int .i64 i, .int .i64 0]) (by simp [results, Tryd.results90, go_sem]) rfl ⟨by rw [HE.out], Below.refl _ _⟩
end Go.Proofs.YtkbblhioncecmaaDoor
namespace Go.Proofs.YtkbblhioncecmaaDoor
open Go.RowKit

def valA (a : Nat) (w : List UInt8) : Nat := w.foldl (fun a c => 10 * a + (c.toNat - 48)) a
theorem valA_nil (a : Nat) : valA a [] = a := by unfold valA; rw [List.foldl_nil]
theorem valA_cons (a : Nat) (c : UInt8) (t : List UInt8) : valA a (c :: t) = valA (10 * a + (c.toNat - 48)) t := by unfold valA; rw [List.foldl_cons]
theorem valA_ge (w : List UInt8) : ∀ (a : Nat), a ≤ valA a w := by
  induction w with
  | nil => intro a; rw [valA_nil]; exact Nat.le_refl _
  | cons c t ih => intro a; rw [valA_cons]; exact Nat.le_trans (show a ≤ 10 * a + (c.toNat - 48) by omega) (ih _)
theorem valA_snoc (w : List UInt8) (a : Nat) (c : UInt8) : valA a (w ++ [c]) = 10 * valA a w + (c.toNat - 48) := by
  unfold valA; rw [List.foldl_append, List.foldl_cons, List.foldl_nil]
theorem lenScan_app (M : Nat) (r : List UInt8) (w : List UInt8) : ∀ (a : Nat), (∀ c ∈ w, isD c) → a ≤ M → lenScan M a (w ++ r) = if M < valA a w then none else (lenScan M (valA a w) r).map fun p => (p.1, p.2 + w.length) := by
  induction w with
  | nil =>
    intro a _ ha
    rw [List.nil_append, valA_nil, if_neg (by omega)]
    cases lenScan M a r <;> simp
  | cons c t ih =>
    intro a h ha
    have hc := h c (List.mem_cons_self ..)
    rw [List.cons_append, lenScan, if_pos hc, valA_cons]
    by_cases ho : M < 10 * a + (c.toNat - 48)
    · have := valA_ge t (10 * a + (c.toNat - 48))
      rw [if_pos ho, if_pos (by omega)]
    · rw [if_neg ho, ih _ (fun d hd => h d (List.mem_cons_of_mem _ hd)) (by omega)]
      split
      · rfl
      · generalize lenScan M (valA (10 * a + (c.toNat - 48)) t) r = z
        cases z with
        | none => rfl
        | some p => simp only [Option.map_some, List.length_cons]; rw [Nat.add_assoc]

theorem dec_facts : ∀ (u : Nat), (∀ c ∈ Lib.decDigits u, isD c) ∧ valA 0 (Lib.decDigits u) = u ∧ (0 < u → (Lib.decDigits u).getD 0 0 ≠ 48) ∧ 0 < (Lib.decDigits u).length := by
  intro u
  induction u using Nat.strongRecOn with
  | _ u ih =>
    rw [Lib.decDigits]
    split
    · rename_i h
      have e : (UInt8.ofNat (48 + u)).toNat = 48 + u := by simp; omega
      refine ⟨fun c hc => ?_, ?_, fun h0 => ?_, by simp⟩
      · rw [List.mem_singleton.1 hc]; unfold isD; rw [e]; omega
      · rw [valA_cons, valA_nil, e]; omega
      · show UInt8.ofNat (48 + u) ≠ 48
        intro h2
        have := congrArg UInt8.toNat h2
        rw [e] at this
        simp at this; omega
    · rename_i h
      obtain ⟨i1, i2, i3, i4⟩ := ih (u / 10) (by omega)
      have e : (UInt8.ofNat (48 + u % 10)).toNat = 48 + u % 10 := by simp; omega
      refine ⟨fun c hc => ?_, ?_, fun _ => ?_, by simp⟩
      · rcases List.mem_append.1 hc with hc | hc
        · exact i1 c hc
        · rw [List.mem_singleton.1 hc]; unfold isD; rw [e]; omega
      · rw [valA_snoc, i2, e]; omega
      · have := i3 (by omega)
        rw [List.getD_eq_getElem?_getD, List.getElem?_append_left i4, ← List.getD_eq_getElem?_getD]; exact this

theorem back_len (n : Int) (h0 : 0 ≤ n) (t : List UInt8) (ht : ∀ c r, t = c :: r → ¬ isD c) (M : Nat) (hM : n.toNat ≤ M) : lenR (numL n ++ t) 0 M = (n, ((numL n).length : Int), 0) := by
  obtain ⟨d1, d2, d3, d4⟩ := dec_facts n.toNat
  unfold numL at *
  obtain ⟨L, hL⟩ : ∃ L, L = Lib.decDigits n.toNat := ⟨_, rfl⟩
  rw [← hL] at d1 d2 d3 d4 ⊢
  have hg : (L ++ t).getD 0 0 = L.getD 0 0 := by simp [List.getD_eq_getElem?_getD, List.getElem?_append_left d4]
  have hd : isD (L.getD 0 0) := d1 _ (by simp [List.getD_eq_getElem?_getD, List.getElem?_eq_getElem d4])
  unfold lenR
  rw [if_neg (by omega), if_neg (by rw [List.length_append]; omega), Int.toNat_zero, hg, if_neg (fun h => h hd)]
  by_cases hn : n = 0
  · subst hn
    have : L = [48] := by rw [hL, Lib.decDigits]; rfl
    subst this
    rfl
  · have h1 := d3 (by omega)
    rw [if_neg h1, List.drop_zero, lenScan_app M t L 0 d1 (Nat.zero_le _), d2, if_neg (by omega)]
    have : lenScan M n.toNat t = some (n.toNat, 0) := by
      cases t with
      | nil => rfl
      | cons c r => unfold lenScan; rw [if_neg (ht c r rfl)]
    rw [this]
    simp; omega
end Go.Proofs.YtkbblhioncecmaaDoor
namespace Go.Proofs.YtkbblhioncecmaaDoor
open Go.RowKit

theorem digits_split {a b : List UInt8} {c d : UInt8} {x y : List UInt8} (ha : ∀ z ∈ a, isD z) (hb : ∀ z ∈ b, isD z) (hc : ¬ isD c) (hd : ¬ isD d) (h : a ++ c :: x = b ++ d :: y) : a = b ∧ c = d ∧ x = y := by
  induction a generalizing b with
  | nil =>
    cases b with
    | nil => simp at h; exact ⟨rfl, h.1, h.2⟩
    | cons z r => simp at h; exact absurd (h.1 ▸ hb z List.mem_cons_self) hc
  | cons z r ih =>
    cases b with
    | nil => simp at h; exact absurd (h.1.symm ▸ ha z List.mem_cons_self) hd
    | cons z' r' =>
      simp only [List.cons_append, List.cons.injEq] at h
      obtain ⟨rfl, h⟩ := h
      obtain ⟨rfl, h2, h3⟩ := ih (fun z hz => ha z (List.mem_cons_of_mem _ hz)) (fun z hz => hb z (List.mem_cons_of_mem _ hz)) h
      exact ⟨rfl, h2, h3⟩
theorem not_isD {c : UInt8} (h : c.toNat < 48 ∨ 57 < c.toNat) : ¬ isD c := by unfold isD; omega
theorem numL_facts (n : Nat) : (∀ c ∈ numL (n : Int), isD c) ∧ valA 0 (numL (n : Int)) = n ∧ 0 < (numL (n : Int)).length := by
  have := dec_facts n
  unfold numL
  rw [Int.toNat_natCast]
  exact ⟨this.1, this.2.1, this.2.2.2⟩
theorem numL_inj {n m : Nat} (h : numL (n : Int) = numL (m : Int)) : n = m := by rw [← (numL_facts n).2.1, ← (numL_facts m).2.1, h]
theorem textL_inj {l l' r r' : List UInt8} (h : textL l ++ r = textL l' ++ r') : l = l' ∧ r = r' := by
  simp only [textL, List.append_assoc, List.cons_append] at h
  obtain ⟨h1, _, h2⟩ := digits_split (numL_facts _).1 (numL_facts _).1 (not_isD (c := 58) (by decide)) (not_isD (c := 58) (by decide)) h
  have := numL_inj h1
  exact List.append_inj h2 this
theorem textL_head (l r : List UInt8) : ∃ c t, textL l ++ r = c :: t ∧ isD c := by
  obtain ⟨h1, _, h2⟩ := numL_facts l.length
  obtain ⟨c, t, e⟩ : ∃ c t, numL (l.length : Int) = c :: t := by
    cases e : numL (l.length : Int) with
    | nil => rw [e] at h2; cases h2
    | cons c t => exact ⟨c, t, rfl⟩
  refine ⟨c, t ++ 58 :: (l ++ r), ?_, h1 c (by rw [e]; exact List.mem_cons_self)⟩
  simp [textL, e]
/-- how a form begins -/
theorem form_head (s : Sx) (r : List UInt8) : ∃ c t, s.form ++ r = c :: t ∧ ((s.l = true ∧ c = 40) ∨ (s.l = false ∧ s.h = true ∧ c = 91) ∨ (s.l = false ∧ s.h = false ∧ isD c)) := by
  obtain ⟨l, h, hi, da, ks⟩ := s
  rw [form_def]
  cases l with
  | true => exact ⟨40, _, rfl, .inl ⟨rfl, rfl⟩⟩
  | false =>
    cases h with
    | true => exact ⟨91, _, rfl, .inr (.inl ⟨rfl, rfl, rfl⟩)⟩
    | false =>
      obtain ⟨c, t, e, hd⟩ := textL_head da r
      exact ⟨c, t, by simpa using e, .inr (.inr ⟨rfl, rfl, hd⟩)⟩
theorem form_not_end (s : Sx) (r r' : List UInt8) : s.form ++ r ≠ 41 :: r' := by
  intro h
  obtain ⟨c, t, e, h2⟩ := form_head s r
  rw [e] at h
  simp only [List.cons.injEq] at h
  obtain ⟨rfl, _⟩ := h
  rcases h2 with ⟨_, h2⟩ | ⟨_, _, h2⟩ | ⟨_, _, h2⟩
  · exact absurd h2 (by decide)
  · exact absurd h2 (by decide)
  · exact absurd h2 (not_isD (by decide))
theorem clean_parts {l h : Bool} {hi da : List UInt8} {ks : List Sx} (hc : (Sx.mk l h hi da ks).clean = true) :
    (l = true → h = false ∧ hi = [] ∧ da = []) ∧ (l = false → ks = [] ∧ (h = false → hi = [])) ∧ ∀ k ∈ ks, k.clean = true := by
  rw [clean_def, Bool.and_eq_true] at hc
  refine ⟨fun e => ?_, fun e => ?_, fun k hk => ?_⟩
  · subst e; have := hc.1; unfold headOk at this; simpa [and_assoc] using this
  · subst e
    have := hc.1
    unfold headOk at this
    simp at this
    exact ⟨this.1, fun e => by subst e; simpa using this.2⟩
  · by_cases e : k.clean = true
    · exact e
    · have := Sx.cleanL_no hk (by simpa using e)
      rw [this] at hc
      cases hc.2
theorem form_inj (s : Sx) : ∀ (t : Sx) (r r' : List UInt8), s.clean = true → t.clean = true → s.form ++ r = t.form ++ r' → s = t ∧ r = r' := by
  induction s using Sx.ind with
  | h l hh hi da ks ih =>
    intro t r r' hc hc' h
    obtain ⟨l2, h2, hi2, da2, ks2⟩ := t
    obtain ⟨c, x, e1, k1⟩ := form_head (.mk l hh hi da ks) r
    obtain ⟨c', x', e2, k2⟩ := form_head (.mk l2 h2 hi2 da2 ks2) r'
    have ec : c = c' := by rw [e1, e2] at h; exact (List.cons.injEq .. ▸ h).1
    subst ec
    obtain ⟨p1, p2, p3⟩ := clean_parts hc
    obtain ⟨q1, q2, q3⟩ := clean_parts hc'
    simp only [Sx.l, Sx.h] at k1 k2
    have d1 : ¬ isD 40 := not_isD (by decide)
    have d2 : ¬ isD 91 := not_isD (by decide)
    rcases k1 with ⟨rfl, rfl⟩ | ⟨rfl, rfl, rfl⟩ | ⟨rfl, rfl, k1⟩
    · rcases k2 with ⟨rfl, _⟩ | ⟨_, _, k2⟩ | ⟨_, _, k2⟩
      · obtain ⟨rfl, rfl, rfl⟩ := p1 rfl
        obtain ⟨rfl, rfl, rfl⟩ := q1 rfl
        rw [form_def, form_def, if_pos rfl, if_pos rfl] at h
        simp only [List.cons_append, List.cons.injEq, List.append_assoc, true_and, List.nil_append] at h
        clear e1 e2 hc hc' p1 p2 q1 q2 x x'
        have key : ks = ks2 ∧ r = r' := by
          induction ks generalizing ks2 with
          | nil =>
            cases ks2 with
            | nil => simp [Sx.formL] at h; exact ⟨rfl, h⟩
            | cons y s =>
              simp only [Sx.formL, List.nil_append, List.append_assoc] at h
              exact absurd h.symm (form_not_end y _ _)
          | cons y s ihs =>
            cases ks2 with
            | nil =>
              simp only [Sx.formL, List.nil_append, List.append_assoc] at h
              exact absurd h (form_not_end y _ _)
            | cons y' s' =>
              simp only [Sx.formL, List.append_assoc] at h
              obtain ⟨rfl, h3⟩ := ih y List.mem_cons_self y' _ _ (p3 y List.mem_cons_self) (q3 y' List.mem_cons_self) h
              obtain ⟨rfl, h4⟩ := ihs (fun k hk => ih k (List.mem_cons_of_mem _ hk)) s' (fun k hk => p3 k (List.mem_cons_of_mem _ hk)) (fun k hk => q3 k (List.mem_cons_of_mem _ hk)) h3
              exact ⟨rfl, h4⟩
        obtain ⟨rfl, rfl⟩ := key
        exact ⟨rfl, rfl⟩
      · exact absurd k2 (by decide)
      · exact absurd k2 d1
    · rcases k2 with ⟨_, k2⟩ | ⟨rfl, rfl, _⟩ | ⟨_, _, k2⟩
      · exact absurd k2 (by decide)
      · obtain ⟨rfl, _⟩ := p2 rfl
        obtain ⟨rfl, _⟩ := q2 rfl
        rw [form_def, form_def] at h
        simp only [Bool.false_eq_true, if_false, if_true, List.cons_append, List.cons.injEq, List.append_assoc, true_and, List.nil_append] at h
        obtain ⟨rfl, h3⟩ := textL_inj h
        simp only [List.cons.injEq, true_and] at h3
        obtain ⟨rfl, rfl⟩ := textL_inj h3
        exact ⟨rfl, rfl⟩
      · exact absurd k2 d2
    · rcases k2 with ⟨_, k2⟩ | ⟨_, _, k2⟩ | ⟨rfl, rfl, _⟩
      · exact absurd (k2 ▸ k1) d1
      · exact absurd (k2 ▸ k1) d2
      · obtain ⟨rfl, f1⟩ := p2 rfl
        obtain ⟨rfl, f2⟩ := q2 rfl
        obtain rfl := f1 rfl
        obtain rfl := f2 rfl
        rw [form_def, form_def] at h
        simp only [Bool.false_eq_true, if_false, List.nil_append] at h
        obtain ⟨rfl, rfl⟩ := textL_inj h
        exact ⟨rfl, rfl⟩
theorem form_same {s t : Sx} (hs : s.clean = true) (ht : t.clean = true) : (s.form == t.form) = s.same t := by
  rw [Bool.eq_iff_iff, beq_iff_eq, Sx.same_iff]
  exact ⟨fun h => (form_inj s t [] [] hs ht (by rw [h])).1, fun h => by rw [h]⟩
end Go.Proofs.YtkbblhioncecmaaDoor
namespace Go.Proofs.YtkbblhioncecmaaDoor
open Go.RowKit
set_option linter.unusedSimpArgs false
set_option linter.unusedVariables false

/-- what is not great, and holds not more values than an int counts -/
theorem great_no {s : Sx} (h : s.great 0 = false) (hn : s.nodes < 4611686018427387904) : s.wide 0 = false ∧ s.nodes ≤ 2000 := by
  have hw : s.wide 0 = false := by
    by_cases e : s.wide 0 = true
    · rw [great_yes e] at h; cases h
    · simpa using e
  refine ⟨hw, ?_⟩
  rw [great_zero hw, wrap_of _ (by omega)] at h
  have := of_decide_eq_false h
  omega
theorem great_form {s : Sx} (h : s.great 0 = false) (hn : s.nodes < 4611686018427387904) : s.deep ≤ 4611686018427387904 ∧ (s.nodes ≤ 512 → s.form.length ≤ 70368744177664) := by
  obtain ⟨h1, h2⟩ := great_no h hn
  have := deep_wide s 0 h1
  have := form_wide s 0 h1
  exact ⟨by omega, fun _ => by omega⟩
/-- a test, as a letter -/
theorem letter (b : Bool) : ∃ c, c = b := ⟨b, rfl⟩

end Go.Proofs.YtkbblhioncecmaaDoor
namespace Go.Proofs.YtkbblhioncecmaaDoor
open Go.RowKit
set_option linter.unusedSimpArgs false
set_option linter.unusedVariables false

theorem add_str (a b : List UInt8) (h : a.length + b.length ≤ 140737488355328) (w : World) : (binOp .add 9 (.string ⟨a.toArray⟩) (.string ⟨b.toArray⟩)).run Tryd.prog w = .ok (.string ⟨(a ++ b).toArray⟩) w := by
  simp [go_sem]
  try rw [if_neg (by omega)]
  rw [cat_ba]
theorem wide_of (s : Sx) : ∀ m, s.clean = true → s.nodes ≤ 700 → s.form.length ≤ 5000 → s.deep + m ≤ 60 → s.wide m = false := by
  induction s using Sx.ind with
  | h l hh hi da ks ih =>
    intro m hc hn hf hd
    obtain ⟨p1, p2, p3⟩ := clean_parts hc
    have e1 : ∀ x : List UInt8, x.length ≤ (textL x).length := fun x => by simp [textL]; omega
    have hnd : ks.length ≤ Sx.nodesL ks := by
      clear ih hc hn hf hd p1 p2 p3
      induction ks with
      | nil => exact Nat.le_refl _
      | cons k r ihr => have := nodes_pos k; simp only [Sx.nodesL, List.length_cons]; omega
    simp only [Sx.nodes] at hn
    have hlen : hi.length ≤ 5000 ∧ da.length ≤ 5000 ∧ (Sx.formL ks).length ≤ 5000 := by
      rw [form_def] at hf
      have a1 := e1 hi
      have a2 := e1 da
      cases l with
      | true =>
        obtain ⟨_, rfl, rfl⟩ := p1 rfl
        simp only [if_true, List.length_cons, List.length_append, List.length_nil] at hf ⊢
        omega
      | false =>
        obtain ⟨rfl, p4⟩ := p2 rfl
        cases hh with
        | true => simp at hf; simp [Sx.formL]; omega
        | false =>
          obtain rfl := p4 rfl
          simp at hf
          simp [Sx.formL]
          omega
    have hkids : Sx.wideL ks (m + 1) = false := by
      have key : ∀ k ∈ ks, k.wide (m + 1) = false := fun k hk => by
        refine ih k hk (m + 1) (p3 k hk) ?_ ?_ ?_
        · have : k.nodes ≤ Sx.nodesL ks := by
            clear ih hc hn hf hd p1 p2 p3 hlen hnd
            induction ks with
            | nil => cases hk
            | cons a r ihr => rcases List.mem_cons.1 hk with rfl | hk
                              · simp only [Sx.nodesL]; omega
                              · have := ihr hk; simp only [Sx.nodesL]; omega
          omega
        · have := Sx.formL_mem hk; omega
        · have := Sx.deepL_mem hk
          cases l with
          | true => simp only [Sx.deep, if_true] at hd; omega
          | false => obtain ⟨rfl, _⟩ := p2 rfl; cases hk
      clear ih hc hn hf hd p1 p2 p3 hlen hnd
      induction ks with
      | nil => rfl
      | cons a r ihr => simp only [Sx.wideL, key a List.mem_cons_self, ihr (fun k hk => key k (List.mem_cons_of_mem _ hk))]; rfl
    rw [wide_def, decide_eq_false (show ¬ 60 < m by omega), decide_eq_false (show ¬ 700 < ks.length by omega), decide_eq_false (show ¬ 5000 < hi.length by omega), decide_eq_false (show ¬ 5000 < da.length by omega), hkids]
    rfl
theorem may_parts {s : Sx} (h : s.may = true) : s.clean = true ∧ s.nodes ≤ 512 ∧ s.deep ≤ 16 ∧ s.form.length ≤ 4096 := by
  simp only [Sx.may, Bool.and_eq_true, decide_eq_true_eq] at h
  exact ⟨h.1.1.1, h.1.1.2, h.1.2, h.2⟩
theorem lists_wide {ks : List Sx} (hl : ks.length ≤ 20) (h : ∀ k ∈ ks, k.may = true) : (Sx.mk true false [] [] ks).wide 0 = false := by
  have hkids : Sx.wideL ks (0 + 1) = false := by
    have key : ∀ k ∈ ks, k.wide (0 + 1) = false := fun k hk => by
      obtain ⟨h1, h2, h3, h4⟩ := may_parts (h k hk)
      exact wide_of k _ h1 (by omega) (by omega) (by omega)
    clear hl h
    induction ks with
    | nil => rfl
    | cons a r ihr => simp only [Sx.wideL, key a List.mem_cons_self, ihr (fun k hk => key k (List.mem_cons_of_mem _ hk))]; rfl
  rw [wide_def, decide_eq_false (show ¬ 60 < 0 by omega), decide_eq_false (show ¬ 700 < ks.length by omega), hkids]
  rfl
theorem lists_nodes {ks : List Sx} (h : ∀ k ∈ ks, k.may = true) : Sx.nodesL ks ≤ 512 * ks.length := by
  induction ks with
  | nil => simp [Sx.nodesL]
  | cons a r ih =>
    have h1 := (may_parts (h a List.mem_cons_self)).2.1
    have h2 := ih (fun k hk => h k (List.mem_cons_of_mem _ hk))
    simp only [Sx.nodesL, List.length_cons]
    omega

end Go.Proofs.YtkbblhioncecmaaDoor
namespace Go.Proofs.YtkbblhioncecmaaDoor
open Go.RowKit
set_option linter.unusedSimpArgs false
set_option linter.unusedVariables false

end Go.Proofs.YtkbblhioncecmaaDoor

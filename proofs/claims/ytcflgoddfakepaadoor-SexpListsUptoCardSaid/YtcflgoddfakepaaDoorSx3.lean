/- The document's Same: what it computes. -/
import Derived.Test.YtcflgoddfakepaaDoorSx2
namespace Go.Proofs.YtcflgoddfakepaaDoor
open Go.RowKit

theorem wpQ_callS {P : Program} {ops : Array Oper} {W : World} {B : Nat} {Q : Act → Prop} {a : Act} {o : Oper} {rest : List Oper} (hgd : Region.wanted o (yielded ops a.tmps) = true) (f : FuncId) (args : Array Value) (hr : ∀ w, (execOp a.eval o).run P w = .ok (.enter f args) w) (v : Value) (hB : B ≤ W.heap.size)
    (hc : ∀ w, Below B W w → Calls P f args w fun e w' => e = .returned v ∧ Below w.heap.size w w')
    (h : wpQuiet P ops (fun w' => Below B W w') Q rest (a.put o.dst v)) : wpQuiet P ops (fun w' => Below B W w') Q (o :: rest) a :=
  wpQ_plain hgd ⟨v, fun w hw => by
    unfold Oper.quietAt
    rw [hr w]
    exact ⟨rfl, (hc w hw).mono fun e w'' ⟨he, hb⟩ => ⟨he, hw.trans (hb.mono (by have := hw.size; omega))⟩⟩, h⟩

theorem run_load_sv {o : Oper} {a : Act} {w : World} (x : Operand) (ho : o.op = .load 25 x) (b k : Nat) (hx : a.eval x = .pointer (some ⟨b, k, none⟩)) (v : SV) (hc : w.rangeAt b k v.cells.toList) : (execOp a.eval o).run Tryd.prog w = .ok (.value v.val) w := by
  unfold execOp
  simp only [ho, hx, Instr.loadAt, Instr.sureAddr, Sem.run_bind, Sem.run_pure, Result.andThen_ok, run_loadVar_mid w b k 25 _ _ hc Tryd.underlying25 rfl (by kernel_rfl)]
  rfl
theorem RowAt.rangeA {w : World} {b o n c : Nat} {K : Nat → SV} (h : RowAt w (some ⟨b, o, none⟩) n c K) {i : Nat} (hi : i < n) : w.rangeAt b (o + i * 5) (K i).cells.toList := by
  obtain ⟨b', o', e, h⟩ := h.range hi
  cases e
  exact h
theorem RowAt.rangeB {w : World} {a : Option Addr} {n c : Nat} {K : Nat → SV} (h : RowAt w a n c K) {i : Nat} (hi : i < n) : ∃ b o, a = some ⟨b, o, none⟩ ∧ True := by
  obtain ⟨b', o', e, h⟩ := h.range hi
  exact ⟨b', o', e, trivial⟩

mutual
/-- the same trees? -/
def Sx.same : Sx → Sx → Bool
  | .mk l h hi da ks, .mk l2 h2 hi2 da2 ks2 => l == l2 && h == h2 && hi == hi2 && da == da2 && Sx.sameL ks ks2
def Sx.sameL : List Sx → List Sx → Bool
  | [], [] => true
  | a :: r, b :: s => a.same b && Sx.sameL r s
  | _, _ => false
end
theorem same_def (l h : Bool) (hi da : List UInt8) (ks : List Sx) (l2 h2 : Bool) (hi2 da2 : List UInt8) (ks2 : List Sx) : (Sx.mk l h hi da ks).same (.mk l2 h2 hi2 da2 ks2) = (l == l2 && h == h2 && hi == hi2 && da == da2 && Sx.sameL ks ks2) := by simp only [Sx.same]
theorem sameL_len {a b : List Sx} (h : a.length ≠ b.length) : Sx.sameL a b = false := by
  induction a generalizing b with
  | nil => cases b with
    | nil => exact absurd rfl h
    | cons y s => rfl
  | cons x r ih => cases b with
    | nil => rfl
    | cons y s => simp only [Sx.sameL]; rw [ih (fun e => h (by simp [e]))]; simp
theorem sameL_snoc {a b : List Sx} (k : Nat) (h : k < a.length) (h' : k < b.length) : Sx.sameL (a.take (k + 1)) (b.take (k + 1)) = (Sx.sameL (a.take k) (b.take k) && a[k].same b[k]) := by
  induction a generalizing b k with
  | nil => simp at h
  | cons x r ih =>
    cases b with
    | nil => simp at h'
    | cons y s =>
      cases k with
      | zero => simp [Sx.sameL]
      | succ k => simp only [List.take_succ_cons, Sx.sameL, List.getElem_cons_succ]; rw [ih k (by simpa using h) (by simpa using h'), Bool.and_assoc]
theorem sameL_no {a b : List Sx} (k : Nat) (h : k < a.length) (h' : k < b.length) (hk : a[k].same b[k] = false) : Sx.sameL a b = false := by
  induction a generalizing b k with
  | nil => simp at h
  | cons x r ih =>
    cases b with
    | nil => simp at h'
    | cons y s =>
      cases k with
      | zero => simp only [List.getElem_cons_zero] at hk; simp [Sx.sameL, hk]
      | succ k => simp only [Sx.sameL, ih k (by simpa using h) (by simpa using h') (by simpa using hk), Bool.and_false]
theorem Sx.same_iff (s : Sx) : ∀ t, s.same t = true ↔ s = t := by
  induction s using Sx.ind with
  | h l hh hi da ks ih =>
    intro t
    obtain ⟨l2, h2, hi2, da2, ks2⟩ := t
    rw [same_def]
    have key : Sx.sameL ks ks2 = true ↔ ks = ks2 := by
      clear l hh hi da l2 h2 hi2 da2
      induction ks generalizing ks2 with
      | nil => cases ks2 <;> simp [Sx.sameL]
      | cons x r ihr =>
        cases ks2 with
        | nil => simp [Sx.sameL]
        | cons y s =>
          simp only [Sx.sameL, Bool.and_eq_true, ih x List.mem_cons_self y, ihr (fun k hk => ih k (List.mem_cons_of_mem _ hk)) s, List.cons.injEq]
    simp only [Bool.and_eq_true, beq_iff_eq, key, Sx.mk.injEq]
    constructor
    · rintro ⟨⟨⟨⟨rfl, rfl⟩, rfl⟩, rfl⟩, rfl⟩; exact ⟨rfl, rfl, rfl, rfl, rfl⟩
    · rintro ⟨rfl, rfl, rfl, rfl, rfl⟩; exact ⟨⟨⟨⟨rfl, rfl⟩, rfl⟩, rfl⟩, rfl⟩
theorem Sx.same_refl (s : Sx) : s.same s = true := (s.same_iff s).2 rfl

set_option maxHeartbeats 4000000 in
set_option maxRecDepth 100000 in
theorem refSame_any (s : Sx) : ∀ (t : Sx) (v vb : SV) (w : World), Rd w v s → Rd w vb t → Calls Tryd.prog 14 #[v.val, vb.val] w fun e w' => e = .returned (.bool (s.same t)) ∧ Below w.heap.size w w' := by
  induction s using Sx.ind with
  | h l hh hi da ks ih =>
  intro t v vb w hr hrb
  obtain ⟨lb, hhb, hib, dab, ksb⟩ := t
  have IH := Lib.hid ih
  clear ih
  have HRR := Lib.hid hr
  obtain ⟨hvl, hvh, hs1, hs2, hn, hnc, hcm, K, hrow, hk⟩ := hr.parts
  obtain ⟨vl, vh, a1, n1, k1, a2, n2, k2, a3, n3, k3⟩ := v
  dsimp only at hn hnc hcm hrow hk hvl hvh hs1 hs2
  obtain rfl : vl = l := hvl
  obtain rfl : vh = hh := hvh
  replace hn : n3 = ks.length := hn
  replace hs1 : Sl w a1 n1 k1 hi := hs1
  replace hs2 : Sl w a2 n2 k2 da := hs2
  replace hk : ∀ i (hi : i < ks.length), RdI (fun _ => True) w (K i) ks[i] := hk
  have HK := Lib.hid hk
  have HR := Lib.hid hrow
  have HS1 := Lib.hid hs1
  have HS2 := Lib.hid hs2
  have HN3 := Lib.hid hn
  clear hk hrow hr hs1 hs2 hn
  unfold maxLen at hcm
  have HRRb := Lib.hid hrb
  obtain ⟨hvl, hvh, hs1, hs2, hn, hncb, hcmb, Kb, hrow, hk⟩ := hrb.parts
  obtain ⟨vlb, vhb, a1b, n1b, k1b, a2b, n2b, k2b, a3b, n3b, k3b⟩ := vb
  dsimp only at hn hncb hcmb hrow hk hvl hvh hs1 hs2
  obtain rfl : vlb = lb := hvl
  obtain rfl : vhb = hhb := hvh
  replace hn : n3b = ksb.length := hn
  replace hs1 : Sl w a1b n1b k1b hib := hs1
  replace hs2 : Sl w a2b n2b k2b dab := hs2
  replace hk : ∀ i (hi : i < ksb.length), RdI (fun _ => True) w (Kb i) ksb[i] := hk
  have HKb := Lib.hid hk
  have HRb := Lib.hid hrow
  have HS1b := Lib.hid hs1
  have HS2b := Lib.hid hs2
  have HN3b := Lib.hid hn
  clear hk hrow hrb hs1 hs2 hn
  unfold maxLen at hcmb
  by_cases e0 : vl = vlb
  case neg =>
    have HQ := Lib.hid e0
    have hb0 : Below w.heap.size w ((w.alloc (.cells #[.bool vl, .bool vh, .slice a1 n1 k1, .slice a2 n2 k2, .slice a3 n3 k3] 25)).alloc (.cells #[.bool vlb, .bool vhb, .slice a1b n1b k1b, .slice a2b n2b k2b, .slice a3b n3b k3b] 25)) := ((Below.refl _ _).alloc (Nat.le_refl _) _).alloc (by simp) _
    have A0 : Box ((w.alloc (.cells #[.bool vl, .bool vh, .slice a1 n1 k1, .slice a2 n2 k2, .slice a3 n3 k3] 25)).alloc (.cells #[.bool vlb, .bool vhb, .slice a1b n1b k1b, .slice a2b n2b k2b, .slice a3b n3b k3b] 25)) w.heap.size 25 #[.bool vl, .bool vh, .slice a1 n1 k1, .slice a2 n2 k2, .slice a3 n3 k3] := (Box.new _ _ _).alloc _
    have B0 : Box ((w.alloc (.cells #[.bool vl, .bool vh, .slice a1 n1 k1, .slice a2 n2 k2, .slice a3 n3 k3] 25)).alloc (.cells #[.bool vlb, .bool vhb, .slice a1b n1b k1b, .slice a2b n2b k2b, .slice a3b n3b k3b] 25)) (w.heap.size + 1) 25 #[.bool vlb, .bool vhb, .slice a1b n1b k1b, .slice a2b n2b k2b, .slice a3b n3b k3b] := by
      have := Box.new (w.alloc (.cells #[.bool vl, .bool vh, .slice a1 n1 k1, .slice a2 n2 k2, .slice a3 n3 k3] 25)) 25 #[.bool vlb, .bool vhb, .slice a1b n1b k1b, .slice a2b n2b k2b, .slice a3b n3b k3b]
      simpa using this
    have x0 := A0.cell 0 rfl
    have x1 := A0.cell 1 rfl
    have x2 := A0.cell 2 rfl
    have x3 := A0.cell 3 rfl
    have x4 := A0.cell 4 rfl
    have y0 := B0.cell 0 rfl
    have y1 := B0.cell 1 rfl
    have y2 := B0.cell 2 rfl
    have y3 := B0.cell 3 rfl
    have y4 := B0.cell 4 rfl
    have c1 := conv_sl (HS1.out.after hb0)
    have c2 := conv_sl (HS2.out.after hb0)
    have d1 := conv_sl (HS1b.out.after hb0)
    have d2 := conv_sl (HS2b.out.after hb0)
    show Calls _ _ #[.agg #[.bool vl, .bool vh, .slice a1 n1 k1, .slice a2 n2 k2, .slice a3 n3 k3], .agg #[.bool vlb, .bool vhb, .slice a1b n1b k1b, .slice a2b n2b k2b, .slice a3b n3b k3b]] _ _
    go_enter Tryd.func14, Tryd.ntmps14
    go_wp2_with fail
    go_ret
    exact ⟨by rw [same_def]; simp [HQ.out], hb0⟩
  subst e0
  by_cases e1 : vh = vhb
  case neg =>
    have HQ := Lib.hid e1
    have hb0 : Below w.heap.size w ((w.alloc (.cells #[.bool vl, .bool vh, .slice a1 n1 k1, .slice a2 n2 k2, .slice a3 n3 k3] 25)).alloc (.cells #[.bool vl, .bool vhb, .slice a1b n1b k1b, .slice a2b n2b k2b, .slice a3b n3b k3b] 25)) := ((Below.refl _ _).alloc (Nat.le_refl _) _).alloc (by simp) _
    have A0 : Box ((w.alloc (.cells #[.bool vl, .bool vh, .slice a1 n1 k1, .slice a2 n2 k2, .slice a3 n3 k3] 25)).alloc (.cells #[.bool vl, .bool vhb, .slice a1b n1b k1b, .slice a2b n2b k2b, .slice a3b n3b k3b] 25)) w.heap.size 25 #[.bool vl, .bool vh, .slice a1 n1 k1, .slice a2 n2 k2, .slice a3 n3 k3] := (Box.new _ _ _).alloc _
    have B0 : Box ((w.alloc (.cells #[.bool vl, .bool vh, .slice a1 n1 k1, .slice a2 n2 k2, .slice a3 n3 k3] 25)).alloc (.cells #[.bool vl, .bool vhb, .slice a1b n1b k1b, .slice a2b n2b k2b, .slice a3b n3b k3b] 25)) (w.heap.size + 1) 25 #[.bool vl, .bool vhb, .slice a1b n1b k1b, .slice a2b n2b k2b, .slice a3b n3b k3b] := by
      have := Box.new (w.alloc (.cells #[.bool vl, .bool vh, .slice a1 n1 k1, .slice a2 n2 k2, .slice a3 n3 k3] 25)) 25 #[.bool vl, .bool vhb, .slice a1b n1b k1b, .slice a2b n2b k2b, .slice a3b n3b k3b]
      simpa using this
    have x0 := A0.cell 0 rfl
    have x1 := A0.cell 1 rfl
    have x2 := A0.cell 2 rfl
    have x3 := A0.cell 3 rfl
    have x4 := A0.cell 4 rfl
    have y0 := B0.cell 0 rfl
    have y1 := B0.cell 1 rfl
    have y2 := B0.cell 2 rfl
    have y3 := B0.cell 3 rfl
    have y4 := B0.cell 4 rfl
    have c1 := conv_sl (HS1.out.after hb0)
    have c2 := conv_sl (HS2.out.after hb0)
    have d1 := conv_sl (HS1b.out.after hb0)
    have d2 := conv_sl (HS2b.out.after hb0)
    show Calls _ _ #[.agg #[.bool vl, .bool vh, .slice a1 n1 k1, .slice a2 n2 k2, .slice a3 n3 k3], .agg #[.bool vl, .bool vhb, .slice a1b n1b k1b, .slice a2b n2b k2b, .slice a3b n3b k3b]] _ _
    go_enter Tryd.func14, Tryd.ntmps14
    go_wp2_with fail
    go_ret
    exact ⟨by rw [same_def]; simp [HQ.out], hb0⟩
  subst e1
  by_cases e2 : hi = hib
  case neg =>
    have HQ := Lib.hid e2
    have q2 : (hi == hib) = false := by simpa using e2
    clear e2
    have hb0 : Below w.heap.size w ((w.alloc (.cells #[.bool vl, .bool vh, .slice a1 n1 k1, .slice a2 n2 k2, .slice a3 n3 k3] 25)).alloc (.cells #[.bool vl, .bool vh, .slice a1b n1b k1b, .slice a2b n2b k2b, .slice a3b n3b k3b] 25)) := ((Below.refl _ _).alloc (Nat.le_refl _) _).alloc (by simp) _
    have A0 : Box ((w.alloc (.cells #[.bool vl, .bool vh, .slice a1 n1 k1, .slice a2 n2 k2, .slice a3 n3 k3] 25)).alloc (.cells #[.bool vl, .bool vh, .slice a1b n1b k1b, .slice a2b n2b k2b, .slice a3b n3b k3b] 25)) w.heap.size 25 #[.bool vl, .bool vh, .slice a1 n1 k1, .slice a2 n2 k2, .slice a3 n3 k3] := (Box.new _ _ _).alloc _
    have B0 : Box ((w.alloc (.cells #[.bool vl, .bool vh, .slice a1 n1 k1, .slice a2 n2 k2, .slice a3 n3 k3] 25)).alloc (.cells #[.bool vl, .bool vh, .slice a1b n1b k1b, .slice a2b n2b k2b, .slice a3b n3b k3b] 25)) (w.heap.size + 1) 25 #[.bool vl, .bool vh, .slice a1b n1b k1b, .slice a2b n2b k2b, .slice a3b n3b k3b] := by
      have := Box.new (w.alloc (.cells #[.bool vl, .bool vh, .slice a1 n1 k1, .slice a2 n2 k2, .slice a3 n3 k3] 25)) 25 #[.bool vl, .bool vh, .slice a1b n1b k1b, .slice a2b n2b k2b, .slice a3b n3b k3b]
      simpa using this
    have x0 := A0.cell 0 rfl
    have x1 := A0.cell 1 rfl
    have x2 := A0.cell 2 rfl
    have x3 := A0.cell 3 rfl
    have x4 := A0.cell 4 rfl
    have y0 := B0.cell 0 rfl
    have y1 := B0.cell 1 rfl
    have y2 := B0.cell 2 rfl
    have y3 := B0.cell 3 rfl
    have y4 := B0.cell 4 rfl
    have c1 := conv_sl (HS1.out.after hb0)
    have c2 := conv_sl (HS2.out.after hb0)
    have d1 := conv_sl (HS1b.out.after hb0)
    have d2 := conv_sl (HS2b.out.after hb0)
    show Calls _ _ #[.agg #[.bool vl, .bool vh, .slice a1 n1 k1, .slice a2 n2 k2, .slice a3 n3 k3], .agg #[.bool vl, .bool vh, .slice a1b n1b k1b, .slice a2b n2b k2b, .slice a3b n3b k3b]] _ _
    go_enter Tryd.func14, Tryd.ntmps14
    go_wp2_with fail
    go_ret
    exact ⟨by rw [same_def]; simp [HQ.out], hb0⟩
  subst e2
  by_cases e3 : da = dab
  case neg =>
    have HQ := Lib.hid e3
    have q3 : (da == dab) = false := by simpa using e3
    clear e3
    have hb0 : Below w.heap.size w ((w.alloc (.cells #[.bool vl, .bool vh, .slice a1 n1 k1, .slice a2 n2 k2, .slice a3 n3 k3] 25)).alloc (.cells #[.bool vl, .bool vh, .slice a1b n1b k1b, .slice a2b n2b k2b, .slice a3b n3b k3b] 25)) := ((Below.refl _ _).alloc (Nat.le_refl _) _).alloc (by simp) _
    have A0 : Box ((w.alloc (.cells #[.bool vl, .bool vh, .slice a1 n1 k1, .slice a2 n2 k2, .slice a3 n3 k3] 25)).alloc (.cells #[.bool vl, .bool vh, .slice a1b n1b k1b, .slice a2b n2b k2b, .slice a3b n3b k3b] 25)) w.heap.size 25 #[.bool vl, .bool vh, .slice a1 n1 k1, .slice a2 n2 k2, .slice a3 n3 k3] := (Box.new _ _ _).alloc _
    have B0 : Box ((w.alloc (.cells #[.bool vl, .bool vh, .slice a1 n1 k1, .slice a2 n2 k2, .slice a3 n3 k3] 25)).alloc (.cells #[.bool vl, .bool vh, .slice a1b n1b k1b, .slice a2b n2b k2b, .slice a3b n3b k3b] 25)) (w.heap.size + 1) 25 #[.bool vl, .bool vh, .slice a1b n1b k1b, .slice a2b n2b k2b, .slice a3b n3b k3b] := by
      have := Box.new (w.alloc (.cells #[.bool vl, .bool vh, .slice a1 n1 k1, .slice a2 n2 k2, .slice a3 n3 k3] 25)) 25 #[.bool vl, .bool vh, .slice a1b n1b k1b, .slice a2b n2b k2b, .slice a3b n3b k3b]
      simpa using this
    have x0 := A0.cell 0 rfl
    have x1 := A0.cell 1 rfl
    have x2 := A0.cell 2 rfl
    have x3 := A0.cell 3 rfl
    have x4 := A0.cell 4 rfl
    have y0 := B0.cell 0 rfl
    have y1 := B0.cell 1 rfl
    have y2 := B0.cell 2 rfl
    have y3 := B0.cell 3 rfl
    have y4 := B0.cell 4 rfl
    have c1 := conv_sl (HS1.out.after hb0)
    have c2 := conv_sl (HS2.out.after hb0)
    have d1 := conv_sl (HS1b.out.after hb0)
    have d2 := conv_sl (HS2b.out.after hb0)
    show Calls _ _ #[.agg #[.bool vl, .bool vh, .slice a1 n1 k1, .slice a2 n2 k2, .slice a3 n3 k3], .agg #[.bool vl, .bool vh, .slice a1b n1b k1b, .slice a2b n2b k2b, .slice a3b n3b k3b]] _ _
    go_enter Tryd.func14, Tryd.ntmps14
    go_wp2_with fail
    go_ret
    exact ⟨by rw [same_def]; simp [HQ.out], hb0⟩
  subst e3
  by_cases e4 : n3 = n3b
  case neg =>
    have HQ : Hid (Sx.sameL ks ksb = false) := Lib.hid (sameL_len (by have := HN3.out; have := HN3b.out; omega))
    have q4 : ((n3 : Int) == n3b) = false := by simp; omega
    have q5 : ((n3 : Int) != n3b) = true := by simp; omega
    clear e4
    have hb0 : Below w.heap.size w ((w.alloc (.cells #[.bool vl, .bool vh, .slice a1 n1 k1, .slice a2 n2 k2, .slice a3 n3 k3] 25)).alloc (.cells #[.bool vl, .bool vh, .slice a1b n1b k1b, .slice a2b n2b k2b, .slice a3b n3b k3b] 25)) := ((Below.refl _ _).alloc (Nat.le_refl _) _).alloc (by simp) _
    have A0 : Box ((w.alloc (.cells #[.bool vl, .bool vh, .slice a1 n1 k1, .slice a2 n2 k2, .slice a3 n3 k3] 25)).alloc (.cells #[.bool vl, .bool vh, .slice a1b n1b k1b, .slice a2b n2b k2b, .slice a3b n3b k3b] 25)) w.heap.size 25 #[.bool vl, .bool vh, .slice a1 n1 k1, .slice a2 n2 k2, .slice a3 n3 k3] := (Box.new _ _ _).alloc _
    have B0 : Box ((w.alloc (.cells #[.bool vl, .bool vh, .slice a1 n1 k1, .slice a2 n2 k2, .slice a3 n3 k3] 25)).alloc (.cells #[.bool vl, .bool vh, .slice a1b n1b k1b, .slice a2b n2b k2b, .slice a3b n3b k3b] 25)) (w.heap.size + 1) 25 #[.bool vl, .bool vh, .slice a1b n1b k1b, .slice a2b n2b k2b, .slice a3b n3b k3b] := by
      have := Box.new (w.alloc (.cells #[.bool vl, .bool vh, .slice a1 n1 k1, .slice a2 n2 k2, .slice a3 n3 k3] 25)) 25 #[.bool vl, .bool vh, .slice a1b n1b k1b, .slice a2b n2b k2b, .slice a3b n3b k3b]
      simpa using this
    have x0 := A0.cell 0 rfl
    have x1 := A0.cell 1 rfl
    have x2 := A0.cell 2 rfl
    have x3 := A0.cell 3 rfl
    have x4 := A0.cell 4 rfl
    have y0 := B0.cell 0 rfl
    have y1 := B0.cell 1 rfl
    have y2 := B0.cell 2 rfl
    have y3 := B0.cell 3 rfl
    have y4 := B0.cell 4 rfl
    have c1 := conv_sl (HS1.out.after hb0)
    have c2 := conv_sl (HS2.out.after hb0)
    have d1 := conv_sl (HS1b.out.after hb0)
    have d2 := conv_sl (HS2b.out.after hb0)
    show Calls _ _ #[.agg #[.bool vl, .bool vh, .slice a1 n1 k1, .slice a2 n2 k2, .slice a3 n3 k3], .agg #[.bool vl, .bool vh, .slice a1b n1b k1b, .slice a2b n2b k2b, .slice a3b n3b k3b]] _ _
    go_enter Tryd.func14, Tryd.ntmps14
    go_wp2_with fail
    go_ret
    exact ⟨by rw [same_def]; simp [HQ.out], hb0⟩
  subst e4
  have hb0 : Below w.heap.size w ((w.alloc (.cells #[.bool vl, .bool vh, .slice a1 n1 k1, .slice a2 n2 k2, .slice a3 n3 k3] 25)).alloc (.cells #[.bool vl, .bool vh, .slice a1b n1b k1b, .slice a2b n2b k2b, .slice a3b n3 k3b] 25)) := ((Below.refl _ _).alloc (Nat.le_refl _) _).alloc (by simp) _
  have A0 : Box ((w.alloc (.cells #[.bool vl, .bool vh, .slice a1 n1 k1, .slice a2 n2 k2, .slice a3 n3 k3] 25)).alloc (.cells #[.bool vl, .bool vh, .slice a1b n1b k1b, .slice a2b n2b k2b, .slice a3b n3 k3b] 25)) w.heap.size 25 #[.bool vl, .bool vh, .slice a1 n1 k1, .slice a2 n2 k2, .slice a3 n3 k3] := (Box.new _ _ _).alloc _
  have B0 : Box ((w.alloc (.cells #[.bool vl, .bool vh, .slice a1 n1 k1, .slice a2 n2 k2, .slice a3 n3 k3] 25)).alloc (.cells #[.bool vl, .bool vh, .slice a1b n1b k1b, .slice a2b n2b k2b, .slice a3b n3 k3b] 25)) (w.heap.size + 1) 25 #[.bool vl, .bool vh, .slice a1b n1b k1b, .slice a2b n2b k2b, .slice a3b n3 k3b] := by
    have := Box.new (w.alloc (.cells #[.bool vl, .bool vh, .slice a1 n1 k1, .slice a2 n2 k2, .slice a3 n3 k3] 25)) 25 #[.bool vl, .bool vh, .slice a1b n1b k1b, .slice a2b n2b k2b, .slice a3b n3 k3b]
    simpa using this
  have x0 := A0.cell 0 rfl
  have x1 := A0.cell 1 rfl
  have x2 := A0.cell 2 rfl
  have x3 := A0.cell 3 rfl
  have x4 := A0.cell 4 rfl
  have y0 := B0.cell 0 rfl
  have y1 := B0.cell 1 rfl
  have y2 := B0.cell 2 rfl
  have y3 := B0.cell 3 rfl
  have y4 := B0.cell 4 rfl
  have c1 := conv_sl (HS1.out.after hb0)
  have c2 := conv_sl (HS2.out.after hb0)
  have d1 := conv_sl (HS1b.out.after hb0)
  have d2 := conv_sl (HS2b.out.after hb0)
  show Calls _ _ #[.agg #[.bool vl, .bool vh, .slice a1 n1 k1, .slice a2 n2 k2, .slice a3 n3 k3], .agg #[.bool vl, .bool vh, .slice a1b n1b k1b, .slice a2b n2b k2b, .slice a3b n3 k3b]] _ _
  go_enter Tryd.func14, Tryd.ntmps14
  go_wp2_with fail
  go_loopw [5, 48] (fun i k wr => ∃ n : Nat, n ≤ n3 ∧ k = .int .i64 n ∧ Sx.sameL (ks.take n) (ksb.take n) = true ∧ Below w.heap.size w wr ∧ Box wr w.heap.size 25 #[.bool vl, .bool vh, .slice a1 n1 k1, .slice a2 n2 k2, .slice a3 n3 k3] ∧ Box wr (w.heap.size + 1) 25 #[.bool vl, .bool vh, .slice a1b n1b k1b, .slice a2b n2b k2b, .slice a3b n3 k3b]) (fun _ k _ => n3 - (intOf k).toNat)
  case atStart => exact ⟨0, Nat.zero_le _, rfl, rfl, hb0, A0, B0⟩
  case round =>
    obtain ⟨n, hnl, rfl, hcl, hb, hA, hB⟩ := hrel
    have HC := Lib.hid hcl
    clear x0 x1 x2 x3 x4 y0 y1 y2 y3 y4 c1 c2 d1 d2 hcl A0 B0
    by_cases hlt : n < n3
    · obtain ⟨b, o, rfl, hR⟩ := HR.out.rangeB hlt
      obtain ⟨bb, ob, rfl, hRb⟩ := HRb.out.rangeB hlt
      have g1 : n < ks.length := by have := HN3.out; omega
      have g2 : n < ksb.length := by have := HN3b.out; omega
      obtain ⟨ck, hck⟩ : ∃ ck, ck = ks[n].same ksb[n] := ⟨_, rfl⟩
      have HCK := Lib.hid hck
      have IH2 : Hid (∀ w', Below w.heap.size w w' → Calls Tryd.prog 14 #[(K n).val, (Kb n).val] w' fun e w'' => e = .returned (.bool ck) ∧ Below w'.heap.size w' w'') :=
        Lib.hid fun w' hw => by rw [hck]; exact IH.out _ (List.getElem_mem g1) _ _ _ _ ((HK.out n g1).after hw) ((HKb.out n g2).after hw)
      clear hck
      go_upto_region 6 with fail
      refine wp_region_made wr.heap.size wr rfl (by kernel_rfl) (Below.refl _ _) ?_
      refine wpQ_run rfl (.pointer (some ⟨w.heap.size, 4, none⟩)) (fun w hw => by simp [go_sem]) ?_
      simp only [Act.put, List.setIfInBounds_toArray, List.set_cons_zero, List.set_cons_succ]
      refine wpQ_run rfl (.slice (some ⟨b, o, none⟩) n3 k3) (fun w' hw => by simp [go_sem, (hA.after hw).cell 4 rfl]) ?_
      simp only [Act.put, List.setIfInBounds_toArray, List.set_cons_zero, List.set_cons_succ]
      refine wpQ_run rfl (.int .i64 n) (fun w hw => by simp [go_sem]) ?_
      simp only [Act.put, List.setIfInBounds_toArray, List.set_cons_zero, List.set_cons_succ]
      refine wpQ_run rfl (.pointer (some ⟨b, o + n * 5, none⟩)) (fun w hw => by simp [go_sem, hlt]) ?_
      simp only [Act.put, List.setIfInBounds_toArray, List.set_cons_zero, List.set_cons_succ]
      refine wpQ_run rfl (K n).val (fun w' hw => run_load_sv _ rfl _ _ (by simp [go_sem]) _ ((HR.out.after (hb.trans (hw.mono hb.size))).rangeA hlt)) ?_
      simp only [Act.put, List.setIfInBounds_toArray, List.set_cons_zero, List.set_cons_succ]
      refine wpQ_run rfl (.pointer (some ⟨w.heap.size + 1, 4, none⟩)) (fun w hw => by simp [go_sem]) ?_
      simp only [Act.put, List.setIfInBounds_toArray, List.set_cons_zero, List.set_cons_succ]
      refine wpQ_run rfl (.slice (some ⟨bb, ob, none⟩) n3 k3b) (fun w' hw => by simp [go_sem, (hB.after hw).cell 4 rfl]) ?_
      simp only [Act.put, List.setIfInBounds_toArray, List.set_cons_zero, List.set_cons_succ]
      refine wpQ_run rfl (.int .i64 n) (fun w hw => by simp [go_sem]) ?_
      simp only [Act.put, List.setIfInBounds_toArray, List.set_cons_zero, List.set_cons_succ]
      refine wpQ_run rfl (.pointer (some ⟨bb, ob + n * 5, none⟩)) (fun w hw => by simp [go_sem, hlt]) ?_
      simp only [Act.put, List.setIfInBounds_toArray, List.set_cons_zero, List.set_cons_succ]
      refine wpQ_run rfl (Kb n).val (fun w' hw => run_load_sv _ rfl _ _ (by simp [go_sem]) _ ((HRb.out.after (hb.trans (hw.mono hb.size))).rangeA hlt)) ?_
      simp only [Act.put, List.setIfInBounds_toArray, List.set_cons_zero, List.set_cons_succ]
      refine wpQ_callS rfl 14 #[(K n).val, (Kb n).val] (fun w => by simp [go_sem]) (.bool ck) (Nat.le_refl _) (fun w' hw => IH2.out w' (hb.trans (hw.mono hb.size))) ?_
      simp only [Act.put, List.setIfInBounds_toArray, List.set_cons_zero, List.set_cons_succ]
      refine wpQ_run rfl (.bool (!ck)) (fun w hw => by simp [go_sem]) ?_
      simp only [Act.put, List.setIfInBounds_toArray, List.set_cons_zero, List.set_cons_succ]
      intro w1 hb1
      have HX := hb.trans (hb1.mono hb.size)
      have hA1 := hA.after hb1
      have hB1 := hB.after hb1
      cases ck with
      | false =>
        go_wp2_with fail
        go_ret
        exact ⟨by rw [same_def, sameL_no n g1 g2 HCK.out.symm]; simp, HX⟩
      | true =>
        go_wp2_with fail
        go_roundw
        case rel => exact ⟨n + 1, by omega, by go_num, by rw [sameL_snoc n g1 g2, HC.out, ← HCK.out]; rfl, HX, hA1, hB1⟩
        case measure => simp [intOf]; omega
    · go_wp2_with fail
      go_ret
      have hnn : n = n3 := by omega
      subst hnn
      have h5 := HC.out
      rw [List.take_of_length_le (by have := HN3.out; omega), List.take_of_length_le (by have := HN3b.out; omega)] at h5
      exact ⟨by rw [same_def, h5]; simp, hb⟩

end Go.Proofs.YtcflgoddfakepaaDoor

import Derived.Test.YtmmkaclmgnpplaaGreatDoorMz5
import Derived.Deep.LoopGhost
set_option maxRecDepth 100000
set_option maxHeartbeats 64000000
set_option linter.unusedSimpArgs false
set_option linter.unusedVariables false
namespace Go.Proofs.YtmmkaclmgnpplaaGreatDoor
open Go.RowKit
def TabX (S : Nat → Prop) (w : World) : Prop := ∀ w', But S w w' → Tab w'
theorem TabX.but {S : Nat → Prop} {w w1 : World} (h : TabX S w) (hb : But S w w1) : TabX S w1 := fun w' hb' => h w' (hb.trans hb' fun k hk => .inl hk)
theorem TabX.tab {S : Nat → Prop} {w : World} (h : TabX S w) : Tab w := h w (But.refl _ _)
theorem TabX.new {S : Nat → Prop} {w w1 : World} (h : Tab w) (hb : Below w.heap.size w w1) (hS : ∀ k, S k → w.heap.size ≤ k) : TabX S w1 := fun w' hb' => h.after (But.after hb hb' hb.size hS)
def Sx.okR (s : Sx) (d N : Nat) : Bool := s.clean && decide (N + s.nodes ≤ 512) && decide (s.deep + d ≤ 17)
theorem tZ (s : Sx) : 1 ≤ s.nodes := by obtain ⟨l, h, hi, da, ks⟩ := s; simp only [Sx.nodes]; omega
theorem pO {s : Sx} {d N : Nat} (h : 512 ≤ N) : s.okR d N = false := by
 have := tZ s
 unfold Sx.okR
 rw [decide_eq_false (show ¬ N + s.nodes ≤ 512 by omega)]
 simp
theorem eN {s : Sx} {d N : Nat} (h : s.clean = false) : s.okR d N = false := by unfold Sx.okR; rw [h]; rfl
theorem wc {h : Bool} {hi da : List UInt8} {ks : List Sx} {d N : Nat} (hd : 16 < d) : (Sx.mk true h hi da ks).okR d N = false := by
 unfold Sx.okR
 rw [decide_eq_false (show ¬ (Sx.mk true h hi da ks).deep + d ≤ 17 by simp only [Sx.deep, if_true]; omega)]
 simp
theorem pP {h : Bool} {hi da : List UInt8} {d N : Nat} (hN : N < 512) (hd : d ≤ 17) (hh : headOk false h hi.length da.length 0 = true) : (Sx.mk false h hi da []).okR d N = true := by
 unfold Sx.okR
 rw [bF, show ([] : List Sx).length = 0 from rfl, hh, decide_eq_true (show N + (Sx.mk false h hi da []).nodes ≤ 512 by simp only [Sx.nodes, Sx.nodesL]; omega), decide_eq_true (show (Sx.mk false h hi da []).deep + d ≤ 17 by simp [Sx.deep]; omega)]
 rfl
theorem pQ {ks : List Sx} (k : Nat) (h : k < ks.length) : Sx.nodesL (ks.take k) + ks[k].nodes ≤ Sx.nodesL ks := by
 have := Sx.nodesL_append (ks.take (k + 1)) (ks.drop (k + 1))
 rw [List.take_append_drop, Sx.nodesL_snoc ks k h] at this
 omega
theorem xZ {h : Bool} {hi da : List UInt8} {ks : List Sx} {d N : Nat} (k : Nat) (hk : k < ks.length) (h0 : ks[k].okR (d + 1) (N + 1 + Sx.nodesL (ks.take k)) = false) : (Sx.mk true h hi da ks).okR d N = false := by
 have h1 := pQ k hk
 have h2 := Sx.deepL_mem (List.getElem_mem hk)
 unfold Sx.okR at h0 ⊢
 simp only [Bool.and_eq_false_iff, decide_eq_false_iff_not] at h0 ⊢
 simp only [Sx.nodes, Sx.deep, if_true]
 rcases h0 with (h0 | h0) | h0
 ·exact .inl (.inl (by rw [bF, Sx.cleanL_no (List.getElem_mem hk) h0]; simp))
 ·exact .inl (.inr (by omega))
 ·exact .inr (by omega)
theorem wb {hi da : List UInt8} {ks : List Sx} {d N : Nat} (hd : d ≤ 16) (hN : N < 512) (hh : headOk true false hi.length da.length ks.length = true) (ha : Sx.cleanL ks = true ∧ Sx.deepL ks + d ≤ 16 ∧ (N + 1 + Sx.nodesL ks ≤ 512)) : (Sx.mk true false hi da ks).okR d N = true := by
 unfold Sx.okR
 rw [bF, hh, ha.1, decide_eq_true (show N + (Sx.mk true false hi da ks).nodes ≤ 512 by simp only [Sx.nodes]; omega), decide_eq_true (show (Sx.mk true false hi da ks).deep + d ≤ 17 by simp only [Sx.deep, if_true]; omega)]
 rfl
theorem tX {s : Sx} {d N : Nat} (h : s.okR d N = true) : s.clean = true ∧ N + s.nodes ≤ 512 ∧ s.deep + d ≤ 17 := by
 unfold Sx.okR at h
 simpa [and_assoc] using h
theorem yf (s : Sx) : s.may = (s.okR 1 0 && decide (s.form.length ≤ 4096)) := by
 unfold Sx.may Sx.okR
 rw [Nat.zero_add, show decide (s.deep + 1 ≤ 17) = decide (s.deep ≤ 16) from decide_eq_decide.2 (by omega)]
def RightP (g : Nat) (ok : Bool) (N S : Nat) (w : World) (e : Ending) (w' : World) : Prop :=
 ∃ N2 S2 : Nat, e = .returned (.bool ok) ∧ Box w' g 82 #[.int .i64 N2, .int .i64 S2] ∧ (ok = true → N2 = N ∧ S2 = S) ∧ But (fun k => k = g) w w'
theorem tN (s : Sx) : ∀ (v : SV) (g N S d m : Nat) (w : World), Box w g 82 #[.int .i64 N, .int .i64 S] → RdI (fun k => k ≠ g) w v s → s.wide m = false → TabX (fun k => k = g) w → N ≤ 512 → S ≤ 20000 * N → d ≤ 17 →
  Calls Tryz.prog 69 #[.pointer (some ⟨g, 0, none⟩), v.val, .int .i64 d] w (RightP g (s.okR d N) (N + s.nodes) (S + s.form.length) w) := by
 induction s using Sx.ind with
 | h l hh hi da ks ih =>
 intro v g N S d m w hg hr yy Cf hN hS hd
 have pd := I5 hr
 obtain ⟨eQ, fK, an, aO, hn, ie, ea, K, ah, hk⟩ := hr.parts
 obtain ⟨vl, vh, a1, n1, k1, a2, n2, k2, a3, n3, k3⟩ := v
 dsimp only at hn ie ea ah hk eQ fK an aO
 obtain rfl : vl = l := eQ
 obtain rfl : vh = hh := fK
 replace hn : n3 = ks.length := hn
 replace an : Sl w a1 n1 k1 hi := an
 replace aO : Sl w a2 n2 k2 da := aO
 replace hk : ∀ i (hi : i < ks.length), RdI (fun k => k ≠ g) w (K i) ks[i] := hk
 obtain ⟨l1, ja⟩ : ∃ l1, l1 = hi := ⟨_, rfl⟩
 have ig := an.1
 have gk := aO.1
 have yL := an.2.1
 have BA := aO.2.1
 have jV := an.2.2.1
 have pZ := aO.2.2.1
 have IH := I5 ih
 have HK := I5 hk
 have HR := I5 ah
 have fL := I5 an
 have mJ := I5 aO
 have ep := I5 ig
 have iu := I5 gk
 clear ih hk ah hr an aO ig gk ja
 subst hn
 obtain ⟨hm60, _, zF, oO, Ce⟩ := jC yy
 replace zF : hi.length ≤ 5000 := zF
 replace oO : da.length ≤ 5000 := oO
 have ig : n1 ≤ 5000 := by have := ep.out; omega
 have gk : n2 ≤ 5000 := by have := iu.out; omega
 have Ba := I5 Ce
 have DG := I5 Cf
 have Gj := kT _ m yy
 have I0 := I5 Gj
 have qH := hg.lt
 unfold maxLen at ea
 clear Ce yy Cf Gj jV pZ yL BA hm60
 have oR : g ≠ w.heap.size := by omega
 by_cases nL : N = 512
 case pos =>
  have hmany' : (512 : Int) < (N : Int) + 1 := by omega
  replace nL := Nat.le_of_eq nL.symm
  have X0 := Box.new w 32 #[.bool vl, .bool vh, .slice a1 n1 k1, .slice a2 n2 k2, .slice a3 ks.length k3]
  have G0 := hg.alloc (.cells #[.bool vl, .bool vh, .slice a1 n1 k1, .slice a2 n2 k2, .slice a3 ks.length k3] 32)
  have B0 : But (fun k => k = g) w (w.alloc (.cells #[.bool vl, .bool vh, .slice a1 n1 k1, .slice a2 n2 k2, .slice a3 ks.length k3] 32)) := (But.refl (fun k => k = g) w).alloc _
  show Calls _ _ #[.pointer (some ⟨g, 0, none⟩), .agg #[.bool vl, .bool vh, .slice a1 n1 k1, .slice a2 n2 k2, .slice a3 ks.length k3], .int .i64 d] _ _
  go_enter Tryz.func69, Tryz.ntmps69
  go_upto_region 1 with fail
  change Code.wp _ _ _ _ (w.alloc (.cells #[.bool vl, .bool vh, .slice a1 n1 k1, .slice a2 n2 k2, .slice a3 ks.length k3] 32))
  generalize (w.alloc (.cells #[.bool vl, .bool vh, .slice a1 n1 k1, .slice a2 n2 k2, .slice a3 ks.length k3] 32)) = v0 at *
  have c0 := G0.cell 0 rfl
  have f0 := G0.frozen 0
  have e1 : IntKind.i64.wrap ((N : Int) + 1) = (N : Int) + 1 := IntWalk.i64_in _ ⟨by omega, by omega⟩
  go_upto_region 2 with fail
  have X1 := X0.far ⟨g, 0, none⟩ (.int .i64 ((N : Int) + 1)) (Ne.symm oR)
  have G1 := G0.set 0 (.int .i64 ((N : Int) + 1))
  have B1 := B0.setCell (p := ⟨g, 0, none⟩) (.inl rfl) (.int .i64 ((N : Int) + 1))
  change Code.wp _ _ _ _ (v0.setCell ⟨g, 0, none⟩ (.int .i64 ((N : Int) + 1)))
  clear X0 G0 B0 c0 f0 e1 hg
  generalize (v0.setCell ⟨g, 0, none⟩ (.int .i64 ((N : Int) + 1))) = v1 at *
  replace G1 : Box v1 g 82 #[.int .i64 ((N : Int) + 1), .int .i64 S] := G1
  have c0 := G1.cell 0 rfl
  go_wp2_with fail
  go_ret
  exact ⟨N + 1, S, by rw [pO (by omega)]; rfl, by have := G1; rwa [show ((N + 1 : Nat) : Int) = (N : Int) + 1 by omega], (fun h => by rw [pO (by omega)] at h; cases h), B1⟩
 replace nL : N < 512 := by omega
 have hmany' : ¬ (512 : Int) < (N : Int) + 1 := by omega
 cases vl with
 | false =>
  cases vh with
  | false =>
   have X0 := Box.new w 32 #[.bool false, .bool false, .slice a1 n1 k1, .slice a2 n2 k2, .slice a3 ks.length k3]
   have G0 := hg.alloc (.cells #[.bool false, .bool false, .slice a1 n1 k1, .slice a2 n2 k2, .slice a3 ks.length k3] 32)
   have B0 : But (fun k => k = g) w (w.alloc (.cells #[.bool false, .bool false, .slice a1 n1 k1, .slice a2 n2 k2, .slice a3 ks.length k3] 32)) := (But.refl (fun k => k = g) w).alloc _
   show Calls _ _ #[.pointer (some ⟨g, 0, none⟩), .agg #[.bool false, .bool false, .slice a1 n1 k1, .slice a2 n2 k2, .slice a3 ks.length k3], .int .i64 d] _ _
   go_enter Tryz.func69, Tryz.ntmps69
   go_upto_region 1 with fail
   change Code.wp _ _ _ _ (w.alloc (.cells #[.bool false, .bool false, .slice a1 n1 k1, .slice a2 n2 k2, .slice a3 ks.length k3] 32))
   generalize (w.alloc (.cells #[.bool false, .bool false, .slice a1 n1 k1, .slice a2 n2 k2, .slice a3 ks.length k3] 32)) = v0 at *
   have c0 := G0.cell 0 rfl
   have f0 := G0.frozen 0
   have e1 : IntKind.i64.wrap ((N : Int) + 1) = (N : Int) + 1 := IntWalk.i64_in _ ⟨by omega, by omega⟩
   go_upto_region 2 with fail
   have X1 := X0.far ⟨g, 0, none⟩ (.int .i64 ((N : Int) + 1)) (Ne.symm oR)
   have G1 := G0.set 0 (.int .i64 ((N : Int) + 1))
   have B1 := B0.setCell (p := ⟨g, 0, none⟩) (.inl rfl) (.int .i64 ((N : Int) + 1))
   change Code.wp _ _ _ _ (v0.setCell ⟨g, 0, none⟩ (.int .i64 ((N : Int) + 1)))
   clear X0 G0 B0 c0 f0 e1 hg
   generalize (v0.setCell ⟨g, 0, none⟩ (.int .i64 ((N : Int) + 1))) = v1 at *
   replace G1 : Box v1 g 82 #[.int .i64 ((N : Int) + 1), .int .i64 S] := G1
   have X1' := X1
   have c0 := G1.cell 0 rfl
   have l0 := X1.cell 0 rfl
   have l1 := X1.cell 1 rfl
   go_upto_region 8 with fail
   clear c0 l0 l1 X1'
   replace G1 : Box v1 g 82 #[.int .i64 ((N + 1 : Nat) : Int), .int .i64 S] := by rw [show ((N + 1 : Nat) : Int) = (N : Int) + 1 by omega]; exact G1
   have cc := X1.cell 3 rfl
   go_wp2_with fail
   refine (jt g (N + 1) (S) _ n2 _ da v1 G1 (by omega) (by omega) iu.out (DG.out _ B1)).mono ?_
   rintro e v2 ⟨rfl, G2, b2⟩
   have X2 := b2.box X1 (by omega)
   have B2 := B1.trans b2 (fun k hk => .inl hk)
   clear cc X1 G1 b2
   have c4 := X2.cell 4 rfl
   have c1 := X2.cell 1 rfl
   have c2 := X2.cell 2 rfl
   by_cases cL : ks.length = 0
   case neg =>
    have hk0' : ((ks.length : Int) == 0) = false := beq_eq_false_iff_ne.2 (by omega)
    have HU : Hid ((Sx.mk false false hi da ks).okR d N = false) := I5 (eN (by rw [bF, oS _ _ _ (by omega)]; rfl))
    go_wp2_with fail
    go_ret
    exact ⟨N + 1, S + (textL da).length, by rw [HU.out]; rfl, G2, (fun h => by rw [HU.out] at h; cases h), B2⟩
   have uv : ks = [] := List.eq_nil_of_length_eq_zero cL
   subst uv
   by_cases h1 : n1 = 0
   ·subst h1
    have HU : Hid ((Sx.mk false false hi da []).okR d N = true) := I5 (pP nL hd (tf _ (by have := ep.out; omega) rfl))
    go_wp2_with fail
    go_ret
    exact ⟨N + 1, S + (textL da).length, by rw [HU.out]; rfl, G2, (fun _ => ⟨by simp [Sx.nodes, Sx.nodesL], by rw [eR]; simp; try omega⟩), B2⟩
   ·have h1' : ((n1 : Int) == 0) = false := beq_eq_false_iff_ne.2 (by omega)
    have HU : Hid ((Sx.mk false false hi da []).okR d N = false) := I5 (eN (by rw [bF, tg _ _ (by have := ep.out; omega)]; rfl))
    go_wp2_with fail
    go_ret
    exact ⟨N + 1, S + (textL da).length, by rw [HU.out]; rfl, G2, (fun h => by rw [HU.out] at h; cases h), B2⟩
  | true =>
   have X0 := Box.new w 32 #[.bool false, .bool true, .slice a1 n1 k1, .slice a2 n2 k2, .slice a3 ks.length k3]
   have G0 := hg.alloc (.cells #[.bool false, .bool true, .slice a1 n1 k1, .slice a2 n2 k2, .slice a3 ks.length k3] 32)
   have B0 : But (fun k => k = g) w (w.alloc (.cells #[.bool false, .bool true, .slice a1 n1 k1, .slice a2 n2 k2, .slice a3 ks.length k3] 32)) := (But.refl (fun k => k = g) w).alloc _
   show Calls _ _ #[.pointer (some ⟨g, 0, none⟩), .agg #[.bool false, .bool true, .slice a1 n1 k1, .slice a2 n2 k2, .slice a3 ks.length k3], .int .i64 d] _ _
   go_enter Tryz.func69, Tryz.ntmps69
   go_upto_region 1 with fail
   change Code.wp _ _ _ _ (w.alloc (.cells #[.bool false, .bool true, .slice a1 n1 k1, .slice a2 n2 k2, .slice a3 ks.length k3] 32))
   generalize (w.alloc (.cells #[.bool false, .bool true, .slice a1 n1 k1, .slice a2 n2 k2, .slice a3 ks.length k3] 32)) = v0 at *
   have c0 := G0.cell 0 rfl
   have f0 := G0.frozen 0
   have e1 : IntKind.i64.wrap ((N : Int) + 1) = (N : Int) + 1 := IntWalk.i64_in _ ⟨by omega, by omega⟩
   go_upto_region 2 with fail
   have X1 := X0.far ⟨g, 0, none⟩ (.int .i64 ((N : Int) + 1)) (Ne.symm oR)
   have G1 := G0.set 0 (.int .i64 ((N : Int) + 1))
   have B1 := B0.setCell (p := ⟨g, 0, none⟩) (.inl rfl) (.int .i64 ((N : Int) + 1))
   change Code.wp _ _ _ _ (v0.setCell ⟨g, 0, none⟩ (.int .i64 ((N : Int) + 1)))
   clear X0 G0 B0 c0 f0 e1 hg
   generalize (v0.setCell ⟨g, 0, none⟩ (.int .i64 ((N : Int) + 1))) = v1 at *
   replace G1 : Box v1 g 82 #[.int .i64 ((N : Int) + 1), .int .i64 S] := G1
   have c0 := G1.cell 0 rfl
   have c1 := G1.cell 1 rfl
   have f1 := G1.frozen 1
   have l0 := X1.cell 0 rfl
   have l1 := X1.cell 1 rfl
   have e2 : IntKind.i64.wrap ((S : Int) + 2) = (S : Int) + 2 := IntWalk.i64_in _ ⟨by omega, by omega⟩
   go_upto_region 7 with fail
   have X2 := X1.far ⟨g, 1, none⟩ (.int .i64 ((S : Int) + 2)) (Ne.symm oR)
   have G2 := G1.set 1 (.int .i64 ((S : Int) + 2))
   have B2 := B1.setCell (p := ⟨g, 1, none⟩) (.inl rfl) (.int .i64 ((S : Int) + 2))
   change Code.wp _ _ _ _ (v1.setCell ⟨g, 1, none⟩ (.int .i64 ((S : Int) + 2)))
   clear X1 G1 B1 c0 c1 f1 l0 l1 e2
   generalize (v1.setCell ⟨g, 1, none⟩ (.int .i64 ((S : Int) + 2))) = v2 at *
   replace G2 : Box v2 g 82 #[.int .i64 ((N + 1 : Nat) : Int), .int .i64 ((S + 2 : Nat) : Int)] := by rw [show ((N + 1 : Nat) : Int) = (N : Int) + 1 by omega, show ((S + 2 : Nat) : Int) = (S : Int) + 2 by omega]; exact G2
   have Iv := iz hi (by omega)
   have cc := X2.cell 2 rfl
   go_wp2_with fail
   refine (jt g (N + 1) (S + 2) _ n1 _ hi v2 G2 (by omega) (by omega) ep.out (DG.out _ B2)).mono ?_
   rintro e v3 ⟨rfl, G3, b3⟩
   have X3 := b3.box X2 (by omega)
   have B3 := B2.trans b3 (fun k hk => .inl hk)
   clear cc X2 G2 b3
   have cc := X3.cell 3 rfl
   go_wp2_with fail
   refine (jt g (N + 1) (S + 2 + (textL hi).length) _ n2 _ da v3 G3 (by omega) (by omega) iu.out (DG.out _ B3)).mono ?_
   rintro e v4 ⟨rfl, G4, b4⟩
   have X4 := b4.box X3 (by omega)
   have B4 := B3.trans b4 (fun k hk => .inl hk)
   clear cc X3 G3 b4
   have c4 := X4.cell 4 rfl
   have c1 := X4.cell 1 rfl
   have c2 := X4.cell 2 rfl
   by_cases cL : ks.length = 0
   case neg =>
    have hk0' : ((ks.length : Int) == 0) = false := beq_eq_false_iff_ne.2 (by omega)
    have HU : Hid ((Sx.mk false true hi da ks).okR d N = false) := I5 (eN (by rw [bF, oS _ _ _ (by omega)]; rfl))
    go_wp2_with fail
    go_ret
    exact ⟨N + 1, S + 2 + (textL hi).length + (textL da).length, by rw [HU.out]; rfl, G4, (fun h => by rw [HU.out] at h; cases h), B4⟩
   have uv : ks = [] := List.eq_nil_of_length_eq_zero cL
   subst uv
   have HU : Hid ((Sx.mk false true hi da []).okR d N = true) := I5 (pP nL hd (ti _ _ rfl))
   go_wp2_with fail
   go_ret
   exact ⟨N + 1, S + 2 + (textL hi).length + (textL da).length, by rw [HU.out]; rfl, G4, (fun _ => ⟨by simp [Sx.nodes, Sx.nodesL], by rw [eR]; simp; try omega⟩), B4⟩
 | true =>
  by_cases hd16 : 16 < d
  case pos =>
   have hd16' : (16 : Int) < d := by omega
   have HU : Hid ((Sx.mk true vh hi da ks).okR d N = false) := I5 (wc hd16)
   have X0 := Box.new w 32 #[.bool true, .bool vh, .slice a1 n1 k1, .slice a2 n2 k2, .slice a3 ks.length k3]
   have G0 := hg.alloc (.cells #[.bool true, .bool vh, .slice a1 n1 k1, .slice a2 n2 k2, .slice a3 ks.length k3] 32)
   have B0 : But (fun k => k = g) w (w.alloc (.cells #[.bool true, .bool vh, .slice a1 n1 k1, .slice a2 n2 k2, .slice a3 ks.length k3] 32)) := (But.refl (fun k => k = g) w).alloc _
   show Calls _ _ #[.pointer (some ⟨g, 0, none⟩), .agg #[.bool true, .bool vh, .slice a1 n1 k1, .slice a2 n2 k2, .slice a3 ks.length k3], .int .i64 d] _ _
   go_enter Tryz.func69, Tryz.ntmps69
   go_upto_region 1 with fail
   change Code.wp _ _ _ _ (w.alloc (.cells #[.bool true, .bool vh, .slice a1 n1 k1, .slice a2 n2 k2, .slice a3 ks.length k3] 32))
   generalize (w.alloc (.cells #[.bool true, .bool vh, .slice a1 n1 k1, .slice a2 n2 k2, .slice a3 ks.length k3] 32)) = v0 at *
   have c0 := G0.cell 0 rfl
   have f0 := G0.frozen 0
   have e1 : IntKind.i64.wrap ((N : Int) + 1) = (N : Int) + 1 := IntWalk.i64_in _ ⟨by omega, by omega⟩
   go_upto_region 2 with fail
   have X1 := X0.far ⟨g, 0, none⟩ (.int .i64 ((N : Int) + 1)) (Ne.symm oR)
   have G1 := G0.set 0 (.int .i64 ((N : Int) + 1))
   have B1 := B0.setCell (p := ⟨g, 0, none⟩) (.inl rfl) (.int .i64 ((N : Int) + 1))
   change Code.wp _ _ _ _ (v0.setCell ⟨g, 0, none⟩ (.int .i64 ((N : Int) + 1)))
   clear X0 G0 B0 c0 f0 e1 hg
   generalize (v0.setCell ⟨g, 0, none⟩ (.int .i64 ((N : Int) + 1))) = v1 at *
   replace G1 : Box v1 g 82 #[.int .i64 ((N : Int) + 1), .int .i64 S] := G1
   have c0 := G1.cell 0 rfl
   have l0 := X1.cell 0 rfl
   have l1 := X1.cell 1 rfl
   have l2 := X1.cell 2 rfl
   have l3 := X1.cell 3 rfl
   go_wp2_with fail
   go_ret
   exact ⟨N + 1, S, by rw [HU.out]; rfl, by have := G1; rwa [show ((N + 1 : Nat) : Int) = (N : Int) + 1 by omega], (fun h => by rw [HU.out] at h; cases h), B1⟩
  have hd16' : ¬ (16 : Int) < d := by omega
  cases vh with
  | true =>
   have HU : Hid ((Sx.mk true true hi da ks).okR d N = false) := I5 (eN (by rw [bF, tq]; rfl))
   have X0 := Box.new w 32 #[.bool true, .bool true, .slice a1 n1 k1, .slice a2 n2 k2, .slice a3 ks.length k3]
   have G0 := hg.alloc (.cells #[.bool true, .bool true, .slice a1 n1 k1, .slice a2 n2 k2, .slice a3 ks.length k3] 32)
   have B0 : But (fun k => k = g) w (w.alloc (.cells #[.bool true, .bool true, .slice a1 n1 k1, .slice a2 n2 k2, .slice a3 ks.length k3] 32)) := (But.refl (fun k => k = g) w).alloc _
   show Calls _ _ #[.pointer (some ⟨g, 0, none⟩), .agg #[.bool true, .bool true, .slice a1 n1 k1, .slice a2 n2 k2, .slice a3 ks.length k3], .int .i64 d] _ _
   go_enter Tryz.func69, Tryz.ntmps69
   go_upto_region 1 with fail
   change Code.wp _ _ _ _ (w.alloc (.cells #[.bool true, .bool true, .slice a1 n1 k1, .slice a2 n2 k2, .slice a3 ks.length k3] 32))
   generalize (w.alloc (.cells #[.bool true, .bool true, .slice a1 n1 k1, .slice a2 n2 k2, .slice a3 ks.length k3] 32)) = v0 at *
   have c0 := G0.cell 0 rfl
   have f0 := G0.frozen 0
   have e1 : IntKind.i64.wrap ((N : Int) + 1) = (N : Int) + 1 := IntWalk.i64_in _ ⟨by omega, by omega⟩
   go_upto_region 2 with fail
   have X1 := X0.far ⟨g, 0, none⟩ (.int .i64 ((N : Int) + 1)) (Ne.symm oR)
   have G1 := G0.set 0 (.int .i64 ((N : Int) + 1))
   have B1 := B0.setCell (p := ⟨g, 0, none⟩) (.inl rfl) (.int .i64 ((N : Int) + 1))
   change Code.wp _ _ _ _ (v0.setCell ⟨g, 0, none⟩ (.int .i64 ((N : Int) + 1)))
   clear X0 G0 B0 c0 f0 e1 hg
   generalize (v0.setCell ⟨g, 0, none⟩ (.int .i64 ((N : Int) + 1))) = v1 at *
   replace G1 : Box v1 g 82 #[.int .i64 ((N : Int) + 1), .int .i64 S] := G1
   have c0 := G1.cell 0 rfl
   have l0 := X1.cell 0 rfl
   have l1 := X1.cell 1 rfl
   have l2 := X1.cell 2 rfl
   have l3 := X1.cell 3 rfl
   go_wp2_with fail
   go_ret
   exact ⟨N + 1, S, by rw [HU.out]; rfl, by have := G1; rwa [show ((N + 1 : Nat) : Int) = (N : Int) + 1 by omega], (fun h => by rw [HU.out] at h; cases h), B1⟩
  | false =>
  by_cases h12 : 0 < n1 + n2
  case pos =>
   have h12' : 0 < (n1 : Int) + n2 := by omega
   have h12e : IntKind.i64.wrap ((n1 : Int) + n2) = (n1 : Int) + n2 := IntWalk.i64_in _ ⟨by omega, by omega⟩
   have HU : Hid ((Sx.mk true false hi da ks).okR d N = false) := I5 (eN (by
    rw [bF]
    have e1 := ep.out
    have e2 := iu.out
    rcases Nat.lt_or_ge 0 hi.length with h | h
    ·rw [tp _ _ h]; rfl
    ·rw [tm _ _ (by omega)]; rfl))
   have X0 := Box.new w 32 #[.bool true, .bool false, .slice a1 n1 k1, .slice a2 n2 k2, .slice a3 ks.length k3]
   have G0 := hg.alloc (.cells #[.bool true, .bool false, .slice a1 n1 k1, .slice a2 n2 k2, .slice a3 ks.length k3] 32)
   have B0 : But (fun k => k = g) w (w.alloc (.cells #[.bool true, .bool false, .slice a1 n1 k1, .slice a2 n2 k2, .slice a3 ks.length k3] 32)) := (But.refl (fun k => k = g) w).alloc _
   show Calls _ _ #[.pointer (some ⟨g, 0, none⟩), .agg #[.bool true, .bool false, .slice a1 n1 k1, .slice a2 n2 k2, .slice a3 ks.length k3], .int .i64 d] _ _
   go_enter Tryz.func69, Tryz.ntmps69
   go_upto_region 1 with fail
   change Code.wp _ _ _ _ (w.alloc (.cells #[.bool true, .bool false, .slice a1 n1 k1, .slice a2 n2 k2, .slice a3 ks.length k3] 32))
   generalize (w.alloc (.cells #[.bool true, .bool false, .slice a1 n1 k1, .slice a2 n2 k2, .slice a3 ks.length k3] 32)) = v0 at *
   have c0 := G0.cell 0 rfl
   have f0 := G0.frozen 0
   have e1 : IntKind.i64.wrap ((N : Int) + 1) = (N : Int) + 1 := IntWalk.i64_in _ ⟨by omega, by omega⟩
   go_upto_region 2 with fail
   have X1 := X0.far ⟨g, 0, none⟩ (.int .i64 ((N : Int) + 1)) (Ne.symm oR)
   have G1 := G0.set 0 (.int .i64 ((N : Int) + 1))
   have B1 := B0.setCell (p := ⟨g, 0, none⟩) (.inl rfl) (.int .i64 ((N : Int) + 1))
   change Code.wp _ _ _ _ (v0.setCell ⟨g, 0, none⟩ (.int .i64 ((N : Int) + 1)))
   clear X0 G0 B0 c0 f0 e1 hg
   generalize (v0.setCell ⟨g, 0, none⟩ (.int .i64 ((N : Int) + 1))) = v1 at *
   replace G1 : Box v1 g 82 #[.int .i64 ((N : Int) + 1), .int .i64 S] := G1
   have c0 := G1.cell 0 rfl
   have l0 := X1.cell 0 rfl
   have l1 := X1.cell 1 rfl
   have l2 := X1.cell 2 rfl
   have l3 := X1.cell 3 rfl
   go_wp2_with fail
   go_ret
   exact ⟨N + 1, S, by rw [HU.out]; rfl, by have := G1; rwa [show ((N + 1 : Nat) : Int) = (N : Int) + 1 by omega], (fun h => by rw [HU.out] at h; cases h), B1⟩
  obtain rfl : n1 = 0 := by omega
  obtain rfl : n2 = 0 := by omega
  have h12' : ¬ 0 < ((0 : Nat) : Int) + ((0 : Nat) : Int) := by omega
  have HH : Hid (headOk true false hi.length da.length ks.length = true) := I5 (tj _ (by have := ep.out; omega) (by have := iu.out; omega))
  have X0 := Box.new w 32 #[.bool true, .bool false, .slice a1 0 k1, .slice a2 0 k2, .slice a3 ks.length k3]
  have G0 := hg.alloc (.cells #[.bool true, .bool false, .slice a1 0 k1, .slice a2 0 k2, .slice a3 ks.length k3] 32)
  have B0 : But (fun k => k = g) w (w.alloc (.cells #[.bool true, .bool false, .slice a1 0 k1, .slice a2 0 k2, .slice a3 ks.length k3] 32)) := (But.refl (fun k => k = g) w).alloc _
  show Calls _ _ #[.pointer (some ⟨g, 0, none⟩), .agg #[.bool true, .bool false, .slice a1 0 k1, .slice a2 0 k2, .slice a3 ks.length k3], .int .i64 d] _ _
  go_enter Tryz.func69, Tryz.ntmps69
  go_upto_region 1 with fail
  change Code.wp _ _ _ _ (w.alloc (.cells #[.bool true, .bool false, .slice a1 0 k1, .slice a2 0 k2, .slice a3 ks.length k3] 32))
  generalize (w.alloc (.cells #[.bool true, .bool false, .slice a1 0 k1, .slice a2 0 k2, .slice a3 ks.length k3] 32)) = v0 at *
  have c0 := G0.cell 0 rfl
  have f0 := G0.frozen 0
  have e1 : IntKind.i64.wrap ((N : Int) + 1) = (N : Int) + 1 := IntWalk.i64_in _ ⟨by omega, by omega⟩
  go_upto_region 2 with fail
  have X1 := X0.far ⟨g, 0, none⟩ (.int .i64 ((N : Int) + 1)) (Ne.symm oR)
  have G1 := G0.set 0 (.int .i64 ((N : Int) + 1))
  have B1 := B0.setCell (p := ⟨g, 0, none⟩) (.inl rfl) (.int .i64 ((N : Int) + 1))
  change Code.wp _ _ _ _ (v0.setCell ⟨g, 0, none⟩ (.int .i64 ((N : Int) + 1)))
  clear X0 G0 B0 c0 f0 e1 hg
  generalize (v0.setCell ⟨g, 0, none⟩ (.int .i64 ((N : Int) + 1))) = v1 at *
  replace G1 : Box v1 g 82 #[.int .i64 ((N : Int) + 1), .int .i64 S] := G1
  have c0 := G1.cell 0 rfl
  have c1 := G1.cell 1 rfl
  have f1 := G1.frozen 1
  have l0 := X1.cell 0 rfl
  have l1 := X1.cell 1 rfl
  have l2 := X1.cell 2 rfl
  have l3 := X1.cell 3 rfl
  have e2 : IntKind.i64.wrap ((S : Int) + 2) = (S : Int) + 2 := IntWalk.i64_in _ ⟨by omega, by omega⟩
  go_upto_region 13 with fail
  have X2 := X1.far ⟨g, 1, none⟩ (.int .i64 ((S : Int) + 2)) (Ne.symm oR)
  have G2 := G1.set 1 (.int .i64 ((S : Int) + 2))
  have B2 := B1.setCell (p := ⟨g, 1, none⟩) (.inl rfl) (.int .i64 ((S : Int) + 2))
  change Code.wp _ _ _ _ (v1.setCell ⟨g, 1, none⟩ (.int .i64 ((S : Int) + 2)))
  clear X1 G1 B1 c0 c1 f1 l0 l1 l2 l3 e2
  generalize (v1.setCell ⟨g, 1, none⟩ (.int .i64 ((S : Int) + 2))) = v2 at *
  replace G2 : Box v2 g 82 #[.int .i64 ((N + 1 : Nat) : Int), .int .i64 ((S + 2 : Nat) : Int)] := by rw [show ((N + 1 : Nat) : Int) = (N : Int) + 1 by omega, show ((S + 2 : Nat) : Int) = (S : Int) + 2 by omega]; exact G2
  have l4 := X2.cell 4 rfl
  go_wp2_with fail
  go_loopw [8, 81] (fun _ k wr => ∃ n : Nat, n ≤ ks.length ∧ k = .int .i64 n ∧ Hid (Sx.cleanL (ks.take n) = true ∧ Sx.deepL (ks.take n) + d ≤ 16) ∧ N + 1 + Sx.nodesL (ks.take n) ≤ 512 ∧ S + 2 + (Sx.formL (ks.take n)).length ≤ 20000 * (N + 1 + Sx.nodesL (ks.take n)) ∧
   Box wr g 82 #[.int .i64 ((N + 1 + Sx.nodesL (ks.take n) : Nat) : Int), .int .i64 ((S + 2 + (Sx.formL (ks.take n)).length : Nat) : Int)] ∧ Box wr w.heap.size 32 #[.bool true, .bool false, .slice a1 0 k1, .slice a2 0 k2, .slice a3 ks.length k3] ∧ But (fun k => k = g) w wr) (fun _ k _ => ks.length - (intOf k).toNat)
  case atStart => exact ⟨0, Nat.zero_le _, rfl, I5 ⟨rfl, by simp [Sx.deepL]; omega⟩, by simp [Sx.nodesL]; omega, by simp [Sx.nodesL, Sx.formL]; omega, by simpa [Sx.nodesL, Sx.formL] using G2, X2, B2⟩
  case round =>
   obtain ⟨n, AB, rfl, HC, EW, BG, G, X, B⟩ := hrel
   clear X2 G2 B2 l4
   have l4 := X.cell 4 rfl
   by_cases aJ : n < ks.length
   ·obtain ⟨b, o, rfl, a8⟩ := (HR.out.but B pd.out.inb.2.2 (fun k h => h)).range aJ
    have HL := I5 a8
    have kD := (HK.out n aJ).but B (fun k h => h)
    have uv := Ba.out ks[n] (List.getElem_mem aJ)
    have Hq := kT _ _ uv
    have HRd := I5 kD
    have Fx := I5 uv
    have wy := I5 (DG.out.but B)
    have ewr : IntKind.i64.wrap ((d : Int) + 1) = (d : Int) + 1 := IntWalk.i64_in _ ⟨by omega, by omega⟩
    obtain ⟨ck, fT⟩ : ∃ ck, ck = ks[n].okR (d + 1) (N + 1 + Sx.nodesL (ks.take n)) := ⟨_, rfl⟩
    have gQ := I5 fT
    have IH2 : Hid (∀ w, Box w g 82 #[.int .i64 ((N + 1 + Sx.nodesL (ks.take n) : Nat) : Int), .int .i64 ((S + 2 + (Sx.formL (ks.take n)).length : Nat) : Int)] → RdI (fun k => k ≠ g) w (K n) ks[n] → TabX (fun k => k = g) w →
      Calls Tryz.prog 69 #[.pointer (some ⟨g, 0, none⟩), (K n).val, .int .i64 ((d : Int) + 1)] w (RightP g ck (N + 1 + Sx.nodesL (ks.take n) + ks[n].nodes) (S + 2 + (Sx.formL (ks.take n)).length + ks[n].form.length) w)) :=
     I5 fun w h1 h2 h3 => by
      have := IH.out _ (List.getElem_mem aJ) (K n) g (N + 1 + Sx.nodesL (ks.take n)) (S + 2 + (Sx.formL (ks.take n)).length) (d + 1) (m + 1) w h1 h2 Fx.out h3 EW BG (by omega)
      rw [← fT] at this
      exact this
    clear kD a8 uv fT
    go_upto_region 16 with first | (refine aY rfl _ rfl b _ rfl _ HL.out ?_) | (refine ac (cells := (K n).cells) rfl 32 _ _ rfl (Box.new _ _ _) (by rfl) (by rfl) rfl (by kernel_rfl) (SV.one _) ?_; intro u1 Y1 st1)
    have CN : Below wr.heap.size wr u1 := st1.below wr.heap.size wr (Nat.le_refl _) ((Below.refl _ _).alloc (Nat.le_refl _) _)
    have Dp := B.size
    have Hp := G.lt
    have B' : But (fun k => k = g) w u1 := (B.alloc _).trans (But.ofStored st1 (st1.below 0 _ (Nat.zero_le _) (Below.refl 0 _))) (fun k hk => .inr (by omega))
    have G' := G.after CN
    have X' := X.after CN
    have HRd' := I5 (HRd.out.after CN)
    have htab' := I5 (wy.out.but (But.ofBelow CN))
    have HY := I5 Y1
    have Ir : wr.heap.size < u1.heap.size := Y1.lt
    clear st1 CN B G X HRd wy HL Y1 l4
    go_wp2_with (refine ab rfl 32 _ rfl HY.out (by rfl) Tryz.underlying32 rfl (by kernel_rfl) ?_)
    refine (IH2.out _ G' HRd'.out htab'.out).mono ?_
    rintro e v3 ⟨N3, S3, rfl, G3, ml, b3⟩
    have X3 := b3.box X' (by omega)
    have B3 := B'.trans b3 (fun k hk => .inl hk)
    have Fo := I5 ml
    clear ml b3 G' X' B'
    cases ck with
    | false =>
     have HU : Hid ((Sx.mk true false hi da ks).okR d N = false) := I5 (xZ n aJ gQ.out.symm)
     go_wp2_with fail
     go_ret
     exact ⟨N3, S3, by rw [HU.out]; rfl, G3, (fun h => by rw [HU.out] at h; cases h), B3⟩
    | true =>
     have Eb := tX gQ.out.symm
     have GE := I5 Eb
     have F7 := Eb.2.1
     have zq := I5 (Sx.nodesL_snoc ks n aJ)
     have GD := I5 (Sx.formL_snoc ks n aJ)
     have hfk' := Hq
     clear Eb
     go_wp2_with fail
     go_roundw
     case rel =>
      obtain ⟨rfl, rfl⟩ := Fo.out (by trivial)
      refine ⟨n + 1, by omega, by go_num, I5 ⟨by rw [Sx.cleanL_snoc ks n aJ, HC.out.1, GE.out.1]; rfl, by rw [Sx.deepL_snoc ks n aJ]; have := HC.out.2; have := GE.out.2.2; omega⟩, by rw [zq.out]; omega, by rw [zq.out, GD.out, List.length_append]; omega, ?_, X3, B3⟩
      rw [zq.out, GD.out, List.length_append, ← Nat.add_assoc, ← Nat.add_assoc]
      exact G3
     case measure => simp [intOf]; omega
   ·have ly : n = ks.length := by omega
    subst ly
    have hC := HC.out
    rw [List.take_length] at hC EW G
    have HU : Hid ((Sx.mk true false hi da ks).okR d N = true) := I5 (wb (by omega) nL HH.out ⟨hC.1, hC.2, EW⟩)
    have G' := I5 G
    clear hC G HC
    go_wp2_with fail
    go_ret
    refine ⟨_, _, by rw [HU.out]; rfl, G'.out, fun _ => ⟨by simp only [Sx.nodes]; omega, ?_⟩, B⟩
    rw [eR, if_pos rfl]
    simp only [List.length_cons, List.length_append, List.length_nil]
    omega
theorem lw (s : Sx) (v : SV) (w : World) (hr : Rd w v s) (m : Nat) (hw : s.wide m = false) (ht : Tab w) : Calls Tryz.prog 38 #[v.val] w fun e w' => e = .returned (.bool s.may) ∧ Below w.heap.size w w' := by
 obtain ⟨vl, vh, a1, n1, k1, a2, n2, k2, a3, n3, k3⟩ := v
 let v0 := ((w.alloc (.cells #[.bool vl, .bool vh, .slice a1 n1 k1, .slice a2 n2 k2, .slice a3 n3 k3] 32)).alloc (.cells #[.int .i64 0, .int .i64 0] 82))
 have B0 : Below w.heap.size w v0 := ((Below.refl _ _).alloc (Nat.le_refl _) _).alloc (by simp [v0, v0]) _
 have X0 : Box v0 w.heap.size 32 #[.bool vl, .bool vh, .slice a1 n1 k1, .slice a2 n2 k2, .slice a3 n3 k3] := (Box.new _ _ _).alloc _
 have G0 : Box v0 (w.heap.size + 1) 82 #[.int .i64 0, .int .i64 0] := by
  have := Box.new (w.alloc (.cells #[.bool vl, .bool vh, .slice a1 n1 k1, .slice a2 n2 k2, .slice a3 n3 k3] 32)) 82 #[.int .i64 0, .int .i64 0]
  simpa [v0] using this
 have kD := (hr.there.mono (ok' := fun k => k ≠ w.heap.size + 1) (fun b hb => by have := hb.2; omega)).after B0
 have Cf : TabX (fun k => k = w.heap.size + 1) v0 := TabX.new ht B0 (fun k hk => by omega)
 obtain ⟨ok, ml⟩ : ∃ ok, ok = s.okR 1 0 := ⟨_, rfl⟩
 have HM : Hid (s.may = (ok && decide (s.form.length ≤ 4096))) := I5 (by rw [ml]; exact yf s)
 have Bq := I5 (tN s ⟨vl, vh, a1, n1, k1, a2, n2, k2, a3, n3, k3⟩ (w.heap.size + 1) 0 0 1 m v0 G0 kD hw Cf (by omega) (by omega) (by omega))
 rw [← ml, Nat.zero_add, Nat.zero_add] at Bq
 have HX := I5 X0
 clear kD Cf ml hr ht hw X0 G0
 show Calls _ _ #[.agg #[.bool vl, .bool vh, .slice a1 n1 k1, .slice a2 n2 k2, .slice a3 n3 k3]] _ _
 go_enter Tryz.func38, Tryz.ntmps38
 go_upto_region 2 with fail
 change Code.wp _ _ _ _ v0
 have hz : w.heap.size ≤ v0.heap.size := by simp [v0, v0]; omega
 clear_value v0
 go_wp2_with (refine ab rfl 32 _ rfl HX.out (by rfl) Tryz.underlying32 rfl (by kernel_rfl) ?_)
 refine Bq.out.mono ?_
 rintro e v1 ⟨N2, S2, rfl, G1, hN, b1⟩
 have HB := But.after B0 b1 hz (fun k hk => by omega)
 have Fo := I5 hN
 have g1 := G1.cell 1 rfl
 clear hN b1 Bq
 cases ok with
 | false =>
  go_wp2_with fail
  go_ret
  exact ⟨by rw [HM.out]; rfl, HB⟩
 | true =>
  obtain ⟨rfl, rfl⟩ := Fo.out (by trivial)
  go_wp2_with fail
  go_ret
  exact ⟨by
   rw [HM.out]
   show Ending.returned (.bool (decide ((s.form.length : Int) ≤ 4096))) = _
   rw [show decide ((s.form.length : Int) ≤ 4096) = decide (s.form.length ≤ 4096) from decide_eq_decide.2 (by omega)]
   rfl, HB⟩
theorem OwnG.shape {w : World} {B size n : Nat} {v : Value} {xs : List Value} (h : OwnG w B size v n xs) : ∃ a cap, v = .slice a n cap := by
 rcases h.2 with ⟨h1, h2⟩ | ⟨g, o, cap, h2, _⟩
 ·subst h2; exact ⟨_, _, h1⟩
 ·exact ⟨_, _, h2⟩
theorem cp {P : Program} {o : Oper} {a : Act} {w : World} {K : Act → World → Prop} {Q : Exit → Act → World → Prop} (v : Value) (w' : World) (hr : (execOp a.eval o).run P w = .ok (.value v) w') (h : K (a.put o.dst v) w') : o.wp P a w K Q := by
 unfold Oper.wp
 rw [hr]
 exact h
end Go.Proofs.YtmmkaclmgnpplaaGreatDoor

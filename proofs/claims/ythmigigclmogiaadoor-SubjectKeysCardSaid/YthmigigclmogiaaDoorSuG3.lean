/- The program's right and May: what they compute. The program's Put: what it computes. Atom, List, and the document's example. octet.GetLen and the document's Len: what they compute. A length that is written is read: plain. No two trees have one form: plain. SexpOne: the walk. SexpLists: the walk. The program's Same: what it computes. -/
import Derived.Test.YthmigigclmogiaaDoorSuG2
import Derived.Deep.LoopGhost
import Derived.Deep.QuietTactic
import Derived.BigQuiet
import Derived.WalkLawsBesides
import Derived.WalkSmall
namespace Go.Proofs.YthmigigclmogiaaDoor
open Go.RowKit
set_option linter.unusedSimpArgs false
set_option linter.unusedVariables false

/-- the table stays, whatever of the set is touched -/
def TabX (S : Nat → Prop) (w : World) : Prop := ∀ w', But S w w' → Tab w'
theorem TabX.but {S : Nat → Prop} {w w1 : World} (h : TabX S w) (hb : But S w w1) : TabX S w1 := fun w' hb' => h w' (hb.trans hb' fun k hk => .inl hk)
theorem TabX.tab {S : Nat → Prop} {w : World} (h : TabX S w) : Tab w := h w (But.refl _ _)
theorem TabX.new {S : Nat → Prop} {w w1 : World} (h : Tab w) (hb : Below w.heap.size w w1) (hS : ∀ k, S k → w.heap.size ≤ k) : TabX S w1 := fun w' hb' => h.after (But.after hb hb' hb.size hS)

/-- may it be, so deep, behind N others? -/
def Sx.okR (s : Sx) (d N : Nat) : Bool := s.clean && decide (N + s.nodes ≤ 512) && decide (s.deep + d ≤ 17)
theorem nodes_pos (s : Sx) : 1 ≤ s.nodes := by obtain ⟨l, h, hi, da, ks⟩ := s; simp only [Sx.nodes]; omega
theorem okR_many {s : Sx} {d N : Nat} (h : 512 ≤ N) : s.okR d N = false := by
  have := nodes_pos s
  unfold Sx.okR
  rw [decide_eq_false (show ¬ N + s.nodes ≤ 512 by omega)]
  simp
theorem okR_unclean {s : Sx} {d N : Nat} (h : s.clean = false) : s.okR d N = false := by unfold Sx.okR; rw [h]; rfl
theorem okR_deep {h : Bool} {hi da : List UInt8} {ks : List Sx} {d N : Nat} (hd : 16 < d) : (Sx.mk true h hi da ks).okR d N = false := by
  unfold Sx.okR
  rw [decide_eq_false (show ¬ (Sx.mk true h hi da ks).deep + d ≤ 17 by simp only [Sx.deep, if_true]; omega)]
  simp
theorem okR_atom {h : Bool} {hi da : List UInt8} {d N : Nat} (hN : N < 512) (hd : d ≤ 17) (hh : headOk false h hi.length da.length 0 = true) : (Sx.mk false h hi da []).okR d N = true := by
  unfold Sx.okR
  rw [clean_def, show ([] : List Sx).length = 0 from rfl, hh, decide_eq_true (show N + (Sx.mk false h hi da []).nodes ≤ 512 by simp only [Sx.nodes, Sx.nodesL]; omega), decide_eq_true (show (Sx.mk false h hi da []).deep + d ≤ 17 by simp [Sx.deep]; omega)]
  rfl
theorem nodesL_take {ks : List Sx} (k : Nat) (h : k < ks.length) : Sx.nodesL (ks.take k) + ks[k].nodes ≤ Sx.nodesL ks := by
  have := Sx.nodesL_append (ks.take (k + 1)) (ks.drop (k + 1))
  rw [List.take_append_drop, Sx.nodesL_snoc ks k h] at this
  omega
theorem okR_kid {h : Bool} {hi da : List UInt8} {ks : List Sx} {d N : Nat} (k : Nat) (hk : k < ks.length) (h0 : ks[k].okR (d + 1) (N + 1 + Sx.nodesL (ks.take k)) = false) : (Sx.mk true h hi da ks).okR d N = false := by
  have h1 := nodesL_take k hk
  have h2 := Sx.deepL_mem (List.getElem_mem hk)
  unfold Sx.okR at h0 ⊢
  simp only [Bool.and_eq_false_iff, decide_eq_false_iff_not] at h0 ⊢
  simp only [Sx.nodes, Sx.deep, if_true]
  rcases h0 with (h0 | h0) | h0
  · exact .inl (.inl (by rw [clean_def, Sx.cleanL_no (List.getElem_mem hk) h0]; simp))
  · exact .inl (.inr (by omega))
  · exact .inr (by omega)
theorem deepL_all {ks : List Sx} {n : Nat} (h : ∀ k (hk : k < ks.length), ks[k].deep ≤ n) : Sx.deepL ks ≤ n :=
  deepL_le fun k hk => by obtain ⟨i, hi, rfl⟩ := List.getElem_of_mem hk; exact h i hi
theorem okR_list {hi da : List UInt8} {ks : List Sx} {d N : Nat} (hd : d ≤ 16) (hN : N < 512) (hh : headOk true false hi.length da.length ks.length = true) (ha : Sx.cleanL ks = true ∧ Sx.deepL ks + d ≤ 16 ∧ (N + 1 + Sx.nodesL ks ≤ 512)) : (Sx.mk true false hi da ks).okR d N = true := by
  unfold Sx.okR
  rw [clean_def, hh, ha.1, decide_eq_true (show N + (Sx.mk true false hi da ks).nodes ≤ 512 by simp only [Sx.nodes]; omega), decide_eq_true (show (Sx.mk true false hi da ks).deep + d ≤ 17 by simp only [Sx.deep, if_true]; omega)]
  rfl
theorem okR_parts {s : Sx} {d N : Nat} (h : s.okR d N = true) : s.clean = true ∧ N + s.nodes ≤ 512 ∧ s.deep + d ≤ 17 := by
  unfold Sx.okR at h
  simpa [and_assoc] using h
theorem may_okR (s : Sx) : s.may = (s.okR 1 0 && decide (s.form.length ≤ 4096)) := by
  unfold Sx.may Sx.okR
  rw [Nat.zero_add, show decide (s.deep + 1 ≤ 17) = decide (s.deep ≤ 16) from decide_eq_decide.2 (by omega)]

def RightP (g : Nat) (ok : Bool) (N S : Nat) (w : World) (e : Ending) (w' : World) : Prop :=
  ∃ N2 S2 : Nat, e = .returned (.bool ok) ∧ Box w' g 59 #[.int .i64 N2, .int .i64 S2] ∧ (ok = true → N2 = N ∧ S2 = S) ∧ But (fun k => k = g) w w'

set_option maxHeartbeats 8000000 in
set_option maxRecDepth 100000 in
theorem right_any (s : Sx) : ∀ (v : SV) (g N S d m : Nat) (w : World), Box w g 59 #[.int .i64 N, .int .i64 S] → RdI (fun k => k ≠ g) w v s → s.wide m = false → TabX (fun k => k = g) w → N ≤ 512 → S ≤ 20000 * N → d ≤ 17 →
    Calls Tryd.prog 32 #[.pointer (some ⟨g, 0, none⟩), v.val, .int .i64 d] w (RightP g (s.okR d N) (N + s.nodes) (S + s.form.length) w) := by
  induction s using Sx.ind with
  | h l hh hi da ks ih =>
  intro v g N S d m w hg hr hwd htx hN hS hd
  have HRR := Lib.hid hr
  obtain ⟨hvl, hvh, hs1, hs2, hn, hnc, hcm, K, hrow, hk⟩ := hr.parts
  obtain ⟨vl, vh, a1, n1, k1, a2, n2, k2, a3, n3, k3⟩ := v
  dsimp only at hn hnc hcm hrow hk hvl hvh hs1 hs2
  obtain rfl : vl = l := hvl
  obtain rfl : vh = hh := hvh
  replace hn : n3 = ks.length := hn
  replace hs1 : Sl w a1 n1 k1 hi := hs1
  replace hs2 : Sl w a2 n2 k2 da := hs2
  replace hk : ∀ i (hi : i < ks.length), RdI (fun k => k ≠ g) w (K i) ks[i] := hk
  obtain ⟨l1, hl1⟩ : ∃ l1, l1 = hi := ⟨_, rfl⟩
  have hn1 := hs1.1
  have hn2 := hs2.1
  have hm1 := hs1.2.1
  have hm2 := hs2.2.1
  have hx1 := hs1.2.2.1
  have hx2 := hs2.2.2.1
  have IH := Lib.hid ih
  have HK := Lib.hid hk
  have HR := Lib.hid hrow
  have HS1 := Lib.hid hs1
  have HS2 := Lib.hid hs2
  have HN1 := Lib.hid hn1
  have HN2 := Lib.hid hn2
  clear ih hk hrow hr hs1 hs2 hn1 hn2 hl1
  subst hn
  obtain ⟨hm60, _, hw1, hw2, hwk⟩ := wide_no hwd
  replace hw1 : hi.length ≤ 5000 := hw1
  replace hw2 : da.length ≤ 5000 := hw2
  have hn1 : n1 ≤ 5000 := by have := HN1.out; omega
  have hn2 : n2 ≤ 5000 := by have := HN2.out; omega
  have HWK := Lib.hid hwk
  have HTX := Lib.hid htx
  have hfw := form_wide _ m hwd
  have HFW := Lib.hid hfw
  have hgl := hg.lt
  unfold maxLen at hcm
  clear hwk hwd htx hfw hx1 hx2 hm1 hm2 hm60
  have hgne : g ≠ w.heap.size := by omega
  by_cases hmany : N = 512
  case pos =>
    have hmany' : (512 : Int) < (N : Int) + 1 := by omega
    replace hmany := Nat.le_of_eq hmany.symm
    have X0 := Box.new w 33 #[.bool vl, .bool vh, .slice a1 n1 k1, .slice a2 n2 k2, .slice a3 ks.length k3]
    have G0 := hg.alloc (.cells #[.bool vl, .bool vh, .slice a1 n1 k1, .slice a2 n2 k2, .slice a3 ks.length k3] 33)
    have B0 : But (fun k => k = g) w (w.alloc (.cells #[.bool vl, .bool vh, .slice a1 n1 k1, .slice a2 n2 k2, .slice a3 ks.length k3] 33)) := (But.refl (fun k => k = g) w).alloc _
    show Calls _ _ #[.pointer (some ⟨g, 0, none⟩), .agg #[.bool vl, .bool vh, .slice a1 n1 k1, .slice a2 n2 k2, .slice a3 ks.length k3], .int .i64 d] _ _
    go_enter Tryd.func32, Tryd.ntmps32
    go_upto_region 1 with fail
    change Code.wp _ _ _ _ (w.alloc (.cells #[.bool vl, .bool vh, .slice a1 n1 k1, .slice a2 n2 k2, .slice a3 ks.length k3] 33))
    generalize (w.alloc (.cells #[.bool vl, .bool vh, .slice a1 n1 k1, .slice a2 n2 k2, .slice a3 ks.length k3] 33)) = v0 at *
    have c0 := G0.cell 0 rfl
    have f0 := G0.frozen 0
    have e1 : IntKind.i64.wrap ((N : Int) + 1) = (N : Int) + 1 := IntWalk.i64_in _ ⟨by omega, by omega⟩
    go_upto_region 2 with fail
    have X1 := X0.far ⟨g, 0, none⟩ (.int .i64 ((N : Int) + 1)) (Ne.symm hgne)
    have G1 := G0.set 0 (.int .i64 ((N : Int) + 1))
    have B1 := B0.setCell (p := ⟨g, 0, none⟩) (.inl rfl) (.int .i64 ((N : Int) + 1))
    change Code.wp _ _ _ _ (v0.setCell ⟨g, 0, none⟩ (.int .i64 ((N : Int) + 1)))
    clear X0 G0 B0 c0 f0 e1 hg
    generalize (v0.setCell ⟨g, 0, none⟩ (.int .i64 ((N : Int) + 1))) = v1 at *
    replace G1 : Box v1 g 59 #[.int .i64 ((N : Int) + 1), .int .i64 S] := G1
    have c0 := G1.cell 0 rfl
    go_wp2_with fail
    go_ret
    exact ⟨N + 1, S, by rw [okR_many (by omega)]; rfl, by have := G1; rwa [show ((N + 1 : Nat) : Int) = (N : Int) + 1 by omega], (fun h => by rw [okR_many (by omega)] at h; cases h), B1⟩
  replace hmany : N < 512 := by omega
  have hmany' : ¬ (512 : Int) < (N : Int) + 1 := by omega
  cases vl with
  | false =>
    cases vh with
    | false =>
      have X0 := Box.new w 33 #[.bool false, .bool false, .slice a1 n1 k1, .slice a2 n2 k2, .slice a3 ks.length k3]
      have G0 := hg.alloc (.cells #[.bool false, .bool false, .slice a1 n1 k1, .slice a2 n2 k2, .slice a3 ks.length k3] 33)
      have B0 : But (fun k => k = g) w (w.alloc (.cells #[.bool false, .bool false, .slice a1 n1 k1, .slice a2 n2 k2, .slice a3 ks.length k3] 33)) := (But.refl (fun k => k = g) w).alloc _
      show Calls _ _ #[.pointer (some ⟨g, 0, none⟩), .agg #[.bool false, .bool false, .slice a1 n1 k1, .slice a2 n2 k2, .slice a3 ks.length k3], .int .i64 d] _ _
      go_enter Tryd.func32, Tryd.ntmps32
      go_upto_region 1 with fail
      change Code.wp _ _ _ _ (w.alloc (.cells #[.bool false, .bool false, .slice a1 n1 k1, .slice a2 n2 k2, .slice a3 ks.length k3] 33))
      generalize (w.alloc (.cells #[.bool false, .bool false, .slice a1 n1 k1, .slice a2 n2 k2, .slice a3 ks.length k3] 33)) = v0 at *
      have c0 := G0.cell 0 rfl
      have f0 := G0.frozen 0
      have e1 : IntKind.i64.wrap ((N : Int) + 1) = (N : Int) + 1 := IntWalk.i64_in _ ⟨by omega, by omega⟩
      go_upto_region 2 with fail
      have X1 := X0.far ⟨g, 0, none⟩ (.int .i64 ((N : Int) + 1)) (Ne.symm hgne)
      have G1 := G0.set 0 (.int .i64 ((N : Int) + 1))
      have B1 := B0.setCell (p := ⟨g, 0, none⟩) (.inl rfl) (.int .i64 ((N : Int) + 1))
      change Code.wp _ _ _ _ (v0.setCell ⟨g, 0, none⟩ (.int .i64 ((N : Int) + 1)))
      clear X0 G0 B0 c0 f0 e1 hg
      generalize (v0.setCell ⟨g, 0, none⟩ (.int .i64 ((N : Int) + 1))) = v1 at *
      replace G1 : Box v1 g 59 #[.int .i64 ((N : Int) + 1), .int .i64 S] := G1
      have X1' := X1
      have c0 := G1.cell 0 rfl
      have l0 := X1.cell 0 rfl
      have l1 := X1.cell 1 rfl
      go_upto_region 8 with fail
      clear c0 l0 l1 X1'
      replace G1 : Box v1 g 59 #[.int .i64 ((N + 1 : Nat) : Int), .int .i64 S] := by rw [show ((N + 1 : Nat) : Int) = (N : Int) + 1 by omega]; exact G1
      have cc := X1.cell 3 rfl
      go_wp2_with fail
      refine (cbytes_any g (N + 1) (S) _ n2 _ da v1 G1 (by omega) (by omega) HN2.out (HTX.out _ B1)).mono ?_
      rintro e v2 ⟨rfl, G2, b2⟩
      have X2 := b2.box X1 (by omega)
      have B2 := B1.trans b2 (fun k hk => .inl hk)
      clear cc X1 G1 b2
      have c4 := X2.cell 4 rfl
      have c1 := X2.cell 1 rfl
      have c2 := X2.cell 2 rfl
      by_cases hk0 : ks.length = 0
      case neg =>
        have hk0' : ((ks.length : Int) == 0) = false := beq_eq_false_iff_ne.2 (by omega)
        have HU : Hid ((Sx.mk false false hi da ks).okR d N = false) := Lib.hid (okR_unclean (by rw [clean_def, headOk5 _ _ _ (by omega)]; rfl))
        go_wp2_with fail
        go_ret
        exact ⟨N + 1, S + (textL da).length, by rw [HU.out]; rfl, G2, (fun h => by rw [HU.out] at h; cases h), B2⟩
      have hks : ks = [] := List.eq_nil_of_length_eq_zero hk0
      subst hks
      by_cases h1 : n1 = 0
      · subst h1
        have HU : Hid ((Sx.mk false false hi da []).okR d N = true) := Lib.hid (okR_atom hmany hd (headOk8 _ (by have := HN1.out; omega) rfl))
        go_wp2_with fail
        go_ret
        exact ⟨N + 1, S + (textL da).length, by rw [HU.out]; rfl, G2, (fun _ => ⟨by simp [Sx.nodes, Sx.nodesL], by rw [form_def]; simp; try omega⟩), B2⟩
      · have h1' : ((n1 : Int) == 0) = false := beq_eq_false_iff_ne.2 (by omega)
        have HU : Hid ((Sx.mk false false hi da []).okR d N = false) := Lib.hid (okR_unclean (by rw [clean_def, headOk7 _ _ (by have := HN1.out; omega)]; rfl))
        go_wp2_with fail
        go_ret
        exact ⟨N + 1, S + (textL da).length, by rw [HU.out]; rfl, G2, (fun h => by rw [HU.out] at h; cases h), B2⟩
    | true =>
      have X0 := Box.new w 33 #[.bool false, .bool true, .slice a1 n1 k1, .slice a2 n2 k2, .slice a3 ks.length k3]
      have G0 := hg.alloc (.cells #[.bool false, .bool true, .slice a1 n1 k1, .slice a2 n2 k2, .slice a3 ks.length k3] 33)
      have B0 : But (fun k => k = g) w (w.alloc (.cells #[.bool false, .bool true, .slice a1 n1 k1, .slice a2 n2 k2, .slice a3 ks.length k3] 33)) := (But.refl (fun k => k = g) w).alloc _
      show Calls _ _ #[.pointer (some ⟨g, 0, none⟩), .agg #[.bool false, .bool true, .slice a1 n1 k1, .slice a2 n2 k2, .slice a3 ks.length k3], .int .i64 d] _ _
      go_enter Tryd.func32, Tryd.ntmps32
      go_upto_region 1 with fail
      change Code.wp _ _ _ _ (w.alloc (.cells #[.bool false, .bool true, .slice a1 n1 k1, .slice a2 n2 k2, .slice a3 ks.length k3] 33))
      generalize (w.alloc (.cells #[.bool false, .bool true, .slice a1 n1 k1, .slice a2 n2 k2, .slice a3 ks.length k3] 33)) = v0 at *
      have c0 := G0.cell 0 rfl
      have f0 := G0.frozen 0
      have e1 : IntKind.i64.wrap ((N : Int) + 1) = (N : Int) + 1 := IntWalk.i64_in _ ⟨by omega, by omega⟩
      go_upto_region 2 with fail
      have X1 := X0.far ⟨g, 0, none⟩ (.int .i64 ((N : Int) + 1)) (Ne.symm hgne)
      have G1 := G0.set 0 (.int .i64 ((N : Int) + 1))
      have B1 := B0.setCell (p := ⟨g, 0, none⟩) (.inl rfl) (.int .i64 ((N : Int) + 1))
      change Code.wp _ _ _ _ (v0.setCell ⟨g, 0, none⟩ (.int .i64 ((N : Int) + 1)))
      clear X0 G0 B0 c0 f0 e1 hg
      generalize (v0.setCell ⟨g, 0, none⟩ (.int .i64 ((N : Int) + 1))) = v1 at *
      replace G1 : Box v1 g 59 #[.int .i64 ((N : Int) + 1), .int .i64 S] := G1
      have c0 := G1.cell 0 rfl
      have c1 := G1.cell 1 rfl
      have f1 := G1.frozen 1
      have l0 := X1.cell 0 rfl
      have l1 := X1.cell 1 rfl
      have e2 : IntKind.i64.wrap ((S : Int) + 2) = (S : Int) + 2 := IntWalk.i64_in _ ⟨by omega, by omega⟩
      go_upto_region 7 with fail
      have X2 := X1.far ⟨g, 1, none⟩ (.int .i64 ((S : Int) + 2)) (Ne.symm hgne)
      have G2 := G1.set 1 (.int .i64 ((S : Int) + 2))
      have B2 := B1.setCell (p := ⟨g, 1, none⟩) (.inl rfl) (.int .i64 ((S : Int) + 2))
      change Code.wp _ _ _ _ (v1.setCell ⟨g, 1, none⟩ (.int .i64 ((S : Int) + 2)))
      clear X1 G1 B1 c0 c1 f1 l0 l1 e2
      generalize (v1.setCell ⟨g, 1, none⟩ (.int .i64 ((S : Int) + 2))) = v2 at *
      replace G2 : Box v2 g 59 #[.int .i64 ((N + 1 : Nat) : Int), .int .i64 ((S + 2 : Nat) : Int)] := by rw [show ((N + 1 : Nat) : Int) = (N : Int) + 1 by omega, show ((S + 2 : Nat) : Int) = (S : Int) + 2 by omega]; exact G2
      have ht1 := textL_len hi (by omega)
      have cc := X2.cell 2 rfl
      go_wp2_with fail
      refine (cbytes_any g (N + 1) (S + 2) _ n1 _ hi v2 G2 (by omega) (by omega) HN1.out (HTX.out _ B2)).mono ?_
      rintro e v3 ⟨rfl, G3, b3⟩
      have X3 := b3.box X2 (by omega)
      have B3 := B2.trans b3 (fun k hk => .inl hk)
      clear cc X2 G2 b3
      have cc := X3.cell 3 rfl
      go_wp2_with fail
      refine (cbytes_any g (N + 1) (S + 2 + (textL hi).length) _ n2 _ da v3 G3 (by omega) (by omega) HN2.out (HTX.out _ B3)).mono ?_
      rintro e v4 ⟨rfl, G4, b4⟩
      have X4 := b4.box X3 (by omega)
      have B4 := B3.trans b4 (fun k hk => .inl hk)
      clear cc X3 G3 b4
      have c4 := X4.cell 4 rfl
      have c1 := X4.cell 1 rfl
      have c2 := X4.cell 2 rfl
      by_cases hk0 : ks.length = 0
      case neg =>
        have hk0' : ((ks.length : Int) == 0) = false := beq_eq_false_iff_ne.2 (by omega)
        have HU : Hid ((Sx.mk false true hi da ks).okR d N = false) := Lib.hid (okR_unclean (by rw [clean_def, headOk5 _ _ _ (by omega)]; rfl))
        go_wp2_with fail
        go_ret
        exact ⟨N + 1, S + 2 + (textL hi).length + (textL da).length, by rw [HU.out]; rfl, G4, (fun h => by rw [HU.out] at h; cases h), B4⟩
      have hks : ks = [] := List.eq_nil_of_length_eq_zero hk0
      subst hks
      have HU : Hid ((Sx.mk false true hi da []).okR d N = true) := Lib.hid (okR_atom hmany hd (headOk6 _ _ rfl))
      go_wp2_with fail
      go_ret
      exact ⟨N + 1, S + 2 + (textL hi).length + (textL da).length, by rw [HU.out]; rfl, G4, (fun _ => ⟨by simp [Sx.nodes, Sx.nodesL], by rw [form_def]; simp; try omega⟩), B4⟩
  | true =>
    by_cases hd16 : 16 < d
    case pos =>
      have hd16' : (16 : Int) < d := by omega
      have HU : Hid ((Sx.mk true vh hi da ks).okR d N = false) := Lib.hid (okR_deep hd16)
      have X0 := Box.new w 33 #[.bool true, .bool vh, .slice a1 n1 k1, .slice a2 n2 k2, .slice a3 ks.length k3]
      have G0 := hg.alloc (.cells #[.bool true, .bool vh, .slice a1 n1 k1, .slice a2 n2 k2, .slice a3 ks.length k3] 33)
      have B0 : But (fun k => k = g) w (w.alloc (.cells #[.bool true, .bool vh, .slice a1 n1 k1, .slice a2 n2 k2, .slice a3 ks.length k3] 33)) := (But.refl (fun k => k = g) w).alloc _
      show Calls _ _ #[.pointer (some ⟨g, 0, none⟩), .agg #[.bool true, .bool vh, .slice a1 n1 k1, .slice a2 n2 k2, .slice a3 ks.length k3], .int .i64 d] _ _
      go_enter Tryd.func32, Tryd.ntmps32
      go_upto_region 1 with fail
      change Code.wp _ _ _ _ (w.alloc (.cells #[.bool true, .bool vh, .slice a1 n1 k1, .slice a2 n2 k2, .slice a3 ks.length k3] 33))
      generalize (w.alloc (.cells #[.bool true, .bool vh, .slice a1 n1 k1, .slice a2 n2 k2, .slice a3 ks.length k3] 33)) = v0 at *
      have c0 := G0.cell 0 rfl
      have f0 := G0.frozen 0
      have e1 : IntKind.i64.wrap ((N : Int) + 1) = (N : Int) + 1 := IntWalk.i64_in _ ⟨by omega, by omega⟩
      go_upto_region 2 with fail
      have X1 := X0.far ⟨g, 0, none⟩ (.int .i64 ((N : Int) + 1)) (Ne.symm hgne)
      have G1 := G0.set 0 (.int .i64 ((N : Int) + 1))
      have B1 := B0.setCell (p := ⟨g, 0, none⟩) (.inl rfl) (.int .i64 ((N : Int) + 1))
      change Code.wp _ _ _ _ (v0.setCell ⟨g, 0, none⟩ (.int .i64 ((N : Int) + 1)))
      clear X0 G0 B0 c0 f0 e1 hg
      generalize (v0.setCell ⟨g, 0, none⟩ (.int .i64 ((N : Int) + 1))) = v1 at *
      replace G1 : Box v1 g 59 #[.int .i64 ((N : Int) + 1), .int .i64 S] := G1
      have c0 := G1.cell 0 rfl
      have l0 := X1.cell 0 rfl
      have l1 := X1.cell 1 rfl
      have l2 := X1.cell 2 rfl
      have l3 := X1.cell 3 rfl
      go_wp2_with fail
      go_ret
      exact ⟨N + 1, S, by rw [HU.out]; rfl, by have := G1; rwa [show ((N + 1 : Nat) : Int) = (N : Int) + 1 by omega], (fun h => by rw [HU.out] at h; cases h), B1⟩
    have hd16' : ¬ (16 : Int) < d := by omega
    cases vh with
    | true =>
      have HU : Hid ((Sx.mk true true hi da ks).okR d N = false) := Lib.hid (okR_unclean (by rw [clean_def, headOk1]; rfl))
      have X0 := Box.new w 33 #[.bool true, .bool true, .slice a1 n1 k1, .slice a2 n2 k2, .slice a3 ks.length k3]
      have G0 := hg.alloc (.cells #[.bool true, .bool true, .slice a1 n1 k1, .slice a2 n2 k2, .slice a3 ks.length k3] 33)
      have B0 : But (fun k => k = g) w (w.alloc (.cells #[.bool true, .bool true, .slice a1 n1 k1, .slice a2 n2 k2, .slice a3 ks.length k3] 33)) := (But.refl (fun k => k = g) w).alloc _
      show Calls _ _ #[.pointer (some ⟨g, 0, none⟩), .agg #[.bool true, .bool true, .slice a1 n1 k1, .slice a2 n2 k2, .slice a3 ks.length k3], .int .i64 d] _ _
      go_enter Tryd.func32, Tryd.ntmps32
      go_upto_region 1 with fail
      change Code.wp _ _ _ _ (w.alloc (.cells #[.bool true, .bool true, .slice a1 n1 k1, .slice a2 n2 k2, .slice a3 ks.length k3] 33))
      generalize (w.alloc (.cells #[.bool true, .bool true, .slice a1 n1 k1, .slice a2 n2 k2, .slice a3 ks.length k3] 33)) = v0 at *
      have c0 := G0.cell 0 rfl
      have f0 := G0.frozen 0
      have e1 : IntKind.i64.wrap ((N : Int) + 1) = (N : Int) + 1 := IntWalk.i64_in _ ⟨by omega, by omega⟩
      go_upto_region 2 with fail
      have X1 := X0.far ⟨g, 0, none⟩ (.int .i64 ((N : Int) + 1)) (Ne.symm hgne)
      have G1 := G0.set 0 (.int .i64 ((N : Int) + 1))
      have B1 := B0.setCell (p := ⟨g, 0, none⟩) (.inl rfl) (.int .i64 ((N : Int) + 1))
      change Code.wp _ _ _ _ (v0.setCell ⟨g, 0, none⟩ (.int .i64 ((N : Int) + 1)))
      clear X0 G0 B0 c0 f0 e1 hg
      generalize (v0.setCell ⟨g, 0, none⟩ (.int .i64 ((N : Int) + 1))) = v1 at *
      replace G1 : Box v1 g 59 #[.int .i64 ((N : Int) + 1), .int .i64 S] := G1
      have c0 := G1.cell 0 rfl
      have l0 := X1.cell 0 rfl
      have l1 := X1.cell 1 rfl
      have l2 := X1.cell 2 rfl
      have l3 := X1.cell 3 rfl
      go_wp2_with fail
      go_ret
      exact ⟨N + 1, S, by rw [HU.out]; rfl, by have := G1; rwa [show ((N + 1 : Nat) : Int) = (N : Int) + 1 by omega], (fun h => by rw [HU.out] at h; cases h), B1⟩
    | false =>
    by_cases h12 : 0 < n1 + n2
    case pos =>
      have h12' : 0 < (n1 : Int) + n2 := by omega
      have h12e : IntKind.i64.wrap ((n1 : Int) + n2) = (n1 : Int) + n2 := IntWalk.i64_in _ ⟨by omega, by omega⟩
      have HU : Hid ((Sx.mk true false hi da ks).okR d N = false) := Lib.hid (okR_unclean (by
        rw [clean_def]
        have e1 := HN1.out
        have e2 := HN2.out
        rcases Nat.lt_or_ge 0 hi.length with h | h
        · rw [headOk2 _ _ h]; rfl
        · rw [headOk3 _ _ (by omega)]; rfl))
      have X0 := Box.new w 33 #[.bool true, .bool false, .slice a1 n1 k1, .slice a2 n2 k2, .slice a3 ks.length k3]
      have G0 := hg.alloc (.cells #[.bool true, .bool false, .slice a1 n1 k1, .slice a2 n2 k2, .slice a3 ks.length k3] 33)
      have B0 : But (fun k => k = g) w (w.alloc (.cells #[.bool true, .bool false, .slice a1 n1 k1, .slice a2 n2 k2, .slice a3 ks.length k3] 33)) := (But.refl (fun k => k = g) w).alloc _
      show Calls _ _ #[.pointer (some ⟨g, 0, none⟩), .agg #[.bool true, .bool false, .slice a1 n1 k1, .slice a2 n2 k2, .slice a3 ks.length k3], .int .i64 d] _ _
      go_enter Tryd.func32, Tryd.ntmps32
      go_upto_region 1 with fail
      change Code.wp _ _ _ _ (w.alloc (.cells #[.bool true, .bool false, .slice a1 n1 k1, .slice a2 n2 k2, .slice a3 ks.length k3] 33))
      generalize (w.alloc (.cells #[.bool true, .bool false, .slice a1 n1 k1, .slice a2 n2 k2, .slice a3 ks.length k3] 33)) = v0 at *
      have c0 := G0.cell 0 rfl
      have f0 := G0.frozen 0
      have e1 : IntKind.i64.wrap ((N : Int) + 1) = (N : Int) + 1 := IntWalk.i64_in _ ⟨by omega, by omega⟩
      go_upto_region 2 with fail
      have X1 := X0.far ⟨g, 0, none⟩ (.int .i64 ((N : Int) + 1)) (Ne.symm hgne)
      have G1 := G0.set 0 (.int .i64 ((N : Int) + 1))
      have B1 := B0.setCell (p := ⟨g, 0, none⟩) (.inl rfl) (.int .i64 ((N : Int) + 1))
      change Code.wp _ _ _ _ (v0.setCell ⟨g, 0, none⟩ (.int .i64 ((N : Int) + 1)))
      clear X0 G0 B0 c0 f0 e1 hg
      generalize (v0.setCell ⟨g, 0, none⟩ (.int .i64 ((N : Int) + 1))) = v1 at *
      replace G1 : Box v1 g 59 #[.int .i64 ((N : Int) + 1), .int .i64 S] := G1
      have c0 := G1.cell 0 rfl
      have l0 := X1.cell 0 rfl
      have l1 := X1.cell 1 rfl
      have l2 := X1.cell 2 rfl
      have l3 := X1.cell 3 rfl
      go_wp2_with fail
      go_ret
      exact ⟨N + 1, S, by rw [HU.out]; rfl, by have := G1; rwa [show ((N + 1 : Nat) : Int) = (N : Int) + 1 by omega], (fun h => by rw [HU.out] at h; cases h), B1⟩
    obtain rfl : n1 = 0 := by omega
    obtain rfl : n2 = 0 := by omega
    have h12' : ¬ 0 < ((0 : Nat) : Int) + ((0 : Nat) : Int) := by omega
    have HH : Hid (headOk true false hi.length da.length ks.length = true) := Lib.hid (headOk4 _ (by have := HN1.out; omega) (by have := HN2.out; omega))
    have X0 := Box.new w 33 #[.bool true, .bool false, .slice a1 0 k1, .slice a2 0 k2, .slice a3 ks.length k3]
    have G0 := hg.alloc (.cells #[.bool true, .bool false, .slice a1 0 k1, .slice a2 0 k2, .slice a3 ks.length k3] 33)
    have B0 : But (fun k => k = g) w (w.alloc (.cells #[.bool true, .bool false, .slice a1 0 k1, .slice a2 0 k2, .slice a3 ks.length k3] 33)) := (But.refl (fun k => k = g) w).alloc _
    show Calls _ _ #[.pointer (some ⟨g, 0, none⟩), .agg #[.bool true, .bool false, .slice a1 0 k1, .slice a2 0 k2, .slice a3 ks.length k3], .int .i64 d] _ _
    go_enter Tryd.func32, Tryd.ntmps32
    go_upto_region 1 with fail
    change Code.wp _ _ _ _ (w.alloc (.cells #[.bool true, .bool false, .slice a1 0 k1, .slice a2 0 k2, .slice a3 ks.length k3] 33))
    generalize (w.alloc (.cells #[.bool true, .bool false, .slice a1 0 k1, .slice a2 0 k2, .slice a3 ks.length k3] 33)) = v0 at *
    have c0 := G0.cell 0 rfl
    have f0 := G0.frozen 0
    have e1 : IntKind.i64.wrap ((N : Int) + 1) = (N : Int) + 1 := IntWalk.i64_in _ ⟨by omega, by omega⟩
    go_upto_region 2 with fail
    have X1 := X0.far ⟨g, 0, none⟩ (.int .i64 ((N : Int) + 1)) (Ne.symm hgne)
    have G1 := G0.set 0 (.int .i64 ((N : Int) + 1))
    have B1 := B0.setCell (p := ⟨g, 0, none⟩) (.inl rfl) (.int .i64 ((N : Int) + 1))
    change Code.wp _ _ _ _ (v0.setCell ⟨g, 0, none⟩ (.int .i64 ((N : Int) + 1)))
    clear X0 G0 B0 c0 f0 e1 hg
    generalize (v0.setCell ⟨g, 0, none⟩ (.int .i64 ((N : Int) + 1))) = v1 at *
    replace G1 : Box v1 g 59 #[.int .i64 ((N : Int) + 1), .int .i64 S] := G1
    have c0 := G1.cell 0 rfl
    have c1 := G1.cell 1 rfl
    have f1 := G1.frozen 1
    have l0 := X1.cell 0 rfl
    have l1 := X1.cell 1 rfl
    have l2 := X1.cell 2 rfl
    have l3 := X1.cell 3 rfl
    have e2 : IntKind.i64.wrap ((S : Int) + 2) = (S : Int) + 2 := IntWalk.i64_in _ ⟨by omega, by omega⟩
    go_upto_region 13 with fail
    have X2 := X1.far ⟨g, 1, none⟩ (.int .i64 ((S : Int) + 2)) (Ne.symm hgne)
    have G2 := G1.set 1 (.int .i64 ((S : Int) + 2))
    have B2 := B1.setCell (p := ⟨g, 1, none⟩) (.inl rfl) (.int .i64 ((S : Int) + 2))
    change Code.wp _ _ _ _ (v1.setCell ⟨g, 1, none⟩ (.int .i64 ((S : Int) + 2)))
    clear X1 G1 B1 c0 c1 f1 l0 l1 l2 l3 e2
    generalize (v1.setCell ⟨g, 1, none⟩ (.int .i64 ((S : Int) + 2))) = v2 at *
    replace G2 : Box v2 g 59 #[.int .i64 ((N + 1 : Nat) : Int), .int .i64 ((S + 2 : Nat) : Int)] := by rw [show ((N + 1 : Nat) : Int) = (N : Int) + 1 by omega, show ((S + 2 : Nat) : Int) = (S : Int) + 2 by omega]; exact G2
    have l4 := X2.cell 4 rfl
    go_wp2_with fail
    go_loopw [8, 81] (fun _ k wr => ∃ n : Nat, n ≤ ks.length ∧ k = .int .i64 n ∧ Hid (Sx.cleanL (ks.take n) = true ∧ Sx.deepL (ks.take n) + d ≤ 16) ∧ N + 1 + Sx.nodesL (ks.take n) ≤ 512 ∧ S + 2 + (Sx.formL (ks.take n)).length ≤ 20000 * (N + 1 + Sx.nodesL (ks.take n)) ∧
      Box wr g 59 #[.int .i64 ((N + 1 + Sx.nodesL (ks.take n) : Nat) : Int), .int .i64 ((S + 2 + (Sx.formL (ks.take n)).length : Nat) : Int)] ∧ Box wr w.heap.size 33 #[.bool true, .bool false, .slice a1 0 k1, .slice a2 0 k2, .slice a3 ks.length k3] ∧ But (fun k => k = g) w wr) (fun _ k _ => ks.length - (intOf k).toNat)
    case atStart => exact ⟨0, Nat.zero_le _, rfl, Lib.hid ⟨rfl, by simp [Sx.deepL]; omega⟩, by simp [Sx.nodesL]; omega, by simp [Sx.nodesL, Sx.formL]; omega, by simpa [Sx.nodesL, Sx.formL] using G2, X2, B2⟩
    case round =>
      obtain ⟨n, hnl, rfl, HC, hN2, hS2, G, X, B⟩ := hrel
      clear X2 G2 B2 l4
      have l4 := X.cell 4 rfl
      by_cases hlt : n < ks.length
      · obtain ⟨b, o, rfl, hld⟩ := (HR.out.but B HRR.out.inb.2.2 (fun k h => h)).range hlt
        have HL := Lib.hid hld
        have hrd := (HK.out n hlt).but B (fun k h => h)
        have hks := HWK.out ks[n] (List.getElem_mem hlt)
        have hfk := form_wide _ _ hks
        have HRd := Lib.hid hrd
        have HKS := Lib.hid hks
        have htab := Lib.hid (HTX.out.but B)
        have ewr : IntKind.i64.wrap ((d : Int) + 1) = (d : Int) + 1 := IntWalk.i64_in _ ⟨by omega, by omega⟩
        obtain ⟨ck, hck⟩ : ∃ ck, ck = ks[n].okR (d + 1) (N + 1 + Sx.nodesL (ks.take n)) := ⟨_, rfl⟩
        have HCK := Lib.hid hck
        have IH2 : Hid (∀ w, Box w g 59 #[.int .i64 ((N + 1 + Sx.nodesL (ks.take n) : Nat) : Int), .int .i64 ((S + 2 + (Sx.formL (ks.take n)).length : Nat) : Int)] → RdI (fun k => k ≠ g) w (K n) ks[n] → TabX (fun k => k = g) w →
            Calls Tryd.prog 32 #[.pointer (some ⟨g, 0, none⟩), (K n).val, .int .i64 ((d : Int) + 1)] w (RightP g ck (N + 1 + Sx.nodesL (ks.take n) + ks[n].nodes) (S + 2 + (Sx.formL (ks.take n)).length + ks[n].form.length) w)) :=
          Lib.hid fun w h1 h2 h3 => by
            have := IH.out _ (List.getElem_mem hlt) (K n) g (N + 1 + Sx.nodesL (ks.take n)) (S + 2 + (Sx.formL (ks.take n)).length) (d + 1) (m + 1) w h1 h2 HKS.out h3 hN2 hS2 (by omega)
            rw [← hck] at this
            exact this
        clear hrd hld hks hck
        go_upto_region 16 with first | (refine wpList_load_sv rfl _ rfl b _ rfl _ HL.out ?_) | (refine wpList_store_box (cells := (K n).cells) rfl 33 _ _ rfl (Box.new _ _ _) (by rfl) (by rfl) rfl (by kernel_rfl) (SV.one _) ?_; intro u1 Y1 st1)
        have hbu : Below wr.heap.size wr u1 := st1.below wr.heap.size wr (Nat.le_refl _) ((Below.refl _ _).alloc (Nat.le_refl _) _)
        have hwz := B.size
        have hgz := G.lt
        have B' : But (fun k => k = g) w u1 := (B.alloc _).trans (But.ofStored st1 (st1.below 0 _ (Nat.zero_le _) (Below.refl 0 _))) (fun k hk => .inr (by omega))
        have G' := G.after hbu
        have X' := X.after hbu
        have HRd' := Lib.hid (HRd.out.after hbu)
        have htab' := Lib.hid (htab.out.but (But.ofBelow hbu))
        have HY := Lib.hid Y1
        have hzu : wr.heap.size < u1.heap.size := Y1.lt
        clear st1 hbu B G X HRd htab HL Y1 l4
        go_wp2_with (refine wpList_load_box rfl 33 _ rfl HY.out (by rfl) Tryd.underlying33 rfl (by kernel_rfl) ?_)
        refine (IH2.out _ G' HRd'.out htab'.out).mono ?_
        rintro e v3 ⟨N3, S3, rfl, G3, hok, b3⟩
        have X3 := b3.box X' (by omega)
        have B3 := B'.trans b3 (fun k hk => .inl hk)
        have HOK := Lib.hid hok
        clear hok b3 G' X' B'
        cases ck with
        | false =>
          have HU : Hid ((Sx.mk true false hi da ks).okR d N = false) := Lib.hid (okR_kid n hlt HCK.out.symm)
          go_wp2_with fail
          go_ret
          exact ⟨N3, S3, by rw [HU.out]; rfl, G3, (fun h => by rw [HU.out] at h; cases h), B3⟩
        | true =>
          have hpp := okR_parts HCK.out.symm
          have HPP := Lib.hid hpp
          have hp2 := hpp.2.1
          have HSN := Lib.hid (Sx.nodesL_snoc ks n hlt)
          have HSF := Lib.hid (Sx.formL_snoc ks n hlt)
          have hfk' := hfk
          clear hpp
          go_wp2_with fail
          go_roundw
          case rel =>
            obtain ⟨rfl, rfl⟩ := HOK.out (by trivial)
            refine ⟨n + 1, by omega, by go_num, Lib.hid ⟨by rw [Sx.cleanL_snoc ks n hlt, HC.out.1, HPP.out.1]; rfl, by rw [Sx.deepL_snoc ks n hlt]; have := HC.out.2; have := HPP.out.2.2; omega⟩, by rw [HSN.out]; omega, by rw [HSN.out, HSF.out, List.length_append]; omega, ?_, X3, B3⟩
            rw [HSN.out, HSF.out, List.length_append, ← Nat.add_assoc, ← Nat.add_assoc]
            exact G3
          case measure => simp [intOf]; omega
      · have hnn : n = ks.length := by omega
        subst hnn
        have hC := HC.out
        rw [List.take_length] at hC hN2 G
        have HU : Hid ((Sx.mk true false hi da ks).okR d N = true) := Lib.hid (okR_list (by omega) hmany HH.out ⟨hC.1, hC.2, hN2⟩)
        have G' := Lib.hid G
        clear hC G HC
        go_wp2_with fail
        go_ret
        refine ⟨_, _, by rw [HU.out]; rfl, G'.out, fun _ => ⟨by simp only [Sx.nodes]; omega, ?_⟩, B⟩
        rw [form_def, if_pos rfl]
        simp only [List.length_cons, List.length_append, List.length_nil]
        omega

set_option maxHeartbeats 2000000 in
set_option maxRecDepth 100000 in
theorem may_any (s : Sx) (v : SV) (w : World) (hr : Rd w v s) (m : Nat) (hw : s.wide m = false) (ht : Tab w) : Calls Tryd.prog 24 #[v.val] w fun e w' => e = .returned (.bool s.may) ∧ Below w.heap.size w w' := by
  obtain ⟨vl, vh, a1, n1, k1, a2, n2, k2, a3, n3, k3⟩ := v
  have B0 : Below w.heap.size w ((w.alloc (.cells #[.bool vl, .bool vh, .slice a1 n1 k1, .slice a2 n2 k2, .slice a3 n3 k3] 33)).alloc (.cells #[.int .i64 0, .int .i64 0] 59)) := ((Below.refl _ _).alloc (Nat.le_refl _) _).alloc (by simp) _
  have X0 : Box ((w.alloc (.cells #[.bool vl, .bool vh, .slice a1 n1 k1, .slice a2 n2 k2, .slice a3 n3 k3] 33)).alloc (.cells #[.int .i64 0, .int .i64 0] 59)) w.heap.size 33 #[.bool vl, .bool vh, .slice a1 n1 k1, .slice a2 n2 k2, .slice a3 n3 k3] := (Box.new _ _ _).alloc _
  have G0 : Box ((w.alloc (.cells #[.bool vl, .bool vh, .slice a1 n1 k1, .slice a2 n2 k2, .slice a3 n3 k3] 33)).alloc (.cells #[.int .i64 0, .int .i64 0] 59)) (w.heap.size + 1) 59 #[.int .i64 0, .int .i64 0] := by
    have := Box.new (w.alloc (.cells #[.bool vl, .bool vh, .slice a1 n1 k1, .slice a2 n2 k2, .slice a3 n3 k3] 33)) 59 #[.int .i64 0, .int .i64 0]
    simpa using this
  have hrd := (hr.there.mono (ok' := fun k => k ≠ w.heap.size + 1) (fun b hb => by have := hb.2; omega)).after B0
  have htx : TabX (fun k => k = w.heap.size + 1) ((w.alloc (.cells #[.bool vl, .bool vh, .slice a1 n1 k1, .slice a2 n2 k2, .slice a3 n3 k3] 33)).alloc (.cells #[.int .i64 0, .int .i64 0] 59)) := TabX.new ht B0 (fun k hk => by omega)
  obtain ⟨ok, hok⟩ : ∃ ok, ok = s.okR 1 0 := ⟨_, rfl⟩
  have HM : Hid (s.may = (ok && decide (s.form.length ≤ 4096))) := Lib.hid (by rw [hok]; exact may_okR s)
  have CALL := Lib.hid (right_any s ⟨vl, vh, a1, n1, k1, a2, n2, k2, a3, n3, k3⟩ (w.heap.size + 1) 0 0 1 m ((w.alloc (.cells #[.bool vl, .bool vh, .slice a1 n1 k1, .slice a2 n2 k2, .slice a3 n3 k3] 33)).alloc (.cells #[.int .i64 0, .int .i64 0] 59)) G0 hrd hw htx (by omega) (by omega) (by omega))
  rw [← hok, Nat.zero_add, Nat.zero_add] at CALL
  have HX := Lib.hid X0
  clear hrd htx hok hr ht hw X0 G0
  show Calls _ _ #[.agg #[.bool vl, .bool vh, .slice a1 n1 k1, .slice a2 n2 k2, .slice a3 n3 k3]] _ _
  go_enter Tryd.func24, Tryd.ntmps24
  go_upto_region 2 with fail
  change Code.wp _ _ _ _ ((w.alloc (.cells #[.bool vl, .bool vh, .slice a1 n1 k1, .slice a2 n2 k2, .slice a3 n3 k3] 33)).alloc (.cells #[.int .i64 0, .int .i64 0] 59))
  have hz : w.heap.size ≤ ((w.alloc (.cells #[.bool vl, .bool vh, .slice a1 n1 k1, .slice a2 n2 k2, .slice a3 n3 k3] 33)).alloc (.cells #[.int .i64 0, .int .i64 0] 59)).heap.size := by simp; omega
  generalize ((w.alloc (.cells #[.bool vl, .bool vh, .slice a1 n1 k1, .slice a2 n2 k2, .slice a3 n3 k3] 33)).alloc (.cells #[.int .i64 0, .int .i64 0] 59)) = v0 at *
  go_wp2_with (refine wpList_load_box rfl 33 _ rfl HX.out (by rfl) Tryd.underlying33 rfl (by kernel_rfl) ?_)
  refine CALL.out.mono ?_
  rintro e v1 ⟨N2, S2, rfl, G1, hN, b1⟩
  have HB := But.after B0 b1 hz (fun k hk => by omega)
  have HOK := Lib.hid hN
  have g1 := G1.cell 1 rfl
  clear hN b1 CALL
  cases ok with
  | false =>
    go_wp2_with fail
    go_ret
    exact ⟨by rw [HM.out]; rfl, HB⟩
  | true =>
    obtain ⟨rfl, rfl⟩ := HOK.out (by trivial)
    go_wp2_with fail
    go_ret
    exact ⟨by
      rw [HM.out]
      show Ending.returned (.bool (decide ((s.form.length : Int) ≤ 4096))) = _
      rw [show decide ((s.form.length : Int) ≤ 4096) = decide (s.form.length ≤ 4096) from decide_eq_decide.2 (by omega)]
      rfl, HB⟩

end Go.Proofs.YthmigigclmogiaaDoor
namespace Go.Proofs.YthmigigclmogiaaDoor
open Go.RowKit
set_option linter.unusedSimpArgs false
set_option linter.unusedVariables false

/-! what is to be put yet -/
def itF : Option Sx → List UInt8
  | none => [41]
  | some t => t.form
def itW : Option Sx → Nat
  | none => 1
  | some t => 2 * t.nodes
def stF : List (Option Sx) → List UInt8
  | [] => []
  | x :: r => stF r ++ itF x
def stW : List (Option Sx) → Nat
  | [] => 0
  | x :: r => stW r + itW x
theorem stF_snoc (l : List (Option Sx)) (x : Option Sx) : stF (l ++ [x]) = itF x ++ stF l := by
  induction l with
  | nil => simp [stF]
  | cons a r ih => simp [stF, ih]
theorem stW_snoc (l : List (Option Sx)) (x : Option Sx) : stW (l ++ [x]) = stW l + itW x := by
  induction l with
  | nil => simp [stW]
  | cons a r ih => simp only [List.cons_append, stW, ih]; omega
theorem itW_pos (x : Option Sx) : 1 ≤ itW x := by
  cases x with
  | none => exact Nat.le_refl _
  | some t => have := nodes_pos t; simp only [itW]; omega
theorem stW_len (l : List (Option Sx)) : l.length ≤ stW l := by
  induction l with
  | nil => exact Nat.le_refl _
  | cons a r ih => have := itW_pos a; simp only [List.length_cons, stW]; omega

/-- a value, or a list's end, to be put -/
def ItemAt (w : World) (B : Nat) (p : Value) : Option Sx → Prop
  | none => p = .pointer none
  | some t => ∃ b k v, p = .pointer (some ⟨b, k, none⟩) ∧ b < B ∧ w.rangeAt b k v.cells.toList ∧ RdI (fun k => k < B) w v t ∧ ∃ m, t.wide m = false
def Items (w : World) (B : Nat) (ps : List Value) (its : List (Option Sx)) : Prop := ps.length = its.length ∧ ∀ (j : Nat) (p : Value) (it : Option Sx), ps[j]? = some p → its[j]? = some it → ItemAt w B p it
theorem Items.nil (w : World) (B : Nat) : Items w B [] [] := ⟨rfl, fun j p it h => by simp at h⟩
theorem Items.snoc {w : World} {B : Nat} {ps : List Value} {its : List (Option Sx)} {p : Value} {it : Option Sx} (h : Items w B ps its) (hp : ItemAt w B p it) : Items w B (ps ++ [p]) (its ++ [it]) := by
  refine ⟨by simp [h.1], fun j q jt h1 h2 => ?_⟩
  rw [List.getElem?_append] at h1 h2
  rw [← h.1] at h2
  by_cases hj : j < ps.length
  · rw [if_pos hj] at h1 h2
    exact h.2 j q jt h1 h2
  · rw [if_neg hj] at h1 h2
    have e : j - ps.length = 0 := by
      rcases Nat.eq_zero_or_pos (j - ps.length) with e | e
      · exact e
      · rw [List.getElem?_eq_none (by simp; omega)] at h1; cases h1
    rw [e] at h1 h2
    simp at h1 h2
    subst h1 h2
    exact hp
theorem Items.pop {w : World} {B : Nat} {ps : List Value} {its : List (Option Sx)} (h : Items w B ps its) (hn : ps ≠ []) :
    ∃ ps' p its' it, ps = ps' ++ [p] ∧ its = its' ++ [it] ∧ Items w B ps' its' ∧ ItemAt w B p it := by
  have hn2 : its ≠ [] := fun e => hn (List.eq_nil_of_length_eq_zero (by have := h.1; rw [e] at this; exact this))
  obtain ⟨ps', p, rfl⟩ : ∃ ps' p, ps = ps' ++ [p] := ⟨_, _, (List.dropLast_concat_getLast hn).symm⟩
  obtain ⟨its', it, rfl⟩ : ∃ ps' p, its = ps' ++ [p] := ⟨_, _, (List.dropLast_concat_getLast hn2).symm⟩
  have hl : ps'.length = its'.length := by have := h.1; simpa using this
  refine ⟨ps', p, its', it, rfl, rfl, ⟨hl, fun j q jt h1 h2 => ?_⟩, ?_⟩
  · have e1 : j < ps'.length := (List.getElem?_eq_some_iff.1 h1).1
    exact h.2 j q jt (by rw [List.getElem?_append_left e1]; exact h1) (by rw [List.getElem?_append_left (hl ▸ e1)]; exact h2)
  · exact h.2 ps'.length p it (by simp) (by rw [hl]; simp)

theorem OwnG.form {w : World} {B size n : Nat} {v : Value} {xs : List Value} (h : OwnG w B size v n xs) (hn : n ≠ 0) : ∃ g o cap, v = .slice (some ⟨g, o, none⟩) n cap ∧ n ≤ cap ∧ cap ≤ maxLen ∧ w.rangeAt g o xs := by
  rcases h.2 with ⟨_, h2⟩ | ⟨g, o, cap, h2, _, _, h5, h6, _, h8⟩
  · exact absurd h2 hn
  · exact ⟨g, o, cap, h2, h5, h6, h8⟩
theorem OwnG.shape {w : World} {B size n : Nat} {v : Value} {xs : List Value} (h : OwnG w B size v n xs) : ∃ a cap, v = .slice a n cap := by
  rcases h.2 with ⟨h1, h2⟩ | ⟨g, o, cap, h2, _⟩
  · subst h2; exact ⟨_, _, h1⟩
  · exact ⟨_, _, h2⟩
theorem OwnG.pop {w : World} {B g o n cap : Nat} {xs : List Value} {x : Value} (h : OwnG w B 1 (.slice (some ⟨g, o, none⟩) (n + 1) cap) (n + 1) (xs ++ [x])) : OwnG w B 1 (.slice (some ⟨g, o, none⟩) n cap) n xs := by
  obtain ⟨h1, h2⟩ := h
  rcases h2 with ⟨h2, _⟩ | ⟨g', o', cap', h2, h3, h4, h5, h6, h7, h8⟩
  · cases h2
  · cases h2
    exact .made (by simp at h1; omega) h3 h4 (by omega) h6 h7 (fun j u hu => h8 j u (by rw [List.getElem?_append_left (List.getElem?_eq_some_iff.1 hu).1]; exact hu))

theorem news_cell {w : World} {h : Nat} {p : Value} (hc : w.cell? ⟨h, 0, none⟩ = some p) : ∀ (j : Nat) (u : Value), [p][j]? = some u → w.cell? ((⟨h, 0, none⟩ : Addr).add j) = some u := by
  intro j u hu
  match j with
  | 0 => simp at hu; subst hu; exact hc
  | j + 1 => simp at hu
/-- both rows of the call's own, apart -/
structure Two (v0 : World) (B : Nat) (w : World) (vo : Value) (l : List UInt8) (vt : Value) (ps : List Value) : Prop where
  out : OwnB w B vo l
  todo : OwnG w B 1 vt ps.length ps
  apart : ∀ k, vo.ownBlock = some k → vt.ownBlock ≠ some k
  below : Below B v0 w
  size : B ≤ w.heap.size
theorem Two.after {v0 w w' : World} {B : Nat} {vo vt : Value} {l : List UInt8} {ps : List Value} (h : Two v0 B w vo l vt ps) (hb : Below w.heap.size w w') : Two v0 B w' vo l vt ps :=
  ⟨h.out.after hb, h.todo.after hb, h.apart, h.below.trans (hb.mono h.size), Nat.le_trans h.size hb.size⟩
theorem Two.alloc {v0 w : World} {B : Nat} {vo vt : Value} {l : List UInt8} {ps : List Value} (h : Two v0 B w vo l vt ps) (o : Obj) : Two v0 B (w.alloc o) vo l vt ps := h.after ((Below.refl _ _).alloc (Nat.le_refl _) _)
/-- out has been written on -/
theorem Two.wrote {v0 w w' : World} {B : Nat} {vo vt vo' : Value} {l l' : List UInt8} {ps : List Value} (h : Two v0 B w vo l vt ps) (ho : OwnB w' B vo' l') (hb : But (fun k => vo.ownBlock = some k) w w') (hw : ∀ k, vo'.ownBlock = some k → vo.ownBlock = some k ∨ w.heap.size ≤ k) : Two v0 B w' vo' l' vt ps :=
  ⟨ho, h.todo.but hb (fun k hk e => h.apart k e hk), fun k hk => (hw k hk).elim (h.apart k) (fun e e' => by have := (h.todo.lt k e').2; omega), But.after h.below hb h.size (fun k hk => (h.out.own k hk).1), Nat.le_trans h.size hb.size⟩
theorem Two.wrote' {v0 w w' : World} {B : Nat} {vo vt vo' : Value} {l l' : List UInt8} {ps : List Value} (h : Two v0 B w vo l vt ps) (ho : OwnB w' B vo' l') (hb : w.grownBy w' vo.ownBlock) (hw : ∀ k, vo'.ownBlock = some k → vo.ownBlock = some k ∨ w.heap.size ≤ k) : Two v0 B w' vo' l' vt ps :=
  h.wrote ho (But.ofGrown hb fun k hk => hk) hw
/-- one more is to be put -/
theorem Two.pushed {v0 w w' : World} {B : Nat} {vo vt vt' : Value} {l : List UInt8} {ps ps' : List Value} (h : Two v0 B w vo l vt ps) (hn : OwnG w' B 1 vt' ps'.length ps') (hg : w.grownBy w' vt.ownBlock) (hw : ∀ k, vt'.ownBlock = some k → vt.ownBlock = some k ∨ w.heap.size ≤ k) : Two v0 B w' vo l vt' ps' := by
  have hb : But (fun k => vt.ownBlock = some k) w w' := But.ofGrown hg fun k hk => hk
  exact ⟨OwnG.but h.out hb (fun k hk e => h.apart k hk e), hn, fun k hk e => (hw k e).elim (h.apart k hk) (fun e' => by have := (h.out.own k hk).2; omega), But.after h.below hb h.size (fun k hk => (h.todo.lt k hk).1), Nat.le_trans h.size hb.size⟩

theorem wp_of_run {P : Program} {o : Oper} {a : Act} {w : World} {K : Act → World → Prop} {Q : Exit → Act → World → Prop} (v : Value) (w' : World) (hr : (execOp a.eval o).run P w = .ok (.value v) w') (h : K (a.put o.dst v) w') : o.wp P a w K Q := by
  unfold Oper.wp
  rw [hr]
  exact h

theorem range_at {w w' : World} {B b k : Nat} {v : SV} (h : w.rangeAt b k v.cells.toList) (hb : b < B) (hB : Below B w w') (j : Nat) {u : Value} (hu : v.cells[j]? = some u) : w'.cell? ⟨b, k + j, none⟩ = some u :=
  (hB.cell (p := ⟨b, k + j, none⟩) hb).trans (h j u (by simpa using hu))
theorem formL_drop {ks : List Sx} (i : Nat) (h : i < ks.length) : Sx.formL (ks.drop (ks.length - (i + 1))) = (ks[ks.length - 1 - i]'(by omega)).form ++ Sx.formL (ks.drop (ks.length - i)) := by
  rw [List.drop_eq_getElem_cons (by omega)]
  simp only [Sx.formL]
  congr 2 <;> (try congr 1) <;> omega
theorem nodesL_drop {ks : List Sx} (i : Nat) (h : i < ks.length) : Sx.nodesL (ks.drop (ks.length - (i + 1))) = (ks[ks.length - 1 - i]'(by omega)).nodes + Sx.nodesL (ks.drop (ks.length - i)) := by
  rw [List.drop_eq_getElem_cons (by omega)]
  simp only [Sx.nodesL]
  congr 2 <;> (try congr 1) <;> omega

/-- the form, or the error -/
def PutR (s : Sx) (w : World) (e : Ending) (w' : World) : Prop :=
  (s.may = true ∧ ∃ v, e = .returned (.tuple #[v, .int .i64 0]) ∧ OwnB w' w.heap.size v s.form ∧ Below w.heap.size w w') ∨
  (s.may = false ∧ e = .returned (.tuple #[.slice none 0 0, .int .i64 4]) ∧ Below w.heap.size w w')


end Go.Proofs.YthmigigclmogiaaDoor
namespace Go.Proofs.YthmigigclmogiaaDoor
open Go.RowKit
set_option linter.unusedSimpArgs false
set_option linter.unusedVariables false

/-- a value is handed back that reads as a tree -/
def ValP (s : Sx) (w : World) (e : Ending) (w' : World) : Prop := ∃ v : SV, e = .returned v.val ∧ Rd w' v s ∧ Below w.heap.size w w'

theorem rd_atom {w : World} {a : Option Addr} {n c : Nat} {l : List UInt8} (h : Sl w a n c l) : Rd w ⟨false, false, none, 0, 0, a, n, c, none, 0, 0⟩ (.mk false false [] l []) :=
  .mk _ [] l [] (fun _ => SV.nil) (Sl.nil w) (.inl rfl) h (.inr fun _ _ _ _ => trivial) ⟨Nat.le_refl _, Nat.zero_le _, fun _ => rfl, .inl rfl⟩ (.inl rfl) rfl (fun i hi => by cases hi)

/-- the cells of a row, one behind the other -/
def newsK (K : Nat → SV) : Nat → List Value
  | 0 => []
  | n + 1 => newsK K n ++ (K n).cells.toList
theorem newsK_len (K : Nat → SV) (n : Nat) : (newsK K n).length = n * 5 := by
  induction n with
  | zero => rfl
  | succ n ih => simp only [newsK, List.length_append, ih]; rw [Array.length_toList, SV.cells_size]; omega
theorem newsK_at (K : Nat → SV) (n i j : Nat) (hi : i < n) (hj : j < 5) : (newsK K n)[i * 5 + j]? = (K i).cells[j]? := by
  induction n with
  | zero => omega
  | succ n ih =>
    simp only [newsK]
    by_cases h : i < n
    · rw [List.getElem?_append_left (by rw [newsK_len]; omega), ih h]
    · obtain rfl : i = n := by omega
      rw [List.getElem?_append_right (by rw [newsK_len]; omega), newsK_len, Nat.add_sub_cancel_left]
      simp
theorem newsK_congr {K K' : Nat → SV} {n : Nat} (h : ∀ i, i < n → K i = K' i) : newsK K n = newsK K' n := by
  induction n with
  | zero => rfl
  | succ n ih => simp only [newsK]; rw [ih (fun i hi => h i (by omega)), h n (by omega)]
theorem newsK_one (K : Nat → SV) (n : Nat) : ∀ u ∈ newsK K n, u.oneCell' = true := by
  induction n with
  | zero => intro u hu; cases hu
  | succ n ih =>
    intro u hu
    simp only [newsK, List.mem_append] at hu
    rcases hu with hu | hu
    · exact ih u hu
    · exact (Array.all_eq_true_iff_forall_mem.1 (SV.one (K n))) u (by simpa using hu)
theorem newsK_cells {w : World} {b o n c : Nat} {K : Nat → SV} (h : RowAt w (some ⟨b, o, none⟩) n c K) : ∀ j u, (newsK K n)[j]? = some u → w.cell? ((⟨b, o, none⟩ : Addr).add j) = some u := by
  intro j u hu
  have hlt : j < n * 5 := by rw [← newsK_len K n]; exact (List.getElem?_eq_some_iff.1 hu).1
  have e : j = j / 5 * 5 + j % 5 := by omega
  rw [e, newsK_at K n _ _ (by omega) (by omega)] at hu
  rw [Addr.add_mid]
  have := h.rangeA (i := j / 5) (by omega) (j % 5) u (by simpa using hu)
  rwa [show o + j / 5 * 5 + j % 5 = o + j by omega] at this
theorem OwnG.row {w : World} {B n : Nat} {v : Value} {K : Nat → SV} (h : OwnG w B 5 v n (newsK K n)) : ∃ a c, v = .slice a n c ∧ RowAt w a n c K ∧ InB (fun k => B ≤ k) a n := by
  rcases h.2 with ⟨rfl, rfl⟩ | ⟨g, o, cap, rfl, h3, h4, h5, h6, h7, h8⟩
  · exact ⟨none, 0, rfl, ⟨Nat.le_refl _, Nat.zero_le _, fun _ => rfl, .inl rfl⟩, .inl rfl⟩
  · refine ⟨_, _, rfl, ⟨h5, h6, (fun h => by cases h), .inr ⟨g, o, rfl, fun i hi j u hu => ?_⟩⟩, .inr fun b o' s e => by cases e; exact h3⟩
    have hj : j < 5 := by rw [← SV.cells_size (K i)]; exact (Array.getElem?_eq_some_iff.1 hu).1
    have := h8 (i * 5 + j) u (by rw [newsK_at K n i j hi hj]; exact hu)
    rwa [← Nat.add_assoc] at this

theorem infoSV : (Tryd.prog.info? 33).map (fun i => (i.zero, i.size, i.bytes)) = some (some SV.nil.val, 5, 80) := by kernel_rfl
theorem nilV_size : SV.nil.val.cells.size = 5 := rfl
/-- 'append(out, l...)' of values -/
theorem wp_append_K {o : Oper} {a : Act} {w : World} {B n : Nat} {v : Value} {xs : List Value} {K : Act → World → Prop} {Q : Exit → Act → World → Prop} (s x : Operand)
    (ho : o.op = .call { callee := .builtin .append, args := #[s, x], argTypes := #[31, 31] })
    (hs : a.eval s = v) (h : OwnG w B 5 v n xs) {m : Nat} {news : List Value} {xv : Value} (hx : a.eval x = xv) (hsrc : Src Tryd.prog 5 31 xv m news w) (hn : n + m ≤ 1000000) (hB : B ≤ w.heap.size)
    (hk : ∀ v' w', OwnG w' B 5 v' (n + m) (xs ++ news) → w.grownBy w' v.ownBlock → (∀ k, v'.ownBlock = some k → v.ownBlock = some k ∨ w.heap.size ≤ k) → K (a.put o.dst v') w') : o.wp Tryd.prog a w K Q := by
  obtain ⟨i0, hi, hi2⟩ := Option.map_eq_some_iff.1 infoSV
  simp only [Prod.mk.injEq] at hi2
  obtain ⟨hz0, hz1, hz2⟩ := hi2
  exact wp_append_G s x 31 31 ho 33 i0 SV.nil.val 80 Tryd.underlying31 hi hz0 hz1 hz2 nilV_size (by decide) hs h _ hx m news hsrc (by unfold maxLen; omega) (by omega) hB hk
theorem wpList_append_K {ops : Array Oper} {rest : List Oper} {o : Oper} {a : Act} {w : World} {B n : Nat} {v : Value} {xs : List Value} {Q : Exit → Act → World → Prop} (hgd : o.guard = none) (s x : Operand)
    (ho : o.op = .call { callee := .builtin .append, args := #[s, x], argTypes := #[31, 31] })
    (hs : a.eval s = v) (h : OwnG w B 5 v n xs) {m : Nat} {news : List Value} {xv : Value} (hx : a.eval x = xv) (hsrc : Src Tryd.prog 5 31 xv m news w) (hn : n + m ≤ 1000000) (hB : B ≤ w.heap.size)
    (hk : ∀ v' w', OwnG w' B 5 v' (n + m) (xs ++ news) → w.grownBy w' v.ownBlock → (∀ k, v'.ownBlock = some k → v.ownBlock = some k ∨ w.heap.size ≤ k) → wpList Tryd.prog ops Q rest (a.put o.dst v') w') : wpList Tryd.prog ops Q (o :: rest) a w :=
  wpList_plain hgd fun _ hK => wp_append_K s x ho hs h hx hsrc hn hB fun v' w' h1 h2 h3 => hK _ _ (hk v' w' h1 h2 h3)

/-- a row of the call's own -/
def RowP (n : Nat) (K : Nat → SV) (w : World) (e : Ending) (w' : World) : Prop := ∃ a c, e = .returned (.slice a n c) ∧ RowAt w' a n c K ∧ InB (fun k => w.heap.size ≤ k) a n ∧ Below w.heap.size w w'

set_option maxHeartbeats 2000000 in
set_option maxRecDepth 100000 in
theorem cloneK_any (a : Option Addr) (n c : Nat) (K : Nat → SV) (w : World) (hr : RowAt w a n c K) (hn : n ≤ 1000) : Calls Tryd.prog 42 #[.slice a n c] w (RowP n K w) := by
  cases a with
  | none =>
    have hc := hr.2.2.1 rfl
    have hle := hr.1
    obtain rfl : n = 0 := by omega
    subst hc
    clear hle hn
    have hnn : ∀ W, (binOp .eql 31 (.slice none 0 0) (.slice none 0 0)).run Tryd.prog W = .ok (.bool true) W := fun _ => rfl
    go_enter Tryd.func42, Tryd.ntmps42
    go_wp2_with fail
    go_ret
    exact ⟨none, 0, rfl, ⟨Nat.le_refl _, Nat.zero_le _, fun _ => rfl, .inl rfl⟩, .inl rfl, Below.refl _ _⟩
  | some ad =>
    have hnn : ∀ W, (binOp .eql 31 (.slice (some ad) n c) (.slice none 0 0)).run Tryd.prog W = .ok (.bool false) W := fun _ => rfl
    have hb0 : Below w.heap.size w (w.alloc (.cells #[] 33)) := (Below.refl _ _).alloc (Nat.le_refl _) _
    have ho0 : OwnG (w.alloc (.cells #[] 33)) w.heap.size 5 (.slice (some ⟨w.heap.size, 0, none⟩) 0 0) 0 [] := OwnG.new w w.heap.size 5 (Nat.le_refl _) #[] 33 0 0 (Nat.le_refl _) (Nat.zero_le _) rfl
    have hsrc : Src Tryd.prog 5 31 (.slice (some ad) n c) n (newsK K n) (w.alloc (.cells #[] 33)) := by
      refine Src.ofSlice _ Tryd.underlying31 ad n c _ (newsK_len K n) ?_ (newsK_one K n)
      have hr' := hr.after hb0
      rcases hr'.2.2.2 with h0 | ⟨b, o, e, h4⟩
      · subst h0
        intro j u hu
        simp [newsK] at hu
      · cases e
        exact newsK_cells hr'
    have HO := Lib.hid ho0
    have HS := Lib.hid hsrc
    clear ho0 hsrc hr
    go_enter Tryd.func42, Tryd.ntmps42
    go_wp2_with (refine wpList_append_K rfl _ _ rfl rfl HO.out rfl HS.out (by omega) (by simp) ?_; intro v2 w2 ho2 hg2 hw2)
    rw [Nat.zero_add, List.nil_append] at ho2
    obtain ⟨a', c', rfl, h5, h6⟩ := ho2.row
    have hB := hb0.grown hg2 (by simp) (fun k hk => by cases hk; exact Nat.le_refl _)
    clear ho2 hg2 hw2
    go_ret
    exact ⟨a', c', rfl, h5, h6, hB⟩

set_option maxHeartbeats 2000000 in
set_option maxRecDepth 100000 in
theorem atom_any (s : ByteArray) (hs : s.size ≤ 140737488355328) (w : World) : Calls Tryd.prog 28 #[.string s] w (ValP (.mk false false [] s.data.toList []) w) := by
  have hb0 : Below w.heap.size w (w.alloc (.cells SV.nil.cells 33)) := (Below.refl _ _).alloc (Nat.le_refl _) _
  have X0 := Box.new w 33 SV.nil.cells
  go_enter Tryd.func28, Tryd.ntmps28
  go_upto_region 1 with fail
  change Code.wp _ _ _ _ (w.alloc (.cells SV.nil.cells 33))
  generalize w.alloc (.cells SV.nil.cells 33) = v0 at *
  obtain ⟨v, v1, hr, ho, hb1⟩ := conv_own v0 s hs
  obtain ⟨a, c, rfl, hsl⟩ := ho.sl
  have hown : ∀ b o s, a = some ⟨b, o, s⟩ → v0.heap.size ≤ b := fun b o s e => by subst e; exact (ho.own b rfl).1
  have X1 := Lib.hid (X0.after hb1)
  have HS := Lib.hid hsl
  have hB1 := hb0.trans (hb1.mono hb0.size)
  have hz := X0.lt
  obtain ⟨n, hn⟩ : ∃ n, n = s.data.toList.length := ⟨_, rfl⟩
  rw [← hn] at hr HS
  have HOW := Lib.hid hown
  clear X0 ho hsl hb1 hb0 hn hown
  go_wp2_with (refine wpList_store_box (cells := (SV.mk false false none 0 0 a n c none 0 0).cells) rfl 33 _ _ rfl X1.out (by rfl) (by rfl) rfl (by kernel_rfl) (SV.one _) ?_; intro v2 X2 st2)
  have hB2 := st2.below w.heap.size w (Nat.le_refl _) hB1
  have hsl2 := HS.out.keep (w' := v2) (.inr fun b o s e => st2.other b (by have := HOW.out b o s e; omega))
  exact bodyPost_ret (v := (SV.mk false false none 0 0 a n c none 0 0).val) (box_result rfl _ _ (by rfl) X2 Tryd.underlying33 rfl (by kernel_rfl)) rfl ⟨_, rfl, rd_atom hsl2, hB2⟩

theorem rd_list {ok : Nat → Prop} {w : World} {a : Option Addr} {n c : Nat} {K : Nat → SV} {ks : List Sx} (h : RowAt w a n c K) (hi : InB ok a n) (hn : n = ks.length) (hk : ∀ i (hi : i < ks.length), RdI ok w (K i) ks[i]) : RdI ok w ⟨true, false, none, 0, 0, none, 0, 0, a, n, c⟩ (.mk true false [] [] ks) :=
  .mk _ [] [] ks K (Sl.nil w) (.inl rfl) (Sl.nil w) (.inl rfl) h hi hn hk

set_option maxHeartbeats 2000000 in
set_option maxRecDepth 100000 in
theorem list_any (a : Option Addr) (n c : Nat) (K : Nat → SV) (ks : List Sx) (w : World) (hr : RowAt w a n c K) (hn : n ≤ 1000) (hnk : n = ks.length) (hk : ∀ i (hi : i < ks.length), Rd w (K i) ks[i]) : Calls Tryd.prog 30 #[.slice a n c] w (ValP (.mk true false [] [] ks) w) := by
  have hb0 : Below w.heap.size w (w.alloc (.cells SV.nil.cells 33)) := (Below.refl _ _).alloc (Nat.le_refl _) _
  have X0 := Box.new w 33 SV.nil.cells
  have HR := Lib.hid hr
  have HK := Lib.hid hk
  have HN := Lib.hid hnk
  clear hr hk hnk
  go_enter Tryd.func30, Tryd.ntmps30
  go_upto_region 1 with fail
  change Code.wp _ _ _ _ (w.alloc (.cells SV.nil.cells 33))
  generalize w.alloc (.cells SV.nil.cells 33) = v0 at *
  go_wp2_with fail
  refine (cloneK_any a n c K v0 (HR.out.after hb0) hn).mono ?_
  rintro e v1 ⟨a', c', rfl, hrow, hin, hb1⟩
  have X1 := Lib.hid (X0.after hb1)
  have HS := Lib.hid hrow
  have HI := Lib.hid hin
  have hB1 := hb0.trans (hb1.mono hb0.size)
  have hz := X0.lt
  clear X0 hrow hin hb1 hb0
  go_wp2_with (refine wpList_store_box (cells := (SV.mk true false none 0 0 none 0 0 a' n c').cells) rfl 33 _ _ rfl X1.out (by rfl) (by rfl) rfl (by kernel_rfl) (SV.one _) ?_; intro v2 X2 st2)
  have hB2 := st2.below w.heap.size w (Nat.le_refl _) hB1
  have hrow2 := HS.out.keep (w' := v2) (HI.out.imp id fun h b o s e => st2.other b (by have := h b o s e; omega))
  exact bodyPost_ret (v := (SV.mk true false none 0 0 none 0 0 a' n c').val) (box_result rfl _ _ (by rfl) X2 Tryd.underlying33 rfl (by kernel_rfl)) rfl ⟨_, rfl, rd_list hrow2 (.inr fun _ _ _ _ => trivial) HN.out (fun i hi => (HK.out i hi).after hB2), hB2⟩

/-- two values, one behind the other -/
def twoK (u v : SV) : Nat → SV
  | 0 => u
  | _ => v
theorem row_two (w : World) (u v : SV) (T : TypeId) : RowAt (w.alloc (.cells #[.bool u.l, .bool u.h, .slice u.a1 u.n1 u.c1, .slice u.a2 u.n2 u.c2, .slice u.a3 u.n3 u.c3, .bool v.l, .bool v.h, .slice v.a1 v.n1 v.c1, .slice v.a2 v.n2 v.c2, .slice v.a3 v.n3 v.c3] T)) (some ⟨w.heap.size, 0, none⟩) 2 2 (twoK u v) := by
  refine ⟨Nat.le_refl _, by unfold maxLen; omega, (fun h => by cases h), .inr ⟨_, 0, rfl, fun i hi j x hx => ?_⟩⟩
  have hb := Box.new w T #[.bool u.l, .bool u.h, .slice u.a1 u.n1 u.c1, .slice u.a2 u.n2 u.c2, .slice u.a3 u.n3 u.c3, .bool v.l, .bool v.h, .slice v.a1 v.n1 v.c1, .slice v.a2 v.n2 v.c2, .slice v.a3 v.n3 v.c3]
  rw [Nat.zero_add]
  have hj : j < 5 := by
    have := (Array.getElem?_eq_some_iff.1 hx).1
    rwa [SV.cells_size] at this
  refine hb.cell (i * 5 + j) ?_
  match i, hi, j, hj with
  | 0, _, 0, _ => exact hx
  | 0, _, 1, _ => exact hx
  | 0, _, 2, _ => exact hx
  | 0, _, 3, _ => exact hx
  | 0, _, 4, _ => exact hx
  | 1, _, 0, _ => exact hx
  | 1, _, 1, _ => exact hx
  | 1, _, 2, _ => exact hx
  | 1, _, 3, _ => exact hx
  | 1, _, 4, _ => exact hx

def exS : Sx := .mk true false [] [] [.mk false false [] [97, 98, 99] [], .mk false false [] [120] []]
theorem exS_form : exS.form = [40, 51, 58, 97, 98, 99, 49, 58, 120, 41] := by
  unfold exS
  simp [form_def, Sx.formL, textL, numL_small]
theorem exS_may : exS.may = true := by
  unfold Sx.may
  rw [exS_form]
  decide
theorem exS_wide : exS.wide 0 = false := by decide

end Go.Proofs.YthmigigclmogiaaDoor
namespace Go.Proofs.YthmigigclmogiaaDoor
open Go.RowKit

theorem Sl.some {w : World} {a : Option Addr} {len cap : Nat} {l : List UInt8} (h : Sl w a len cap l) (hl : 0 < len) : ∃ b o, a = Option.some ⟨b, o, none⟩ ∧ (∀ i, i < len → w.cell? ⟨b, o + i, none⟩ = Option.some (.int .u8 ((l.getD i 0).toNat : Int))) ∧ b < w.heap.size := by
  have hlt := h.lt
  rcases h.2.2.2.2 with h4 | ⟨b, o, rfl, h4⟩
  · omega
  · exact ⟨b, o, rfl, h4, hlt b o (by omega) rfl⟩

def isD (c : UInt8) : Prop := 48 ≤ c.toNat ∧ c.toNat ≤ 57
instance (c : UInt8) : Decidable (isD c) := by unfold isD; infer_instance

/-- the number that begins there, and how many digits it has; none: it is above M -/
def lenScan (M : Nat) : Nat → List UInt8 → Option (Nat × Nat)
  | n, [] => some (n, 0)
  | n, c :: t => if isD c then (if M < 10 * n + (c.toNat - 48) then none else (lenScan M (10 * n + (c.toNat - 48)) t).map fun p => (p.1, p.2 + 1)) else some (n, 0)
/-- the length at a place: the number, the place behind it, the error -/
def lenR (l : List UInt8) (at' : Int) (M : Nat) : Int × Int × Int :=
  if at' < 0 then (0, at', 1) else if (l.length : Int) ≤ at' then (0, at', 2) else
  if ¬ isD (l.getD at'.toNat 0) then (0, at', 3) else if l.getD at'.toNat 0 = 48 then (0, at' + 1, 0) else
  match lenScan M 0 (l.drop at'.toNat) with
  | none => (0, at', 4)
  | some (n, k) => (n, at' + k, 0)
theorem lenScan_step (M n : Nat) (l : List UInt8) (i : Nat) (h : i < l.length) (c : UInt8) (hc : c = l.getD i 0) :
    lenScan M n (l.drop i) = if isD c then (if M < 10 * n + (c.toNat - 48) then none else (lenScan M (10 * n + (c.toNat - 48)) (l.drop (i + 1))).map fun p => (p.1, p.2 + 1)) else some (n, 0) := by
  rw [List.drop_eq_getElem_cons h, lenScan]
  have e : l[i] = c := by rw [hc]; simp [List.getD_eq_getElem?_getD, h]
  rw [e]
theorem lenScan_end (M n : Nat) (l : List UInt8) (i : Nat) (h : l.length ≤ i) : lenScan M n (l.drop i) = some (n, 0) := by rw [List.drop_of_length_le h, lenScan]
theorem map_two (o : Option (Nat × Nat)) (k : Nat) : (o.map fun p => (p.1, p.2 + 1)).map (fun p => (p.1, p.2 + k)) = o.map fun p => (p.1, p.2 + (k + 1)) := by
  cases o <;> simp; omega
def LenP (r : Int × Int × Int) (w : World) (e : Ending) (w' : World) : Prop := e = .returned (.tuple #[.int .i64 r.1, .int .i64 r.2.1, .int .i64 r.2.2]) ∧ Below w.heap.size w w'

set_option maxHeartbeats 8000000 in
set_option maxRecDepth 100000 in
theorem getLen_any (a : Option Addr) (len cap : Nat) (l : List UInt8) (at' most : Int) (M : Nat) (w : World) (hs : Sl w a len cap l) (hn : len ≤ 1000000) (hat0 : -9223372036854775808 ≤ at') (hat : at' ≤ 9223372036854775807) (hm : max most 0 = (M : Int)) (hM : M ≤ 9223372036854775807) :
    Calls Tryd.prog 34 #[.slice a len cap, .int .i64 at', .int .i64 most] w (LenP (lenR l at' M) w) := by
  have HS := Lib.hid hs
  have HL := Lib.hid hs.1
  clear hs
  obtain ⟨R, hR⟩ : ∃ R, R = lenR l at' M := ⟨_, rfl⟩
  rw [← hR]
  have HR := Lib.hid hR
  clear hR
  by_cases h1 : at' < 0
  · have HE := Lib.hid (show R = (0, at', 1) by rw [HR.out, lenR, if_pos h1])
    go_enter Tryd.func34, Tryd.ntmps34
    go_wp2_with fail
    exact bodyPost_ret (v := .tuple #[.int .i64 0, .int .i64 at', .int .i64 1]) (by simp [results, Tryd.results34, go_sem]) rfl ⟨by rw [HE.out], Below.refl _ _⟩
  replace h1 : 0 ≤ at' := by omega
  by_cases h2 : (len : Int) ≤ at'
  · have HE := Lib.hid (show R = (0, at', 2) by rw [HR.out, lenR, if_neg (by omega), if_pos (by rw [← HL.out]; exact h2)])
    go_enter Tryd.func34, Tryd.ntmps34
    go_wp2_with fail
    exact bodyPost_ret (v := .tuple #[.int .i64 0, .int .i64 at', .int .i64 2]) (by simp [results, Tryd.results34, go_sem]) rfl ⟨by rw [HE.out], Below.refl _ _⟩
  replace h2 : at' < (len : Int) := by omega
  obtain ⟨p, rfl⟩ : ∃ p : Nat, at' = (p : Int) := ⟨at'.toNat, by omega⟩
  obtain ⟨b, o, rfl, hcc, _⟩ := HS.out.some (by omega)
  have c0 := hcc p (by omega)
  have HC := Lib.hid hcc
  obtain ⟨x, hx⟩ : ∃ x, x = l.getD p 0 := ⟨_, rfl⟩
  rw [← hx] at c0
  have HX := Lib.hid hx
  have hx255 := x.toNat_lt
  have HR2 := Lib.hid (show R = if ¬ isD x then ((0 : Int), (p : Int), (3 : Int)) else if x = 48 then ((0 : Int), (p : Int) + 1, (0 : Int)) else
      match lenScan M 0 (l.drop p) with
      | none => ((0 : Int), (p : Int), (4 : Int))
      | some (n, k) => ((n : Int), (p : Int) + k, (0 : Int)) by
    rw [HR.out, lenR, if_neg (by omega), if_neg (by rw [← HL.out]; omega), Int.toNat_natCast, ← HX.out])
  clear hcc hx
  by_cases h3 : (x.toNat : Int) < 48
  · have HE := Lib.hid (show R = (0, (p : Int), 3) by rw [HR2.out, if_pos (by unfold isD; omega)])
    go_enter Tryd.func34, Tryd.ntmps34
    go_wp2_with fail
    exact bodyPost_ret (v := .tuple #[.int .i64 0, .int .i64 (p : Int), .int .i64 3]) (by simp [results, Tryd.results34, go_sem]) rfl ⟨by rw [HE.out], Below.refl _ _⟩
  replace h3 : (48 : Int) ≤ x.toNat := by omega
  by_cases h4 : (57 : Int) < x.toNat
  · have HE := Lib.hid (show R = (0, (p : Int), 3) by rw [HR2.out, if_pos (by unfold isD; omega)])
    go_enter Tryd.func34, Tryd.ntmps34
    go_wp2_with fail
    exact bodyPost_ret (v := .tuple #[.int .i64 0, .int .i64 (p : Int), .int .i64 3]) (by simp [results, Tryd.results34, go_sem]) rfl ⟨by rw [HE.out], Below.refl _ _⟩
  replace h4 : (x.toNat : Int) ≤ 57 := by omega
  have HR3 := Lib.hid (HR2.out.trans (if_neg (by unfold isD; omega)))
  by_cases h5 : x = 48
  · have HE := Lib.hid (show R = (0, (p : Int) + 1, 0) by rw [HR3.out, if_pos h5])
    have t5 : ((x.toNat : Int) == 48) = true := by rw [h5]; rfl
    have H5 := Lib.hid h5
    clear h5
    go_enter Tryd.func34, Tryd.ntmps34
    go_wp2_with fail
    exact bodyPost_ret (v := .tuple #[.int .i64 0, .int .i64 ((p : Int) + 1), .int .i64 0]) (by simp [results, Tryd.results34, go_sem]) rfl ⟨by rw [HE.out], Below.refl _ _⟩
  have t5 : ((x.toNat : Int) == 48) = false := by
    have : x.toNat ≠ 48 := fun h => h5 (UInt8.toNat_inj.1 h)
    simp; omega
  have HR4 := Lib.hid (HR3.out.trans (if_neg h5))
  have H5 := Lib.hid h5
  clear h5
  obtain ⟨Z, hZ⟩ : ∃ Z, Z = lenScan M 0 (l.drop p) := ⟨_, rfl⟩
  rw [← hZ] at HR4
  have HZ := Lib.hid hZ
  clear hZ
  go_enter Tryd.func34, Tryd.ntmps34
  go_wp2_with fail
  clear t5 h3 h4 c0 hx255
  go_loop [9, 10] (fun n' i' => ∃ m k : Nat, p + k ≤ len ∧ m ≤ M ∧ n' = .int .i64 m ∧ i' = .int .i64 ((p : Int) + (k : Int)) ∧ Hid (Z = (lenScan M m (l.drop (p + k))).map fun q => (q.1, q.2 + k))) (fun _ i' => len - (intOf i').toNat)
  case atStart => exact ⟨0, 0, by omega, Nat.zero_le _, rfl, by go_num, Lib.hid (by rw [HZ.out]; simp)⟩
  case round =>
    obtain ⟨m, k, hk, hmM, rfl, rfl, HD⟩ := hrel
    obtain ⟨i, hi⟩ : ∃ i : Nat, i = p + k := ⟨_, rfl⟩
    have hik : (p : Int) + (k : Int) = (i : Int) := by omega
    rw [hik]
    have HI := Lib.hid hi
    have HIK := Lib.hid hik
    rw [← hi] at hk HD
    clear hik
    by_cases hlt : i < len
    · have c1 := HC.out i hlt
      obtain ⟨y, hy⟩ : ∃ y, y = l.getD i 0 := ⟨_, rfl⟩
      rw [← hy] at c1
      have HT := Lib.hid (lenScan_step M m l i (by have := HL.out; omega) y hy)
      have hy255 := y.toNat_lt
      have hiI : (i : Int) < len := by omega
      clear hy hi
      by_cases d1 : (48 : Int) ≤ y.toNat
      · by_cases d2 : (y.toNat : Int) ≤ 57
        · obtain ⟨d, hd⟩ : ∃ d : Nat, (y.toNat : Int) - 48 = (d : Int) := ⟨y.toNat - 48, by omega⟩
          have hd9 : d ≤ 9 := by omega
          have HDD := Lib.hid (show y.toNat - 48 = d by omega)
          have HT2 := Lib.hid (HT.out.trans (if_pos (show isD y by unfold isD; omega)))
          rw [HDD.out] at HT2
          by_cases hov : M < 10 * m + d
          · have HE := Lib.hid (show R = (0, (p : Int), 4) by rw [HR4.out, HD.out, HT2.out, if_pos hov]; rfl)
            have hw1 : IntKind.u8.wrap ((y.toNat : Int) - 48) = (d : Int) := by rw [IntKind.wrap_u8, hd]; omega
            by_cases hMd : (M : Int) < d
            · have q1 : ((M : Int) - d).tdiv 10 = 0 := by
                rw [show (M : Int) - d = -((d : Int) - M) by omega, Int.neg_tdiv, Int.tdiv_eq_ediv_of_nonneg (by omega)]; omega
              by_cases hm0 : (0 : Int) < m
              · go_wp2_with fail
                exact bodyPost_ret (v := .tuple #[.int .i64 0, .int .i64 p, .int .i64 4]) (by simp [results, Tryd.results34, go_sem]) rfl ⟨by rw [HE.out], Below.refl _ _⟩
              · have hm0' : (m : Int) ≤ 0 := by omega
                go_wp2_with fail
                exact bodyPost_ret (v := .tuple #[.int .i64 0, .int .i64 p, .int .i64 4]) (by simp [results, Tryd.results34, go_sem]) rfl ⟨by rw [HE.out], Below.refl _ _⟩
            · replace hMd : (d : Int) ≤ M := by omega
              have hMd0 : 0 ≤ (M : Int) - d := by omega
              have hq : ((M : Int) - d) / 10 < (m : Int) := by omega
              go_wp2_with fail
              exact bodyPost_ret (v := .tuple #[.int .i64 0, .int .i64 p, .int .i64 4]) (by simp [results, Tryd.results34, go_sem]) rfl ⟨by rw [HE.out], Below.refl _ _⟩
          · have HE := Lib.hid (show Z = (lenScan M (10 * m + d) (l.drop (p + (k + 1)))).map fun q => (q.1, q.2 + (k + 1)) by
              rw [HD.out, HT2.out, if_neg hov, map_two]; rw [show i + 1 = p + (k + 1) by have := HI.out; omega])
            have hMd : (d : Int) ≤ M := by omega
            have hMd0 : 0 ≤ (M : Int) - d := by omega
            have hq : (m : Int) ≤ ((M : Int) - d) / 10 := by omega
            have hmm : 10 * (m : Int) ≤ 9223372036854775807 := by omega
            have hmm2 : 10 * (m : Int) + d ≤ 9223372036854775807 := by omega
            go_wp2_with fail
            go_round
            case rel => exact ⟨10 * m + d, k + 1, by have := HI.out; omega, by omega, by go_num, by have := HIK.out; congr 1; omega, HE⟩
            case measure => simp [intOf]; omega
        · have d2' : (57 : Int) < y.toNat := by omega
          have HE := Lib.hid (show R = (((m : Nat) : Int), (i : Int), 0) by rw [HR4.out, HD.out, HT.out, if_neg (by unfold isD; omega)]; have := HI.out; simp; omega)
          clear d2
          go_wp2_with fail
          exact bodyPost_ret (v := .tuple #[.int .i64 m, .int .i64 i, .int .i64 0]) (by simp [results, Tryd.results34, go_sem]) rfl ⟨by rw [HE.out], Below.refl _ _⟩
      · have d1' : (y.toNat : Int) < 48 := by omega
        have HE := Lib.hid (show R = (((m : Nat) : Int), (i : Int), 0) by rw [HR4.out, HD.out, HT.out, if_neg (by unfold isD; omega)]; have := HI.out; simp; omega)
        clear d1
        go_wp2_with fail
        exact bodyPost_ret (v := .tuple #[.int .i64 m, .int .i64 i, .int .i64 0]) (by simp [results, Tryd.results34, go_sem]) rfl ⟨by rw [HE.out], Below.refl _ _⟩
    · obtain rfl : i = len := by omega
      have HE := Lib.hid (show R = (((m : Nat) : Int), (i : Int), 0) by rw [HR4.out, HD.out, lenScan_end _ _ _ _ (by have := HL.out; omega)]; have := HI.out; simp; omega)
      clear hi
      go_wp2_with fail
      exact bodyPost_ret (v := .tuple #[.int .i64 m, .int .i64 i, .int .i64 0]) (by simp [results, Tryd.results34, go_sem]) rfl ⟨by rw [HE.out], Below.refl _ _⟩

end Go.Proofs.YthmigigclmogiaaDoor
namespace Go.Proofs.YthmigigclmogiaaDoor
open Go.RowKit

def valA (a : Nat) (w : List UInt8) : Nat := w.foldl (fun a c => 10 * a + (c.toNat - 48)) a
theorem valA_nil (a : Nat) : valA a [] = a := by unfold valA; rw [List.foldl_nil]
theorem valA_cons (a : Nat) (c : UInt8) (t : List UInt8) : valA a (c :: t) = valA (10 * a + (c.toNat - 48)) t := by unfold valA; rw [List.foldl_cons]
theorem valA_ge (w : List UInt8) : ∀ (a : Nat), a ≤ valA a w := by
  induction w with
  | nil => intro a; rw [valA_nil]; exact Nat.le_refl _
  | cons c t ih => intro a; rw [valA_cons]; exact Nat.le_trans (show a ≤ 10 * a + (c.toNat - 48) by omega) (ih _)
theorem valA_snoc (w : List UInt8) (a : Nat) (c : UInt8) : valA a (w ++ [c]) = 10 * valA a w + (c.toNat - 48) := by
  unfold valA; rw [List.foldl_append, List.foldl_cons, List.foldl_nil]
theorem lenScan_app (M : Nat) (r : List UInt8) (w : List UInt8) : ∀ (a : Nat), (∀ c ∈ w, isD c) → a ≤ M → lenScan M a (w ++ r) = if M < valA a w then none else (lenScan M (valA a w) r).map fun p => (p.1, p.2 + w.length) := by
  induction w with
  | nil =>
    intro a _ ha
    rw [List.nil_append, valA_nil, if_neg (by omega)]
    cases lenScan M a r <;> simp
  | cons c t ih =>
    intro a h ha
    have hc := h c (List.mem_cons_self ..)
    rw [List.cons_append, lenScan, if_pos hc, valA_cons]
    by_cases ho : M < 10 * a + (c.toNat - 48)
    · have := valA_ge t (10 * a + (c.toNat - 48))
      rw [if_pos ho, if_pos (by omega)]
    · rw [if_neg ho, ih _ (fun d hd => h d (List.mem_cons_of_mem _ hd)) (by omega)]
      split
      · rfl
      · generalize lenScan M (valA (10 * a + (c.toNat - 48)) t) r = z
        cases z with
        | none => rfl
        | some p => simp only [Option.map_some, List.length_cons]; rw [Nat.add_assoc]

theorem dec_facts : ∀ (u : Nat), (∀ c ∈ Lib.decDigits u, isD c) ∧ valA 0 (Lib.decDigits u) = u ∧ (0 < u → (Lib.decDigits u).getD 0 0 ≠ 48) ∧ 0 < (Lib.decDigits u).length := by
  intro u
  induction u using Nat.strongRecOn with
  | _ u ih =>
    rw [Lib.decDigits]
    split
    · rename_i h
      have e : (UInt8.ofNat (48 + u)).toNat = 48 + u := by simp; omega
      refine ⟨fun c hc => ?_, ?_, fun h0 => ?_, by simp⟩
      · rw [List.mem_singleton.1 hc]; unfold isD; rw [e]; omega
      · rw [valA_cons, valA_nil, e]; omega
      · show UInt8.ofNat (48 + u) ≠ 48
        intro h2
        have := congrArg UInt8.toNat h2
        rw [e] at this
        simp at this; omega
    · rename_i h
      obtain ⟨i1, i2, i3, i4⟩ := ih (u / 10) (by omega)
      have e : (UInt8.ofNat (48 + u % 10)).toNat = 48 + u % 10 := by simp; omega
      refine ⟨fun c hc => ?_, ?_, fun _ => ?_, by simp⟩
      · rcases List.mem_append.1 hc with hc | hc
        · exact i1 c hc
        · rw [List.mem_singleton.1 hc]; unfold isD; rw [e]; omega
      · rw [valA_snoc, i2, e]; omega
      · have := i3 (by omega)
        rw [List.getD_eq_getElem?_getD, List.getElem?_append_left i4, ← List.getD_eq_getElem?_getD]; exact this

theorem back_len (n : Int) (h0 : 0 ≤ n) (t : List UInt8) (ht : ∀ c r, t = c :: r → ¬ isD c) (M : Nat) (hM : n.toNat ≤ M) : lenR (numL n ++ t) 0 M = (n, ((numL n).length : Int), 0) := by
  obtain ⟨d1, d2, d3, d4⟩ := dec_facts n.toNat
  unfold numL at *
  obtain ⟨L, hL⟩ : ∃ L, L = Lib.decDigits n.toNat := ⟨_, rfl⟩
  rw [← hL] at d1 d2 d3 d4 ⊢
  have hg : (L ++ t).getD 0 0 = L.getD 0 0 := by simp [List.getD_eq_getElem?_getD, List.getElem?_append_left d4]
  have hd : isD (L.getD 0 0) := d1 _ (by simp [List.getD_eq_getElem?_getD, List.getElem?_eq_getElem d4])
  unfold lenR
  rw [if_neg (by omega), if_neg (by rw [List.length_append]; omega), Int.toNat_zero, hg, if_neg (fun h => h hd)]
  by_cases hn : n = 0
  · subst hn
    have : L = [48] := by rw [hL, Lib.decDigits]; rfl
    subst this
    rfl
  · have h1 := d3 (by omega)
    rw [if_neg h1, List.drop_zero, lenScan_app M t L 0 d1 (Nat.zero_le _), d2, if_neg (by omega)]
    have : lenScan M n.toNat t = some (n.toNat, 0) := by
      cases t with
      | nil => rfl
      | cons c r => unfold lenScan; rw [if_neg (ht c r rfl)]
    rw [this]
    simp; omega
end Go.Proofs.YthmigigclmogiaaDoor
namespace Go.Proofs.YthmigigclmogiaaDoor
open Go.RowKit

theorem digits_split {a b : List UInt8} {c d : UInt8} {x y : List UInt8} (ha : ∀ z ∈ a, isD z) (hb : ∀ z ∈ b, isD z) (hc : ¬ isD c) (hd : ¬ isD d) (h : a ++ c :: x = b ++ d :: y) : a = b ∧ c = d ∧ x = y := by
  induction a generalizing b with
  | nil =>
    cases b with
    | nil => simp at h; exact ⟨rfl, h.1, h.2⟩
    | cons z r => simp at h; exact absurd (h.1 ▸ hb z List.mem_cons_self) hc
  | cons z r ih =>
    cases b with
    | nil => simp at h; exact absurd (h.1.symm ▸ ha z List.mem_cons_self) hd
    | cons z' r' =>
      simp only [List.cons_append, List.cons.injEq] at h
      obtain ⟨rfl, h⟩ := h
      obtain ⟨rfl, h2, h3⟩ := ih (fun z hz => ha z (List.mem_cons_of_mem _ hz)) (fun z hz => hb z (List.mem_cons_of_mem _ hz)) h
      exact ⟨rfl, h2, h3⟩
theorem not_isD {c : UInt8} (h : c.toNat < 48 ∨ 57 < c.toNat) : ¬ isD c := by unfold isD; omega
theorem numL_facts (n : Nat) : (∀ c ∈ numL (n : Int), isD c) ∧ valA 0 (numL (n : Int)) = n ∧ 0 < (numL (n : Int)).length := by
  have := dec_facts n
  unfold numL
  rw [Int.toNat_natCast]
  exact ⟨this.1, this.2.1, this.2.2.2⟩
theorem numL_inj {n m : Nat} (h : numL (n : Int) = numL (m : Int)) : n = m := by rw [← (numL_facts n).2.1, ← (numL_facts m).2.1, h]
theorem textL_inj {l l' r r' : List UInt8} (h : textL l ++ r = textL l' ++ r') : l = l' ∧ r = r' := by
  simp only [textL, List.append_assoc, List.cons_append] at h
  obtain ⟨h1, _, h2⟩ := digits_split (numL_facts _).1 (numL_facts _).1 (not_isD (c := 58) (by decide)) (not_isD (c := 58) (by decide)) h
  have := numL_inj h1
  exact List.append_inj h2 this
theorem textL_head (l r : List UInt8) : ∃ c t, textL l ++ r = c :: t ∧ isD c := by
  obtain ⟨h1, _, h2⟩ := numL_facts l.length
  obtain ⟨c, t, e⟩ : ∃ c t, numL (l.length : Int) = c :: t := by
    cases e : numL (l.length : Int) with
    | nil => rw [e] at h2; cases h2
    | cons c t => exact ⟨c, t, rfl⟩
  refine ⟨c, t ++ 58 :: (l ++ r), ?_, h1 c (by rw [e]; exact List.mem_cons_self)⟩
  simp [textL, e]
/-- how a form begins -/
theorem form_head (s : Sx) (r : List UInt8) : ∃ c t, s.form ++ r = c :: t ∧ ((s.l = true ∧ c = 40) ∨ (s.l = false ∧ s.h = true ∧ c = 91) ∨ (s.l = false ∧ s.h = false ∧ isD c)) := by
  obtain ⟨l, h, hi, da, ks⟩ := s
  rw [form_def]
  cases l with
  | true => exact ⟨40, _, rfl, .inl ⟨rfl, rfl⟩⟩
  | false =>
    cases h with
    | true => exact ⟨91, _, rfl, .inr (.inl ⟨rfl, rfl, rfl⟩)⟩
    | false =>
      obtain ⟨c, t, e, hd⟩ := textL_head da r
      exact ⟨c, t, by simpa using e, .inr (.inr ⟨rfl, rfl, hd⟩)⟩
theorem form_not_end (s : Sx) (r r' : List UInt8) : s.form ++ r ≠ 41 :: r' := by
  intro h
  obtain ⟨c, t, e, h2⟩ := form_head s r
  rw [e] at h
  simp only [List.cons.injEq] at h
  obtain ⟨rfl, _⟩ := h
  rcases h2 with ⟨_, h2⟩ | ⟨_, _, h2⟩ | ⟨_, _, h2⟩
  · exact absurd h2 (by decide)
  · exact absurd h2 (by decide)
  · exact absurd h2 (not_isD (by decide))
theorem clean_parts {l h : Bool} {hi da : List UInt8} {ks : List Sx} (hc : (Sx.mk l h hi da ks).clean = true) :
    (l = true → h = false ∧ hi = [] ∧ da = []) ∧ (l = false → ks = [] ∧ (h = false → hi = [])) ∧ ∀ k ∈ ks, k.clean = true := by
  rw [clean_def, Bool.and_eq_true] at hc
  refine ⟨fun e => ?_, fun e => ?_, fun k hk => ?_⟩
  · subst e; have := hc.1; unfold headOk at this; simpa [and_assoc] using this
  · subst e
    have := hc.1
    unfold headOk at this
    simp at this
    exact ⟨this.1, fun e => by subst e; simpa using this.2⟩
  · by_cases e : k.clean = true
    · exact e
    · have := Sx.cleanL_no hk (by simpa using e)
      rw [this] at hc
      cases hc.2
theorem form_inj (s : Sx) : ∀ (t : Sx) (r r' : List UInt8), s.clean = true → t.clean = true → s.form ++ r = t.form ++ r' → s = t ∧ r = r' := by
  induction s using Sx.ind with
  | h l hh hi da ks ih =>
    intro t r r' hc hc' h
    obtain ⟨l2, h2, hi2, da2, ks2⟩ := t
    obtain ⟨c, x, e1, k1⟩ := form_head (.mk l hh hi da ks) r
    obtain ⟨c', x', e2, k2⟩ := form_head (.mk l2 h2 hi2 da2 ks2) r'
    have ec : c = c' := by rw [e1, e2] at h; exact (List.cons.injEq .. ▸ h).1
    subst ec
    obtain ⟨p1, p2, p3⟩ := clean_parts hc
    obtain ⟨q1, q2, q3⟩ := clean_parts hc'
    simp only [Sx.l, Sx.h] at k1 k2
    have d1 : ¬ isD 40 := not_isD (by decide)
    have d2 : ¬ isD 91 := not_isD (by decide)
    rcases k1 with ⟨rfl, rfl⟩ | ⟨rfl, rfl, rfl⟩ | ⟨rfl, rfl, k1⟩
    · rcases k2 with ⟨rfl, _⟩ | ⟨_, _, k2⟩ | ⟨_, _, k2⟩
      · obtain ⟨rfl, rfl, rfl⟩ := p1 rfl
        obtain ⟨rfl, rfl, rfl⟩ := q1 rfl
        rw [form_def, form_def, if_pos rfl, if_pos rfl] at h
        simp only [List.cons_append, List.cons.injEq, List.append_assoc, true_and, List.nil_append] at h
        clear e1 e2 hc hc' p1 p2 q1 q2 x x'
        have key : ks = ks2 ∧ r = r' := by
          induction ks generalizing ks2 with
          | nil =>
            cases ks2 with
            | nil => simp [Sx.formL] at h; exact ⟨rfl, h⟩
            | cons y s =>
              simp only [Sx.formL, List.nil_append, List.append_assoc] at h
              exact absurd h.symm (form_not_end y _ _)
          | cons y s ihs =>
            cases ks2 with
            | nil =>
              simp only [Sx.formL, List.nil_append, List.append_assoc] at h
              exact absurd h (form_not_end y _ _)
            | cons y' s' =>
              simp only [Sx.formL, List.append_assoc] at h
              obtain ⟨rfl, h3⟩ := ih y List.mem_cons_self y' _ _ (p3 y List.mem_cons_self) (q3 y' List.mem_cons_self) h
              obtain ⟨rfl, h4⟩ := ihs (fun k hk => ih k (List.mem_cons_of_mem _ hk)) s' (fun k hk => p3 k (List.mem_cons_of_mem _ hk)) (fun k hk => q3 k (List.mem_cons_of_mem _ hk)) h3
              exact ⟨rfl, h4⟩
        obtain ⟨rfl, rfl⟩ := key
        exact ⟨rfl, rfl⟩
      · exact absurd k2 (by decide)
      · exact absurd k2 d1
    · rcases k2 with ⟨_, k2⟩ | ⟨rfl, rfl, _⟩ | ⟨_, _, k2⟩
      · exact absurd k2 (by decide)
      · obtain ⟨rfl, _⟩ := p2 rfl
        obtain ⟨rfl, _⟩ := q2 rfl
        rw [form_def, form_def] at h
        simp only [Bool.false_eq_true, if_false, if_true, List.cons_append, List.cons.injEq, List.append_assoc, true_and, List.nil_append] at h
        obtain ⟨rfl, h3⟩ := textL_inj h
        simp only [List.cons.injEq, true_and] at h3
        obtain ⟨rfl, rfl⟩ := textL_inj h3
        exact ⟨rfl, rfl⟩
      · exact absurd k2 d2
    · rcases k2 with ⟨_, k2⟩ | ⟨_, _, k2⟩ | ⟨rfl, rfl, _⟩
      · exact absurd (k2 ▸ k1) d1
      · exact absurd (k2 ▸ k1) d2
      · obtain ⟨rfl, f1⟩ := p2 rfl
        obtain ⟨rfl, f2⟩ := q2 rfl
        obtain rfl := f1 rfl
        obtain rfl := f2 rfl
        rw [form_def, form_def] at h
        simp only [Bool.false_eq_true, if_false, List.nil_append] at h
        obtain ⟨rfl, rfl⟩ := textL_inj h
        exact ⟨rfl, rfl⟩
theorem form_same {s t : Sx} (hs : s.clean = true) (ht : t.clean = true) : (s.form == t.form) = s.same t := by
  rw [Bool.eq_iff_iff, beq_iff_eq, Sx.same_iff]
  exact ⟨fun h => (form_inj s t [] [] hs ht (by rw [h])).1, fun h => by rw [h]⟩
end Go.Proofs.YthmigigclmogiaaDoor
namespace Go.Proofs.YthmigigclmogiaaDoor
open Go.RowKit
set_option linter.unusedSimpArgs false
set_option linter.unusedVariables false

/-- what is not great, and holds not more values than an int counts -/
theorem great_no {s : Sx} (h : s.great 0 = false) (hn : s.nodes < 4611686018427387904) : s.wide 0 = false ∧ s.nodes ≤ 2000 := by
  have hw : s.wide 0 = false := by
    by_cases e : s.wide 0 = true
    · rw [great_yes e] at h; cases h
    · simpa using e
  refine ⟨hw, ?_⟩
  rw [great_zero hw, wrap_of _ (by omega)] at h
  have := of_decide_eq_false h
  omega
theorem great_form {s : Sx} (h : s.great 0 = false) (hn : s.nodes < 4611686018427387904) : s.deep ≤ 4611686018427387904 ∧ (s.nodes ≤ 512 → s.form.length ≤ 70368744177664) := by
  obtain ⟨h1, h2⟩ := great_no h hn
  have := deep_wide s 0 h1
  have := form_wide s 0 h1
  exact ⟨by omega, fun _ => by omega⟩
/-- a test, as a letter -/
theorem letter (b : Bool) : ∃ c, c = b := ⟨b, rfl⟩

end Go.Proofs.YthmigigclmogiaaDoor
namespace Go.Proofs.YthmigigclmogiaaDoor
open Go.RowKit
set_option linter.unusedSimpArgs false
set_option linter.unusedVariables false

theorem add_str (a b : List UInt8) (h : a.length + b.length ≤ 140737488355328) (w : World) : (binOp .add 9 (.string ⟨a.toArray⟩) (.string ⟨b.toArray⟩)).run Tryd.prog w = .ok (.string ⟨(a ++ b).toArray⟩) w := by
  simp [go_sem]
  try rw [if_neg (by omega)]
  rw [cat_ba]
theorem wide_of (s : Sx) : ∀ m, s.clean = true → s.nodes ≤ 700 → s.form.length ≤ 5000 → s.deep + m ≤ 60 → s.wide m = false := by
  induction s using Sx.ind with
  | h l hh hi da ks ih =>
    intro m hc hn hf hd
    obtain ⟨p1, p2, p3⟩ := clean_parts hc
    have e1 : ∀ x : List UInt8, x.length ≤ (textL x).length := fun x => by simp [textL]; omega
    have hnd : ks.length ≤ Sx.nodesL ks := by
      clear ih hc hn hf hd p1 p2 p3
      induction ks with
      | nil => exact Nat.le_refl _
      | cons k r ihr => have := nodes_pos k; simp only [Sx.nodesL, List.length_cons]; omega
    simp only [Sx.nodes] at hn
    have hlen : hi.length ≤ 5000 ∧ da.length ≤ 5000 ∧ (Sx.formL ks).length ≤ 5000 := by
      rw [form_def] at hf
      have a1 := e1 hi
      have a2 := e1 da
      cases l with
      | true =>
        obtain ⟨_, rfl, rfl⟩ := p1 rfl
        simp only [if_true, List.length_cons, List.length_append, List.length_nil] at hf ⊢
        omega
      | false =>
        obtain ⟨rfl, p4⟩ := p2 rfl
        cases hh with
        | true => simp at hf; simp [Sx.formL]; omega
        | false =>
          obtain rfl := p4 rfl
          simp at hf
          simp [Sx.formL]
          omega
    have hkids : Sx.wideL ks (m + 1) = false := by
      have key : ∀ k ∈ ks, k.wide (m + 1) = false := fun k hk => by
        refine ih k hk (m + 1) (p3 k hk) ?_ ?_ ?_
        · have : k.nodes ≤ Sx.nodesL ks := by
            clear ih hc hn hf hd p1 p2 p3 hlen hnd
            induction ks with
            | nil => cases hk
            | cons a r ihr => rcases List.mem_cons.1 hk with rfl | hk
                              · simp only [Sx.nodesL]; omega
                              · have := ihr hk; simp only [Sx.nodesL]; omega
          omega
        · have := Sx.formL_mem hk; omega
        · have := Sx.deepL_mem hk
          cases l with
          | true => simp only [Sx.deep, if_true] at hd; omega
          | false => obtain ⟨rfl, _⟩ := p2 rfl; cases hk
      clear ih hc hn hf hd p1 p2 p3 hlen hnd
      induction ks with
      | nil => rfl
      | cons a r ihr => simp only [Sx.wideL, key a List.mem_cons_self, ihr (fun k hk => key k (List.mem_cons_of_mem _ hk))]; rfl
    rw [wide_def, decide_eq_false (show ¬ 60 < m by omega), decide_eq_false (show ¬ 700 < ks.length by omega), decide_eq_false (show ¬ 5000 < hi.length by omega), decide_eq_false (show ¬ 5000 < da.length by omega), hkids]
    rfl
theorem may_parts {s : Sx} (h : s.may = true) : s.clean = true ∧ s.nodes ≤ 512 ∧ s.deep ≤ 16 ∧ s.form.length ≤ 4096 := by
  simp only [Sx.may, Bool.and_eq_true, decide_eq_true_eq] at h
  exact ⟨h.1.1.1, h.1.1.2, h.1.2, h.2⟩
theorem lists_wide {ks : List Sx} (hl : ks.length ≤ 20) (h : ∀ k ∈ ks, k.may = true) : (Sx.mk true false [] [] ks).wide 0 = false := by
  have hkids : Sx.wideL ks (0 + 1) = false := by
    have key : ∀ k ∈ ks, k.wide (0 + 1) = false := fun k hk => by
      obtain ⟨h1, h2, h3, h4⟩ := may_parts (h k hk)
      exact wide_of k _ h1 (by omega) (by omega) (by omega)
    clear hl h
    induction ks with
    | nil => rfl
    | cons a r ihr => simp only [Sx.wideL, key a List.mem_cons_self, ihr (fun k hk => key k (List.mem_cons_of_mem _ hk))]; rfl
  rw [wide_def, decide_eq_false (show ¬ 60 < 0 by omega), decide_eq_false (show ¬ 700 < ks.length by omega), hkids]
  rfl
theorem lists_nodes {ks : List Sx} (h : ∀ k ∈ ks, k.may = true) : Sx.nodesL ks ≤ 512 * ks.length := by
  induction ks with
  | nil => simp [Sx.nodesL]
  | cons a r ih =>
    have h1 := (may_parts (h a List.mem_cons_self)).2.1
    have h2 := ih (fun k hk => h k (List.mem_cons_of_mem _ hk))
    simp only [Sx.nodesL, List.length_cons]
    omega

end Go.Proofs.YthmigigclmogiaaDoor
namespace Go.Proofs.YthmigigclmogiaaDoor
open Go.RowKit
set_option linter.unusedSimpArgs false
set_option linter.unusedVariables false

set_option maxHeartbeats 2000000 in
set_option maxRecDepth 100000 in
theorem eqB_any (a : Option Addr) (n c : Nat) (l : List UInt8) (a2 : Option Addr) (n2 c2 : Nat) (l2 : List UInt8) (w : World) (hs : Sl w a n c l) (hs2 : Sl w a2 n2 c2 l2) :
    Calls Tryd.prog 21 #[.slice a n c, .slice a2 n2 c2] w fun e w' => e = .returned (.bool (l == l2)) ∧ Below w.heap.size w w' := by
  have q1 := conv_sl hs
  have q2 := conv_sl hs2
  obtain ⟨r, hr⟩ : ∃ r, r = (l == l2) := ⟨_, rfl⟩
  rw [← hr]
  have HR := hr.symm
  clear hs hs2 hr
  go_enter Tryd.func21, Tryd.ntmps21
  go_wp2_with fail
  go_ret
  exact ⟨rfl, Below.refl _ _⟩

/-- two values of the rows are held against each other -/
def PairP (ks kt : List Sx) (K K2 : Nat → SV) (w : World) : Prop := ∀ i (h : i < ks.length) (h2 : i < kt.length) w', Below w.heap.size w w' → Calls Tryd.prog 26 #[(K i).val, (K2 i).val] w' fun e w'' => e = .returned (.bool (ks[i].same kt[i])) ∧ Below w'.heap.size w' w''

set_option maxHeartbeats 8000000 in
set_option maxRecDepth 100000 in
theorem equal_any (a : Option Addr) (n c : Nat) (K : Nat → SV) (ks : List Sx) (a2 : Option Addr) (m c2 : Nat) (K2 : Nat → SV) (kt : List Sx) (w : World) (hr : RowAt w a n c K) (hr2 : RowAt w a2 m c2 K2) (hn : n = ks.length) (hn2 : m = kt.length) (he : PairP ks kt K K2 w) :
    Calls Tryd.prog 35 #[.slice a n c, .slice a2 m c2, .func (.func 26) #[] #[]] w fun e w' => e = .returned (.bool (Sx.sameL ks kt)) ∧ Below w.heap.size w w' := by
  have HR := Lib.hid hr
  have HR2 := Lib.hid hr2
  have HE := Lib.hid he
  have HN := Lib.hid hn
  have HN2 := Lib.hid hn2
  have hcm := Nat.le_trans hr.1 hr.2.1
  have hcm2 := Nat.le_trans hr2.1 hr2.2.1
  unfold maxLen at hcm hcm2
  clear hr hr2 he hn hn2
  by_cases hlen : n = m
  case neg =>
    have HQ : Hid (Sx.sameL ks kt = false) := Lib.hid (sameL_len (by have := HN.out; have := HN2.out; omega))
    have q4 : ((n : Int) == m) = false := by simp; omega
    have q5 : ((n : Int) != m) = true := by simp; omega
    clear hlen
    go_enter Tryd.func35, Tryd.ntmps35
    go_wp2_with fail
    go_ret
    exact ⟨by rw [HQ.out]; rfl, Below.refl _ _⟩
  subst hlen
  go_enter Tryd.func35, Tryd.ntmps35
  go_wp2_with fail
  go_loopw [17] (fun i wr => ∃ k : Nat, k ≤ n ∧ i = .int .i64 k ∧ Hid (Sx.sameL (ks.take k) (kt.take k) = true) ∧ Below w.heap.size w wr) (fun i _ => n - (intOf i).toNat)
  case atStart => exact ⟨0, Nat.zero_le _, rfl, Lib.hid rfl, Below.refl _ _⟩
  case round =>
    obtain ⟨k, hkn, rfl, HC, hb⟩ := hrel
    by_cases hlt : k < n
    · have g1 : k < ks.length := by have := HN.out; omega
      have g2 : k < kt.length := by have := HN2.out; omega
      obtain ⟨b, o, rfl, _⟩ := HR.out.rangeB hlt
      obtain ⟨b2, o2, rfl, _⟩ := HR2.out.rangeB hlt
      obtain ⟨ck, hck⟩ : ∃ ck, ck = ks[k].same kt[k] := ⟨_, rfl⟩
      have HCK := Lib.hid hck
      have CE := Lib.hid (fun w' hw => HE.out k g1 g2 w' hw)
      rw [← hck] at CE
      have HL1 : Hid (∀ w', Below w.heap.size w w' → w'.rangeAt b (o + k * 5) (K k).cells.toList) := Lib.hid fun w' hw => (HR.out.after hw).rangeA hlt
      have HL2 : Hid (∀ w', Below w.heap.size w w' → w'.rangeAt b2 (o2 + k * 5) (K2 k).cells.toList) := Lib.hid fun w' hw => (HR2.out.after hw).rangeA hlt
      obtain ⟨v1, hv1⟩ : ∃ v1, v1 = K k := ⟨_, rfl⟩
      obtain ⟨v2, hv2⟩ : ∃ v2, v2 = K2 k := ⟨_, rfl⟩
      rw [← hv1] at HL1 CE
      rw [← hv2] at HL2 CE
      clear hck hv1 hv2
      obtain ⟨vl1, vh1, p11, pn11, pc11, p12, pn12, pc12, p13, pn13, pc13⟩ := v1
      obtain ⟨vl2, vh2, p21, pn21, pc21, p22, pn22, pc22, p23, pn23, pc23⟩ := v2
      have hL1 := HL1.out wr hb
      go_upto_region 6 with (refine wpList_load_sv rfl _ rfl b _ rfl _ hL1 ?_; simp only [SV.val])
      have hA : Below wr.heap.size wr (wr.alloc (.cells #[.bool vl1, .bool vh1, .slice p11 pn11 pc11, .slice p12 pn12 pc12, .slice p13 pn13 pc13] 33)) := (Below.refl _ _).alloc (Nat.le_refl _) _
      have X1 := Box.new wr 33 #[.bool vl1, .bool vh1, .slice p11 pn11 pc11, .slice p12 pn12 pc12, .slice p13 pn13 pc13]
      change Code.wp _ _ _ _ (wr.alloc (.cells #[.bool vl1, .bool vh1, .slice p11 pn11 pc11, .slice p12 pn12 pc12, .slice p13 pn13 pc13] 33))
      generalize (wr.alloc (.cells #[.bool vl1, .bool vh1, .slice p11 pn11 pc11, .slice p12 pn12 pc12, .slice p13 pn13 pc13] 33)) = z1 at *
      have hL2 := HL2.out z1 (hb.trans (hA.mono hb.size))
      go_upto_region 7 with (refine wpList_load_sv rfl _ rfl b2 _ rfl _ hL2 ?_; simp only [SV.val])
      have hB : Below z1.heap.size z1 (z1.alloc (.cells #[.bool vl2, .bool vh2, .slice p21 pn21 pc21, .slice p22 pn22 pc22, .slice p23 pn23 pc23] 33)) := (Below.refl _ _).alloc (Nat.le_refl _) _
      have Y2 := Box.new z1 33 #[.bool vl2, .bool vh2, .slice p21 pn21 pc21, .slice p22 pn22 pc22, .slice p23 pn23 pc23]
      have X2 := X1.after hB
      change Code.wp _ _ _ _ (z1.alloc (.cells #[.bool vl2, .bool vh2, .slice p21 pn21 pc21, .slice p22 pn22 pc22, .slice p23 pn23 pc23] 33))
      generalize (z1.alloc (.cells #[.bool vl2, .bool vh2, .slice p21 pn21 pc21, .slice p22 pn22 pc22, .slice p23 pn23 pc23] 33)) = z2 at *
      have hz2 : Below w.heap.size w z2 := (hb.trans (hA.mono hb.size)).trans (hB.mono (Nat.le_trans hb.size hA.size))
      clear hL1 hL2 hA hB X1 HL1 HL2
      have HX2 := Lib.hid X2
      have HY2 := Lib.hid Y2
      clear X2 Y2
      generalize wr.heap.size = y1 at *
      generalize z1.heap.size = y2 at *
      go_wp2_with first | (refine wpList_load_box rfl 33 _ rfl HX2.out (by rfl) Tryd.underlying33 rfl (by kernel_rfl) ?_) | (refine wpList_load_box rfl 33 _ rfl HY2.out (by rfl) Tryd.underlying33 rfl (by kernel_rfl) ?_)
      refine (CE.out z2 hz2).mono ?_
      rintro e w5 ⟨rfl, hb5⟩
      have HB5 := hz2.trans (hb5.mono hz2.size)
      clear hb5 HX2 HY2
      cases ck with
      | false =>
        go_wp2_with fail
        go_ret
        exact ⟨by rw [sameL_no k g1 g2 HCK.out.symm]; rfl, HB5⟩
      | true =>
        go_wp2_with fail
        go_roundw
        case rel => exact ⟨k + 1, by omega, by go_num, Lib.hid (by rw [sameL_snoc k g1 g2, HC.out, ← HCK.out]; rfl), HB5⟩
        case measure => simp [intOf]; omega
    · go_wp2_with fail
      go_ret
      have hnn : k = n := by omega
      subst hnn
      have h5 := HC.out
      rw [List.take_of_length_le (by have := HN.out; omega), List.take_of_length_le (by have := HN2.out; omega)] at h5
      exact ⟨by rw [h5]; rfl, hb⟩

set_option maxHeartbeats 8000000 in
set_option maxRecDepth 100000 in
theorem same_any (s : Sx) : ∀ (t : Sx) (v vb : SV) (w : World), Rd w v s → Rd w vb t → Calls Tryd.prog 26 #[v.val, vb.val] w fun e w' => e = .returned (.bool (s.same t)) ∧ Below w.heap.size w w' := by
  induction s using Sx.ind with
  | h l hh hi da ks ih =>
  intro t v vb w hr hrb
  obtain ⟨lb, hhb, hib, dab, ksb⟩ := t
  have IH := Lib.hid ih
  clear ih
  have HRR := Lib.hid hr
  obtain ⟨hvl, hvh, hs1, hs2, hn, hnc, hcm, K, hrow, hk⟩ := hr.parts
  obtain ⟨vl, vh, a1, n1, k1, a2, n2, k2, a3, n3, k3⟩ := v
  dsimp only at hn hnc hcm hrow hk hvl hvh hs1 hs2
  obtain rfl : vl = l := hvl
  obtain rfl : vh = hh := hvh
  replace hn : n3 = ks.length := hn
  replace hs1 : Sl w a1 n1 k1 hi := hs1
  replace hs2 : Sl w a2 n2 k2 da := hs2
  replace hk : ∀ i (hi : i < ks.length), RdI (fun _ => True) w (K i) ks[i] := hk
  have HK := Lib.hid hk
  have HR := Lib.hid hrow
  have HS1 := Lib.hid hs1
  have HS2 := Lib.hid hs2
  have HN3 := Lib.hid hn
  clear hk hrow hr hs1 hs2 hn
  unfold maxLen at hcm
  have HRRb := Lib.hid hrb
  obtain ⟨hvl, hvh, hs1, hs2, hn, hncb, hcmb, Kb, hrow, hk⟩ := hrb.parts
  obtain ⟨vlb, vhb, a1b, n1b, k1b, a2b, n2b, k2b, a3b, n3b, k3b⟩ := vb
  dsimp only at hn hncb hcmb hrow hk hvl hvh hs1 hs2
  obtain rfl : vlb = lb := hvl
  obtain rfl : vhb = hhb := hvh
  replace hn : n3b = ksb.length := hn
  replace hs1 : Sl w a1b n1b k1b hib := hs1
  replace hs2 : Sl w a2b n2b k2b dab := hs2
  replace hk : ∀ i (hi : i < ksb.length), RdI (fun _ => True) w (Kb i) ksb[i] := hk
  have HKb := Lib.hid hk
  have HRb := Lib.hid hrow
  have HS1b := Lib.hid hs1
  have HS2b := Lib.hid hs2
  have HN3b := Lib.hid hn
  clear hk hrow hrb hs1 hs2 hn
  unfold maxLen at hcmb
  by_cases e0 : vl = vlb
  case neg =>
    have q0 : (vl == vlb) = false := by simpa using e0
    have HQ := Lib.hid q0
    clear e0
    have hb0 : Below w.heap.size w ((w.alloc (.cells #[.bool vl, .bool vh, .slice a1 n1 k1, .slice a2 n2 k2, .slice a3 n3 k3] 33)).alloc (.cells #[.bool vlb, .bool vhb, .slice a1b n1b k1b, .slice a2b n2b k2b, .slice a3b n3b k3b] 33)) := ((Below.refl _ _).alloc (Nat.le_refl _) _).alloc (by simp) _
    have A0 : Box ((w.alloc (.cells #[.bool vl, .bool vh, .slice a1 n1 k1, .slice a2 n2 k2, .slice a3 n3 k3] 33)).alloc (.cells #[.bool vlb, .bool vhb, .slice a1b n1b k1b, .slice a2b n2b k2b, .slice a3b n3b k3b] 33)) w.heap.size 33 #[.bool vl, .bool vh, .slice a1 n1 k1, .slice a2 n2 k2, .slice a3 n3 k3] := (Box.new _ _ _).alloc _
    have B0 : Box ((w.alloc (.cells #[.bool vl, .bool vh, .slice a1 n1 k1, .slice a2 n2 k2, .slice a3 n3 k3] 33)).alloc (.cells #[.bool vlb, .bool vhb, .slice a1b n1b k1b, .slice a2b n2b k2b, .slice a3b n3b k3b] 33)) (w.heap.size + 1) 33 #[.bool vlb, .bool vhb, .slice a1b n1b k1b, .slice a2b n2b k2b, .slice a3b n3b k3b] := by
      have := Box.new (w.alloc (.cells #[.bool vl, .bool vh, .slice a1 n1 k1, .slice a2 n2 k2, .slice a3 n3 k3] 33)) 33 #[.bool vlb, .bool vhb, .slice a1b n1b k1b, .slice a2b n2b k2b, .slice a3b n3b k3b]
      simpa using this
    have x0 := A0.cell 0 rfl
    have x1 := A0.cell 1 rfl
    have x2 := A0.cell 2 rfl
    have x3 := A0.cell 3 rfl
    have x4 := A0.cell 4 rfl
    have y0 := B0.cell 0 rfl
    have y1 := B0.cell 1 rfl
    have y2 := B0.cell 2 rfl
    have y3 := B0.cell 3 rfl
    have y4 := B0.cell 4 rfl
    show Calls _ _ #[.agg #[.bool vl, .bool vh, .slice a1 n1 k1, .slice a2 n2 k2, .slice a3 n3 k3], .agg #[.bool vlb, .bool vhb, .slice a1b n1b k1b, .slice a2b n2b k2b, .slice a3b n3b k3b]] _ _
    go_enter Tryd.func26, Tryd.ntmps26
    go_wp2_with fail
    go_ret
    exact ⟨by rw [same_def, HQ.out]; simp, hb0⟩
  subst e0
  by_cases e1 : vh = vhb
  case neg =>
    have q1 : (vh == vhb) = false := by simpa using e1
    have q0 : (vl == vl) = true := by simp
    have HQ := Lib.hid q1
    clear e1
    have hb0 : Below w.heap.size w ((w.alloc (.cells #[.bool vl, .bool vh, .slice a1 n1 k1, .slice a2 n2 k2, .slice a3 n3 k3] 33)).alloc (.cells #[.bool vl, .bool vhb, .slice a1b n1b k1b, .slice a2b n2b k2b, .slice a3b n3b k3b] 33)) := ((Below.refl _ _).alloc (Nat.le_refl _) _).alloc (by simp) _
    have A0 : Box ((w.alloc (.cells #[.bool vl, .bool vh, .slice a1 n1 k1, .slice a2 n2 k2, .slice a3 n3 k3] 33)).alloc (.cells #[.bool vl, .bool vhb, .slice a1b n1b k1b, .slice a2b n2b k2b, .slice a3b n3b k3b] 33)) w.heap.size 33 #[.bool vl, .bool vh, .slice a1 n1 k1, .slice a2 n2 k2, .slice a3 n3 k3] := (Box.new _ _ _).alloc _
    have B0 : Box ((w.alloc (.cells #[.bool vl, .bool vh, .slice a1 n1 k1, .slice a2 n2 k2, .slice a3 n3 k3] 33)).alloc (.cells #[.bool vl, .bool vhb, .slice a1b n1b k1b, .slice a2b n2b k2b, .slice a3b n3b k3b] 33)) (w.heap.size + 1) 33 #[.bool vl, .bool vhb, .slice a1b n1b k1b, .slice a2b n2b k2b, .slice a3b n3b k3b] := by
      have := Box.new (w.alloc (.cells #[.bool vl, .bool vh, .slice a1 n1 k1, .slice a2 n2 k2, .slice a3 n3 k3] 33)) 33 #[.bool vl, .bool vhb, .slice a1b n1b k1b, .slice a2b n2b k2b, .slice a3b n3b k3b]
      simpa using this
    have x0 := A0.cell 0 rfl
    have x1 := A0.cell 1 rfl
    have x2 := A0.cell 2 rfl
    have x3 := A0.cell 3 rfl
    have x4 := A0.cell 4 rfl
    have y0 := B0.cell 0 rfl
    have y1 := B0.cell 1 rfl
    have y2 := B0.cell 2 rfl
    have y3 := B0.cell 3 rfl
    have y4 := B0.cell 4 rfl
    show Calls _ _ #[.agg #[.bool vl, .bool vh, .slice a1 n1 k1, .slice a2 n2 k2, .slice a3 n3 k3], .agg #[.bool vl, .bool vhb, .slice a1b n1b k1b, .slice a2b n2b k2b, .slice a3b n3b k3b]] _ _
    go_enter Tryd.func26, Tryd.ntmps26
    go_wp2_with fail
    go_ret
    exact ⟨by rw [same_def, HQ.out]; simp, hb0⟩
  subst e1
  obtain ⟨r2, hr2⟩ : ∃ r, r = (hi == hib) := ⟨_, rfl⟩
  obtain ⟨r3, hr3⟩ : ∃ r, r = (da == dab) := ⟨_, rfl⟩
  obtain ⟨r4, hr4⟩ : ∃ r, r = Sx.sameL ks ksb := ⟨_, rfl⟩
  have HSD : Hid ((Sx.mk vl vh hi da ks).same (.mk vl vh hib dab ksb) = (r2 && r3 && r4)) := Lib.hid (by rw [same_def, hr2, hr3, hr4]; simp)
  have CE1 := Lib.hid (fun w' (h : Below w.heap.size w w') => eqB_any a1 n1 k1 hi a1b n1b k1b hib w' (HS1.out.after h) (HS1b.out.after h))
  have CE2 := Lib.hid (fun w' (h : Below w.heap.size w w') => eqB_any a2 n2 k2 da a2b n2b k2b dab w' (HS2.out.after h) (HS2b.out.after h))
  have CE3 := Lib.hid (fun w' (h : Below w.heap.size w w') => equal_any a3 n3 k3 K ks a3b n3b k3b Kb ksb w' (HR.out.after h) (HRb.out.after h) HN3.out HN3b.out (fun i h1 h2 w2 hw => IH.out _ (List.getElem_mem h1) _ _ _ _ (((HK.out i h1).after h).after hw) (((HKb.out i h2).after h).after hw)))
  rw [← hr2] at CE1
  rw [← hr3] at CE2
  rw [← hr4] at CE3
  clear hr2 hr3 hr4
  have q0 : (vl == vl) = true := by simp
  have q1 : (vh == vh) = true := by simp
  have hb0 : Below w.heap.size w ((w.alloc (.cells #[.bool vl, .bool vh, .slice a1 n1 k1, .slice a2 n2 k2, .slice a3 n3 k3] 33)).alloc (.cells #[.bool vl, .bool vh, .slice a1b n1b k1b, .slice a2b n2b k2b, .slice a3b n3b k3b] 33)) := ((Below.refl _ _).alloc (Nat.le_refl _) _).alloc (by simp) _
  have A0 : Box ((w.alloc (.cells #[.bool vl, .bool vh, .slice a1 n1 k1, .slice a2 n2 k2, .slice a3 n3 k3] 33)).alloc (.cells #[.bool vl, .bool vh, .slice a1b n1b k1b, .slice a2b n2b k2b, .slice a3b n3b k3b] 33)) w.heap.size 33 #[.bool vl, .bool vh, .slice a1 n1 k1, .slice a2 n2 k2, .slice a3 n3 k3] := (Box.new _ _ _).alloc _
  have B0 : Box ((w.alloc (.cells #[.bool vl, .bool vh, .slice a1 n1 k1, .slice a2 n2 k2, .slice a3 n3 k3] 33)).alloc (.cells #[.bool vl, .bool vh, .slice a1b n1b k1b, .slice a2b n2b k2b, .slice a3b n3b k3b] 33)) (w.heap.size + 1) 33 #[.bool vl, .bool vh, .slice a1b n1b k1b, .slice a2b n2b k2b, .slice a3b n3b k3b] := by
    have := Box.new (w.alloc (.cells #[.bool vl, .bool vh, .slice a1 n1 k1, .slice a2 n2 k2, .slice a3 n3 k3] 33)) 33 #[.bool vl, .bool vh, .slice a1b n1b k1b, .slice a2b n2b k2b, .slice a3b n3b k3b]
    simpa using this
  have x0 := A0.cell 0 rfl
  have x1 := A0.cell 1 rfl
  have x2 := A0.cell 2 rfl
  have x3 := A0.cell 3 rfl
  have x4 := A0.cell 4 rfl
  have y0 := B0.cell 0 rfl
  have y1 := B0.cell 1 rfl
  have y2 := B0.cell 2 rfl
  have y3 := B0.cell 3 rfl
  have y4 := B0.cell 4 rfl
  show Calls _ _ #[.agg #[.bool vl, .bool vh, .slice a1 n1 k1, .slice a2 n2 k2, .slice a3 n3 k3], .agg #[.bool vl, .bool vh, .slice a1b n1b k1b, .slice a2b n2b k2b, .slice a3b n3b k3b]] _ _
  go_enter Tryd.func26, Tryd.ntmps26
  go_upto_region 1 with fail
  change Code.wp _ _ _ _ ((w.alloc (.cells #[.bool vl, .bool vh, .slice a1 n1 k1, .slice a2 n2 k2, .slice a3 n3 k3] 33)).alloc (.cells #[.bool vl, .bool vh, .slice a1b n1b k1b, .slice a2b n2b k2b, .slice a3b n3b k3b] 33))
  generalize ((w.alloc (.cells #[.bool vl, .bool vh, .slice a1 n1 k1, .slice a2 n2 k2, .slice a3 n3 k3] 33)).alloc (.cells #[.bool vl, .bool vh, .slice a1b n1b k1b, .slice a2b n2b k2b, .slice a3b n3b k3b] 33)) = z0 at *
  go_wp2_with fail
  refine (CE1.out _ hb0).mono ?_
  rintro e w1 ⟨rfl, hb1⟩
  have HB1 := hb0.trans (hb1.mono hb0.size)
  have A1 := A0.after hb1
  have B1 := B0.after hb1
  clear hb1 x0 x1 x2 x3 x4 y0 y1 y2 y3 y4 A0 B0
  have x0 := A1.cell 0 rfl
  have x1 := A1.cell 1 rfl
  have x2 := A1.cell 2 rfl
  have x3 := A1.cell 3 rfl
  have x4 := A1.cell 4 rfl
  have y0 := B1.cell 0 rfl
  have y1 := B1.cell 1 rfl
  have y2 := B1.cell 2 rfl
  have y3 := B1.cell 3 rfl
  have y4 := B1.cell 4 rfl
  cases r2 with
  | false =>
    go_wp2_with fail
    go_ret
    exact ⟨by rw [HSD.out]; simp, HB1⟩
  | true =>
    go_wp2_with fail
    refine (CE2.out _ HB1).mono ?_
    rintro e w2 ⟨rfl, hb2⟩
    have HB2 := HB1.trans (hb2.mono HB1.size)
    have A2 := A1.after hb2
    have B2 := B1.after hb2
    clear hb2 x0 x1 x2 x3 x4 y0 y1 y2 y3 y4 A1 B1
    have x0 := A2.cell 0 rfl
    have x1 := A2.cell 1 rfl
    have x2 := A2.cell 2 rfl
    have x3 := A2.cell 3 rfl
    have x4 := A2.cell 4 rfl
    have y0 := B2.cell 0 rfl
    have y1 := B2.cell 1 rfl
    have y2 := B2.cell 2 rfl
    have y3 := B2.cell 3 rfl
    have y4 := B2.cell 4 rfl
    cases r3 with
    | false =>
      go_wp2_with fail
      go_ret
      exact ⟨by rw [HSD.out]; simp, HB2⟩
    | true =>
      go_wp2_with fail
      refine (CE3.out _ HB2).mono ?_
      rintro e w3 ⟨rfl, hb3⟩
      have HB3 := HB2.trans (hb3.mono HB2.size)
      go_wp2_with fail
      go_ret
      exact ⟨by rw [HSD.out]; simp, HB3⟩

end Go.Proofs.YthmigigclmogiaaDoor

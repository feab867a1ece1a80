/- Values with long parts: the program's May of them; what advanced forms yield is such. The program's reads, of advanced forms and of others; Read. Dates: plain numbers. Dates: what the small functions compute. -/
import Derived.Test.YtigopfeamjhdpaaDoorWnG8
import Derived.Test.YtigopfeamjhdpaaDoorRows
import Derived.Deep.QuietTactic
import Derived.BigQuiet
import Derived.WalkLawsBesides
import Derived.WalkSmall
namespace Go.Proofs.YtigopfeamjhdpaaDoor
open Go.RowKit
set_option linter.unusedSimpArgs false
set_option linter.unusedVariables false

mutual
/-- no wider or longer than what 16384 bytes may tell -/
def Sx.broad : Sx → Nat → Bool
  | .mk _ _ hi da ks, at_ => decide (60 < at_) || decide (700 < ks.length) || decide (100000 < hi.length) || decide (100000 < da.length) || Sx.broadL ks (at_ + 1)
def Sx.broadL : List Sx → Nat → Bool
  | [], _ => false
  | k :: r, at_ => k.broad at_ || Sx.broadL r at_
end
theorem Sx.broadL_yes {ks : List Sx} {k : Sx} {m : Nat} (h : k ∈ ks) (hk : k.broad m = true) : Sx.broadL ks m = true := by
  induction ks with
  | nil => cases h
  | cons a r ih => rcases List.mem_cons.1 h with rfl | h
                   · simp [Sx.broadL, hk]
                   · simp [Sx.broadL, ih h]
theorem broad_def (l h : Bool) (hi da : List UInt8) (ks : List Sx) (m : Nat) : (Sx.mk l h hi da ks).broad m = (decide (60 < m) || decide (700 < ks.length) || decide (100000 < hi.length) || decide (100000 < da.length) || Sx.broadL ks (m + 1)) := by simp only [Sx.broad]
theorem broad_no {s : Sx} : ∀ {m : Nat}, s.broad m = false → m ≤ 60 ∧ s.ks.length ≤ 700 ∧ s.hi.length ≤ 100000 ∧ s.da.length ≤ 100000 ∧ ∀ k ∈ s.ks, k.broad (m + 1) = false := by
  intro m h
  obtain ⟨l, hh, hi, da, ks⟩ := s
  rw [broad_def] at h
  simp only [Bool.or_eq_false_iff, decide_eq_false_iff_not] at h
  obtain ⟨⟨⟨⟨h1, h2⟩, h3⟩, h4⟩, h5⟩ := h
  refine ⟨by omega, by simp only [Sx.ks]; omega, by simp only [Sx.hi]; omega, by simp only [Sx.da]; omega, fun k hk => ?_⟩
  by_cases e : k.broad (m + 1) = true
  · rw [Sx.broadL_yes (ks := ks) hk e] at h5; cases h5
  · simpa using e
theorem deep_broad (s : Sx) : ∀ m, s.broad m = false → s.deep + m ≤ 61 := by
  induction s using Sx.ind with
  | h l hh hi da ks ih =>
    intro m h
    obtain ⟨h1, _, _, _, h2⟩ := broad_no h
    have : Sx.deepL ks ≤ 60 - m := deepL_le fun k hk => by have := ih k hk (m + 1) (h2 k hk); omega
    simp only [Sx.deep]
    split <;> omega
theorem formL_leB {ks : List Sx} (h : ∀ k ∈ ks, k.form.length ≤ 210000 * k.nodes) : (Sx.formL ks).length ≤ 210000 * Sx.nodesL ks := by
  induction ks with
  | nil => simp [Sx.formL]
  | cons a r ih => have h1 := h a List.mem_cons_self; have h2 := ih (fun k hk => h k (List.mem_cons_of_mem _ hk)); simp only [Sx.formL, Sx.nodesL, List.length_append]; omega
theorem form_broad (s : Sx) : ∀ m, s.broad m = false → s.form.length ≤ 210000 * s.nodes := by
  induction s using Sx.ind with
  | h l hh hi da ks ih =>
    intro m h
    obtain ⟨h1, _, h3, h4, h2⟩ := broad_no h
    simp only [Sx.hi, Sx.da] at h3 h4
    have := formL_leB fun k hk => ih k hk (m + 1) (h2 k hk)
    have e1 := textL_len hi (by omega)
    have e2 := textL_len da (by omega)
    rw [form_def]
    simp only [Sx.nodes]
    cases l <;> cases hh <;> simp <;> omega
set_option maxHeartbeats 8000000 in
set_option maxRecDepth 100000 in
theorem rightB_any (s : Sx) : ∀ (v : SV) (g N S d m : Nat) (w : World), Box w g 97 #[.int .i64 N, .int .i64 S] → RdI (fun k => k ≠ g) w v s → s.broad m = false → TabX (fun k => k = g) w → N ≤ 512 → S ≤ 300000 * N → d ≤ 17 →
    Calls Tryd.prog 68 #[.pointer (some ⟨g, 0, none⟩), v.val, .int .i64 d] w (RightP g (s.okR d N) (N + s.nodes) (S + s.form.length) w) := by
  induction s using Sx.ind with
  | h l hh hi da ks ih =>
  intro v g N S d m w hg hr hwd htx hN hS hd
  have HRR := Lib.hid hr
  obtain ⟨hvl, hvh, hs1, hs2, hn, hnc, hcm, K, hrow, hk⟩ := hr.parts
  obtain ⟨vl, vh, a1, n1, k1, a2, n2, k2, a3, n3, k3⟩ := v
  dsimp only at hn hnc hcm hrow hk hvl hvh hs1 hs2
  obtain rfl : vl = l := hvl
  obtain rfl : vh = hh := hvh
  replace hn : n3 = ks.length := hn
  replace hs1 : Sl w a1 n1 k1 hi := hs1
  replace hs2 : Sl w a2 n2 k2 da := hs2
  replace hk : ∀ i (hi : i < ks.length), RdI (fun k => k ≠ g) w (K i) ks[i] := hk
  obtain ⟨l1, hl1⟩ : ∃ l1, l1 = hi := ⟨_, rfl⟩
  have hn1 := hs1.1
  have hn2 := hs2.1
  have hm1 := hs1.2.1
  have hm2 := hs2.2.1
  have hx1 := hs1.2.2.1
  have hx2 := hs2.2.2.1
  have IH := Lib.hid ih
  have HK := Lib.hid hk
  have HR := Lib.hid hrow
  have HS1 := Lib.hid hs1
  have HS2 := Lib.hid hs2
  have HN1 := Lib.hid hn1
  have HN2 := Lib.hid hn2
  clear ih hk hrow hr hs1 hs2 hn1 hn2 hl1
  subst hn
  obtain ⟨hm60, _, hw1, hw2, hwk⟩ := broad_no hwd
  replace hw1 : hi.length ≤ 100000 := hw1
  replace hw2 : da.length ≤ 100000 := hw2
  have hn1 : n1 ≤ 100000 := by have := HN1.out; omega
  have hn2 : n2 ≤ 100000 := by have := HN2.out; omega
  have HWK := Lib.hid hwk
  have HTX := Lib.hid htx
  have hfw := form_broad _ m hwd
  have HFW := Lib.hid hfw
  have hgl := hg.lt
  unfold maxLen at hcm
  clear hwk hwd htx hfw hx1 hx2 hm1 hm2 hm60
  have hgne : g ≠ w.heap.size := by omega
  by_cases hmany : N = 512
  case pos =>
    have hmany' : (512 : Int) < (N : Int) + 1 := by omega
    replace hmany := Nat.le_of_eq hmany.symm
    have X0 := Box.new w 27 #[.bool vl, .bool vh, .slice a1 n1 k1, .slice a2 n2 k2, .slice a3 ks.length k3]
    have G0 := hg.alloc (.cells #[.bool vl, .bool vh, .slice a1 n1 k1, .slice a2 n2 k2, .slice a3 ks.length k3] 27)
    have B0 : But (fun k => k = g) w (w.alloc (.cells #[.bool vl, .bool vh, .slice a1 n1 k1, .slice a2 n2 k2, .slice a3 ks.length k3] 27)) := (But.refl (fun k => k = g) w).alloc _
    show Calls _ _ #[.pointer (some ⟨g, 0, none⟩), .agg #[.bool vl, .bool vh, .slice a1 n1 k1, .slice a2 n2 k2, .slice a3 ks.length k3], .int .i64 d] _ _
    go_enter Tryd.func68, Tryd.ntmps68
    go_upto_region 1 with fail
    change Code.wp _ _ _ _ (w.alloc (.cells #[.bool vl, .bool vh, .slice a1 n1 k1, .slice a2 n2 k2, .slice a3 ks.length k3] 27))
    generalize (w.alloc (.cells #[.bool vl, .bool vh, .slice a1 n1 k1, .slice a2 n2 k2, .slice a3 ks.length k3] 27)) = v0 at *
    have c0 := G0.cell 0 rfl
    have f0 := G0.frozen 0
    have e1 : IntKind.i64.wrap ((N : Int) + 1) = (N : Int) + 1 := IntWalk.i64_in _ ⟨by omega, by omega⟩
    go_upto_region 2 with fail
    have X1 := X0.far ⟨g, 0, none⟩ (.int .i64 ((N : Int) + 1)) (Ne.symm hgne)
    have G1 := G0.set 0 (.int .i64 ((N : Int) + 1))
    have B1 := B0.setCell (p := ⟨g, 0, none⟩) (.inl rfl) (.int .i64 ((N : Int) + 1))
    change Code.wp _ _ _ _ (v0.setCell ⟨g, 0, none⟩ (.int .i64 ((N : Int) + 1)))
    clear X0 G0 B0 c0 f0 e1 hg
    generalize (v0.setCell ⟨g, 0, none⟩ (.int .i64 ((N : Int) + 1))) = v1 at *
    replace G1 : Box v1 g 97 #[.int .i64 ((N : Int) + 1), .int .i64 S] := G1
    have c0 := G1.cell 0 rfl
    go_wp2_with fail
    go_ret
    exact ⟨N + 1, S, by rw [okR_many (by omega)]; rfl, by have := G1; rwa [show ((N + 1 : Nat) : Int) = (N : Int) + 1 by omega], (fun h => by rw [okR_many (by omega)] at h; cases h), B1⟩
  replace hmany : N < 512 := by omega
  have hmany' : ¬ (512 : Int) < (N : Int) + 1 := by omega
  cases vl with
  | false =>
    cases vh with
    | false =>
      have X0 := Box.new w 27 #[.bool false, .bool false, .slice a1 n1 k1, .slice a2 n2 k2, .slice a3 ks.length k3]
      have G0 := hg.alloc (.cells #[.bool false, .bool false, .slice a1 n1 k1, .slice a2 n2 k2, .slice a3 ks.length k3] 27)
      have B0 : But (fun k => k = g) w (w.alloc (.cells #[.bool false, .bool false, .slice a1 n1 k1, .slice a2 n2 k2, .slice a3 ks.length k3] 27)) := (But.refl (fun k => k = g) w).alloc _
      show Calls _ _ #[.pointer (some ⟨g, 0, none⟩), .agg #[.bool false, .bool false, .slice a1 n1 k1, .slice a2 n2 k2, .slice a3 ks.length k3], .int .i64 d] _ _
      go_enter Tryd.func68, Tryd.ntmps68
      go_upto_region 1 with fail
      change Code.wp _ _ _ _ (w.alloc (.cells #[.bool false, .bool false, .slice a1 n1 k1, .slice a2 n2 k2, .slice a3 ks.length k3] 27))
      generalize (w.alloc (.cells #[.bool false, .bool false, .slice a1 n1 k1, .slice a2 n2 k2, .slice a3 ks.length k3] 27)) = v0 at *
      have c0 := G0.cell 0 rfl
      have f0 := G0.frozen 0
      have e1 : IntKind.i64.wrap ((N : Int) + 1) = (N : Int) + 1 := IntWalk.i64_in _ ⟨by omega, by omega⟩
      go_upto_region 2 with fail
      have X1 := X0.far ⟨g, 0, none⟩ (.int .i64 ((N : Int) + 1)) (Ne.symm hgne)
      have G1 := G0.set 0 (.int .i64 ((N : Int) + 1))
      have B1 := B0.setCell (p := ⟨g, 0, none⟩) (.inl rfl) (.int .i64 ((N : Int) + 1))
      change Code.wp _ _ _ _ (v0.setCell ⟨g, 0, none⟩ (.int .i64 ((N : Int) + 1)))
      clear X0 G0 B0 c0 f0 e1 hg
      generalize (v0.setCell ⟨g, 0, none⟩ (.int .i64 ((N : Int) + 1))) = v1 at *
      replace G1 : Box v1 g 97 #[.int .i64 ((N : Int) + 1), .int .i64 S] := G1
      have X1' := X1
      have c0 := G1.cell 0 rfl
      have l0 := X1.cell 0 rfl
      have l1 := X1.cell 1 rfl
      go_upto_region 8 with fail
      clear c0 l0 l1 X1'
      replace G1 : Box v1 g 97 #[.int .i64 ((N + 1 : Nat) : Int), .int .i64 S] := by rw [show ((N + 1 : Nat) : Int) = (N : Int) + 1 by omega]; exact G1
      have cc := X1.cell 3 rfl
      go_wp2_with fail
      refine (cbytes_any g (N + 1) (S) _ n2 _ da v1 G1 (by omega) (by omega) HN2.out (HTX.out _ B1)).mono ?_
      rintro e v2 ⟨rfl, G2, b2⟩
      have X2 := b2.box X1 (by omega)
      have B2 := B1.trans b2 (fun k hk => .inl hk)
      clear cc X1 G1 b2
      have c4 := X2.cell 4 rfl
      have c1 := X2.cell 1 rfl
      have c2 := X2.cell 2 rfl
      by_cases hk0 : ks.length = 0
      case neg =>
        have hk0' : ((ks.length : Int) == 0) = false := beq_eq_false_iff_ne.2 (by omega)
        have HU : Hid ((Sx.mk false false hi da ks).okR d N = false) := Lib.hid (okR_unclean (by rw [clean_def, headOk5 _ _ _ (by omega)]; rfl))
        go_wp2_with fail
        go_ret
        exact ⟨N + 1, S + (textL da).length, by rw [HU.out]; rfl, G2, (fun h => by rw [HU.out] at h; cases h), B2⟩
      have hks : ks = [] := List.eq_nil_of_length_eq_zero hk0
      subst hks
      by_cases h1 : n1 = 0
      · subst h1
        have HU : Hid ((Sx.mk false false hi da []).okR d N = true) := Lib.hid (okR_atom hmany hd (headOk8 _ (by have := HN1.out; omega) rfl))
        go_wp2_with fail
        go_ret
        exact ⟨N + 1, S + (textL da).length, by rw [HU.out]; rfl, G2, (fun _ => ⟨by simp [Sx.nodes, Sx.nodesL], by rw [form_def]; simp; try omega⟩), B2⟩
      · have h1' : ((n1 : Int) == 0) = false := beq_eq_false_iff_ne.2 (by omega)
        have HU : Hid ((Sx.mk false false hi da []).okR d N = false) := Lib.hid (okR_unclean (by rw [clean_def, headOk7 _ _ (by have := HN1.out; omega)]; rfl))
        go_wp2_with fail
        go_ret
        exact ⟨N + 1, S + (textL da).length, by rw [HU.out]; rfl, G2, (fun h => by rw [HU.out] at h; cases h), B2⟩
    | true =>
      have X0 := Box.new w 27 #[.bool false, .bool true, .slice a1 n1 k1, .slice a2 n2 k2, .slice a3 ks.length k3]
      have G0 := hg.alloc (.cells #[.bool false, .bool true, .slice a1 n1 k1, .slice a2 n2 k2, .slice a3 ks.length k3] 27)
      have B0 : But (fun k => k = g) w (w.alloc (.cells #[.bool false, .bool true, .slice a1 n1 k1, .slice a2 n2 k2, .slice a3 ks.length k3] 27)) := (But.refl (fun k => k = g) w).alloc _
      show Calls _ _ #[.pointer (some ⟨g, 0, none⟩), .agg #[.bool false, .bool true, .slice a1 n1 k1, .slice a2 n2 k2, .slice a3 ks.length k3], .int .i64 d] _ _
      go_enter Tryd.func68, Tryd.ntmps68
      go_upto_region 1 with fail
      change Code.wp _ _ _ _ (w.alloc (.cells #[.bool false, .bool true, .slice a1 n1 k1, .slice a2 n2 k2, .slice a3 ks.length k3] 27))
      generalize (w.alloc (.cells #[.bool false, .bool true, .slice a1 n1 k1, .slice a2 n2 k2, .slice a3 ks.length k3] 27)) = v0 at *
      have c0 := G0.cell 0 rfl
      have f0 := G0.frozen 0
      have e1 : IntKind.i64.wrap ((N : Int) + 1) = (N : Int) + 1 := IntWalk.i64_in _ ⟨by omega, by omega⟩
      go_upto_region 2 with fail
      have X1 := X0.far ⟨g, 0, none⟩ (.int .i64 ((N : Int) + 1)) (Ne.symm hgne)
      have G1 := G0.set 0 (.int .i64 ((N : Int) + 1))
      have B1 := B0.setCell (p := ⟨g, 0, none⟩) (.inl rfl) (.int .i64 ((N : Int) + 1))
      change Code.wp _ _ _ _ (v0.setCell ⟨g, 0, none⟩ (.int .i64 ((N : Int) + 1)))
      clear X0 G0 B0 c0 f0 e1 hg
      generalize (v0.setCell ⟨g, 0, none⟩ (.int .i64 ((N : Int) + 1))) = v1 at *
      replace G1 : Box v1 g 97 #[.int .i64 ((N : Int) + 1), .int .i64 S] := G1
      have c0 := G1.cell 0 rfl
      have c1 := G1.cell 1 rfl
      have f1 := G1.frozen 1
      have l0 := X1.cell 0 rfl
      have l1 := X1.cell 1 rfl
      have e2 : IntKind.i64.wrap ((S : Int) + 2) = (S : Int) + 2 := IntWalk.i64_in _ ⟨by omega, by omega⟩
      go_upto_region 7 with fail
      have X2 := X1.far ⟨g, 1, none⟩ (.int .i64 ((S : Int) + 2)) (Ne.symm hgne)
      have G2 := G1.set 1 (.int .i64 ((S : Int) + 2))
      have B2 := B1.setCell (p := ⟨g, 1, none⟩) (.inl rfl) (.int .i64 ((S : Int) + 2))
      change Code.wp _ _ _ _ (v1.setCell ⟨g, 1, none⟩ (.int .i64 ((S : Int) + 2)))
      clear X1 G1 B1 c0 c1 f1 l0 l1 e2
      generalize (v1.setCell ⟨g, 1, none⟩ (.int .i64 ((S : Int) + 2))) = v2 at *
      replace G2 : Box v2 g 97 #[.int .i64 ((N + 1 : Nat) : Int), .int .i64 ((S + 2 : Nat) : Int)] := by rw [show ((N + 1 : Nat) : Int) = (N : Int) + 1 by omega, show ((S + 2 : Nat) : Int) = (S : Int) + 2 by omega]; exact G2
      have ht1 := textL_len hi (by omega)
      have cc := X2.cell 2 rfl
      go_wp2_with fail
      refine (cbytes_any g (N + 1) (S + 2) _ n1 _ hi v2 G2 (by omega) (by omega) HN1.out (HTX.out _ B2)).mono ?_
      rintro e v3 ⟨rfl, G3, b3⟩
      have X3 := b3.box X2 (by omega)
      have B3 := B2.trans b3 (fun k hk => .inl hk)
      clear cc X2 G2 b3
      have cc := X3.cell 3 rfl
      go_wp2_with fail
      refine (cbytes_any g (N + 1) (S + 2 + (textL hi).length) _ n2 _ da v3 G3 (by omega) (by omega) HN2.out (HTX.out _ B3)).mono ?_
      rintro e v4 ⟨rfl, G4, b4⟩
      have X4 := b4.box X3 (by omega)
      have B4 := B3.trans b4 (fun k hk => .inl hk)
      clear cc X3 G3 b4
      have c4 := X4.cell 4 rfl
      have c1 := X4.cell 1 rfl
      have c2 := X4.cell 2 rfl
      by_cases hk0 : ks.length = 0
      case neg =>
        have hk0' : ((ks.length : Int) == 0) = false := beq_eq_false_iff_ne.2 (by omega)
        have HU : Hid ((Sx.mk false true hi da ks).okR d N = false) := Lib.hid (okR_unclean (by rw [clean_def, headOk5 _ _ _ (by omega)]; rfl))
        go_wp2_with fail
        go_ret
        exact ⟨N + 1, S + 2 + (textL hi).length + (textL da).length, by rw [HU.out]; rfl, G4, (fun h => by rw [HU.out] at h; cases h), B4⟩
      have hks : ks = [] := List.eq_nil_of_length_eq_zero hk0
      subst hks
      have HU : Hid ((Sx.mk false true hi da []).okR d N = true) := Lib.hid (okR_atom hmany hd (headOk6 _ _ rfl))
      go_wp2_with fail
      go_ret
      exact ⟨N + 1, S + 2 + (textL hi).length + (textL da).length, by rw [HU.out]; rfl, G4, (fun _ => ⟨by simp [Sx.nodes, Sx.nodesL], by rw [form_def]; simp; try omega⟩), B4⟩
  | true =>
    by_cases hd16 : 16 < d
    case pos =>
      have hd16' : (16 : Int) < d := by omega
      have HU : Hid ((Sx.mk true vh hi da ks).okR d N = false) := Lib.hid (okR_deep hd16)
      have X0 := Box.new w 27 #[.bool true, .bool vh, .slice a1 n1 k1, .slice a2 n2 k2, .slice a3 ks.length k3]
      have G0 := hg.alloc (.cells #[.bool true, .bool vh, .slice a1 n1 k1, .slice a2 n2 k2, .slice a3 ks.length k3] 27)
      have B0 : But (fun k => k = g) w (w.alloc (.cells #[.bool true, .bool vh, .slice a1 n1 k1, .slice a2 n2 k2, .slice a3 ks.length k3] 27)) := (But.refl (fun k => k = g) w).alloc _
      show Calls _ _ #[.pointer (some ⟨g, 0, none⟩), .agg #[.bool true, .bool vh, .slice a1 n1 k1, .slice a2 n2 k2, .slice a3 ks.length k3], .int .i64 d] _ _
      go_enter Tryd.func68, Tryd.ntmps68
      go_upto_region 1 with fail
      change Code.wp _ _ _ _ (w.alloc (.cells #[.bool true, .bool vh, .slice a1 n1 k1, .slice a2 n2 k2, .slice a3 ks.length k3] 27))
      generalize (w.alloc (.cells #[.bool true, .bool vh, .slice a1 n1 k1, .slice a2 n2 k2, .slice a3 ks.length k3] 27)) = v0 at *
      have c0 := G0.cell 0 rfl
      have f0 := G0.frozen 0
      have e1 : IntKind.i64.wrap ((N : Int) + 1) = (N : Int) + 1 := IntWalk.i64_in _ ⟨by omega, by omega⟩
      go_upto_region 2 with fail
      have X1 := X0.far ⟨g, 0, none⟩ (.int .i64 ((N : Int) + 1)) (Ne.symm hgne)
      have G1 := G0.set 0 (.int .i64 ((N : Int) + 1))
      have B1 := B0.setCell (p := ⟨g, 0, none⟩) (.inl rfl) (.int .i64 ((N : Int) + 1))
      change Code.wp _ _ _ _ (v0.setCell ⟨g, 0, none⟩ (.int .i64 ((N : Int) + 1)))
      clear X0 G0 B0 c0 f0 e1 hg
      generalize (v0.setCell ⟨g, 0, none⟩ (.int .i64 ((N : Int) + 1))) = v1 at *
      replace G1 : Box v1 g 97 #[.int .i64 ((N : Int) + 1), .int .i64 S] := G1
      have c0 := G1.cell 0 rfl
      have l0 := X1.cell 0 rfl
      have l1 := X1.cell 1 rfl
      have l2 := X1.cell 2 rfl
      have l3 := X1.cell 3 rfl
      go_wp2_with fail
      go_ret
      exact ⟨N + 1, S, by rw [HU.out]; rfl, by have := G1; rwa [show ((N + 1 : Nat) : Int) = (N : Int) + 1 by omega], (fun h => by rw [HU.out] at h; cases h), B1⟩
    have hd16' : ¬ (16 : Int) < d := by omega
    cases vh with
    | true =>
      have HU : Hid ((Sx.mk true true hi da ks).okR d N = false) := Lib.hid (okR_unclean (by rw [clean_def, headOk1]; rfl))
      have X0 := Box.new w 27 #[.bool true, .bool true, .slice a1 n1 k1, .slice a2 n2 k2, .slice a3 ks.length k3]
      have G0 := hg.alloc (.cells #[.bool true, .bool true, .slice a1 n1 k1, .slice a2 n2 k2, .slice a3 ks.length k3] 27)
      have B0 : But (fun k => k = g) w (w.alloc (.cells #[.bool true, .bool true, .slice a1 n1 k1, .slice a2 n2 k2, .slice a3 ks.length k3] 27)) := (But.refl (fun k => k = g) w).alloc _
      show Calls _ _ #[.pointer (some ⟨g, 0, none⟩), .agg #[.bool true, .bool true, .slice a1 n1 k1, .slice a2 n2 k2, .slice a3 ks.length k3], .int .i64 d] _ _
      go_enter Tryd.func68, Tryd.ntmps68
      go_upto_region 1 with fail
      change Code.wp _ _ _ _ (w.alloc (.cells #[.bool true, .bool true, .slice a1 n1 k1, .slice a2 n2 k2, .slice a3 ks.length k3] 27))
      generalize (w.alloc (.cells #[.bool true, .bool true, .slice a1 n1 k1, .slice a2 n2 k2, .slice a3 ks.length k3] 27)) = v0 at *
      have c0 := G0.cell 0 rfl
      have f0 := G0.frozen 0
      have e1 : IntKind.i64.wrap ((N : Int) + 1) = (N : Int) + 1 := IntWalk.i64_in _ ⟨by omega, by omega⟩
      go_upto_region 2 with fail
      have X1 := X0.far ⟨g, 0, none⟩ (.int .i64 ((N : Int) + 1)) (Ne.symm hgne)
      have G1 := G0.set 0 (.int .i64 ((N : Int) + 1))
      have B1 := B0.setCell (p := ⟨g, 0, none⟩) (.inl rfl) (.int .i64 ((N : Int) + 1))
      change Code.wp _ _ _ _ (v0.setCell ⟨g, 0, none⟩ (.int .i64 ((N : Int) + 1)))
      clear X0 G0 B0 c0 f0 e1 hg
      generalize (v0.setCell ⟨g, 0, none⟩ (.int .i64 ((N : Int) + 1))) = v1 at *
      replace G1 : Box v1 g 97 #[.int .i64 ((N : Int) + 1), .int .i64 S] := G1
      have c0 := G1.cell 0 rfl
      have l0 := X1.cell 0 rfl
      have l1 := X1.cell 1 rfl
      have l2 := X1.cell 2 rfl
      have l3 := X1.cell 3 rfl
      go_wp2_with fail
      go_ret
      exact ⟨N + 1, S, by rw [HU.out]; rfl, by have := G1; rwa [show ((N + 1 : Nat) : Int) = (N : Int) + 1 by omega], (fun h => by rw [HU.out] at h; cases h), B1⟩
    | false =>
    by_cases h12 : 0 < n1 + n2
    case pos =>
      have h12' : 0 < (n1 : Int) + n2 := by omega
      have h12e : IntKind.i64.wrap ((n1 : Int) + n2) = (n1 : Int) + n2 := IntWalk.i64_in _ ⟨by omega, by omega⟩
      have HU : Hid ((Sx.mk true false hi da ks).okR d N = false) := Lib.hid (okR_unclean (by
        rw [clean_def]
        have e1 := HN1.out
        have e2 := HN2.out
        rcases Nat.lt_or_ge 0 hi.length with h | h
        · rw [headOk2 _ _ h]; rfl
        · rw [headOk3 _ _ (by omega)]; rfl))
      have X0 := Box.new w 27 #[.bool true, .bool false, .slice a1 n1 k1, .slice a2 n2 k2, .slice a3 ks.length k3]
      have G0 := hg.alloc (.cells #[.bool true, .bool false, .slice a1 n1 k1, .slice a2 n2 k2, .slice a3 ks.length k3] 27)
      have B0 : But (fun k => k = g) w (w.alloc (.cells #[.bool true, .bool false, .slice a1 n1 k1, .slice a2 n2 k2, .slice a3 ks.length k3] 27)) := (But.refl (fun k => k = g) w).alloc _
      show Calls _ _ #[.pointer (some ⟨g, 0, none⟩), .agg #[.bool true, .bool false, .slice a1 n1 k1, .slice a2 n2 k2, .slice a3 ks.length k3], .int .i64 d] _ _
      go_enter Tryd.func68, Tryd.ntmps68
      go_upto_region 1 with fail
      change Code.wp _ _ _ _ (w.alloc (.cells #[.bool true, .bool false, .slice a1 n1 k1, .slice a2 n2 k2, .slice a3 ks.length k3] 27))
      generalize (w.alloc (.cells #[.bool true, .bool false, .slice a1 n1 k1, .slice a2 n2 k2, .slice a3 ks.length k3] 27)) = v0 at *
      have c0 := G0.cell 0 rfl
      have f0 := G0.frozen 0
      have e1 : IntKind.i64.wrap ((N : Int) + 1) = (N : Int) + 1 := IntWalk.i64_in _ ⟨by omega, by omega⟩
      go_upto_region 2 with fail
      have X1 := X0.far ⟨g, 0, none⟩ (.int .i64 ((N : Int) + 1)) (Ne.symm hgne)
      have G1 := G0.set 0 (.int .i64 ((N : Int) + 1))
      have B1 := B0.setCell (p := ⟨g, 0, none⟩) (.inl rfl) (.int .i64 ((N : Int) + 1))
      change Code.wp _ _ _ _ (v0.setCell ⟨g, 0, none⟩ (.int .i64 ((N : Int) + 1)))
      clear X0 G0 B0 c0 f0 e1 hg
      generalize (v0.setCell ⟨g, 0, none⟩ (.int .i64 ((N : Int) + 1))) = v1 at *
      replace G1 : Box v1 g 97 #[.int .i64 ((N : Int) + 1), .int .i64 S] := G1
      have c0 := G1.cell 0 rfl
      have l0 := X1.cell 0 rfl
      have l1 := X1.cell 1 rfl
      have l2 := X1.cell 2 rfl
      have l3 := X1.cell 3 rfl
      go_wp2_with fail
      go_ret
      exact ⟨N + 1, S, by rw [HU.out]; rfl, by have := G1; rwa [show ((N + 1 : Nat) : Int) = (N : Int) + 1 by omega], (fun h => by rw [HU.out] at h; cases h), B1⟩
    obtain rfl : n1 = 0 := by omega
    obtain rfl : n2 = 0 := by omega
    have h12' : ¬ 0 < ((0 : Nat) : Int) + ((0 : Nat) : Int) := by omega
    have HH : Hid (headOk true false hi.length da.length ks.length = true) := Lib.hid (headOk4 _ (by have := HN1.out; omega) (by have := HN2.out; omega))
    have X0 := Box.new w 27 #[.bool true, .bool false, .slice a1 0 k1, .slice a2 0 k2, .slice a3 ks.length k3]
    have G0 := hg.alloc (.cells #[.bool true, .bool false, .slice a1 0 k1, .slice a2 0 k2, .slice a3 ks.length k3] 27)
    have B0 : But (fun k => k = g) w (w.alloc (.cells #[.bool true, .bool false, .slice a1 0 k1, .slice a2 0 k2, .slice a3 ks.length k3] 27)) := (But.refl (fun k => k = g) w).alloc _
    show Calls _ _ #[.pointer (some ⟨g, 0, none⟩), .agg #[.bool true, .bool false, .slice a1 0 k1, .slice a2 0 k2, .slice a3 ks.length k3], .int .i64 d] _ _
    go_enter Tryd.func68, Tryd.ntmps68
    go_upto_region 1 with fail
    change Code.wp _ _ _ _ (w.alloc (.cells #[.bool true, .bool false, .slice a1 0 k1, .slice a2 0 k2, .slice a3 ks.length k3] 27))
    generalize (w.alloc (.cells #[.bool true, .bool false, .slice a1 0 k1, .slice a2 0 k2, .slice a3 ks.length k3] 27)) = v0 at *
    have c0 := G0.cell 0 rfl
    have f0 := G0.frozen 0
    have e1 : IntKind.i64.wrap ((N : Int) + 1) = (N : Int) + 1 := IntWalk.i64_in _ ⟨by omega, by omega⟩
    go_upto_region 2 with fail
    have X1 := X0.far ⟨g, 0, none⟩ (.int .i64 ((N : Int) + 1)) (Ne.symm hgne)
    have G1 := G0.set 0 (.int .i64 ((N : Int) + 1))
    have B1 := B0.setCell (p := ⟨g, 0, none⟩) (.inl rfl) (.int .i64 ((N : Int) + 1))
    change Code.wp _ _ _ _ (v0.setCell ⟨g, 0, none⟩ (.int .i64 ((N : Int) + 1)))
    clear X0 G0 B0 c0 f0 e1 hg
    generalize (v0.setCell ⟨g, 0, none⟩ (.int .i64 ((N : Int) + 1))) = v1 at *
    replace G1 : Box v1 g 97 #[.int .i64 ((N : Int) + 1), .int .i64 S] := G1
    have c0 := G1.cell 0 rfl
    have c1 := G1.cell 1 rfl
    have f1 := G1.frozen 1
    have l0 := X1.cell 0 rfl
    have l1 := X1.cell 1 rfl
    have l2 := X1.cell 2 rfl
    have l3 := X1.cell 3 rfl
    have e2 : IntKind.i64.wrap ((S : Int) + 2) = (S : Int) + 2 := IntWalk.i64_in _ ⟨by omega, by omega⟩
    go_upto_region 13 with fail
    have X2 := X1.far ⟨g, 1, none⟩ (.int .i64 ((S : Int) + 2)) (Ne.symm hgne)
    have G2 := G1.set 1 (.int .i64 ((S : Int) + 2))
    have B2 := B1.setCell (p := ⟨g, 1, none⟩) (.inl rfl) (.int .i64 ((S : Int) + 2))
    change Code.wp _ _ _ _ (v1.setCell ⟨g, 1, none⟩ (.int .i64 ((S : Int) + 2)))
    clear X1 G1 B1 c0 c1 f1 l0 l1 l2 l3 e2
    generalize (v1.setCell ⟨g, 1, none⟩ (.int .i64 ((S : Int) + 2))) = v2 at *
    replace G2 : Box v2 g 97 #[.int .i64 ((N + 1 : Nat) : Int), .int .i64 ((S + 2 : Nat) : Int)] := by rw [show ((N + 1 : Nat) : Int) = (N : Int) + 1 by omega, show ((S + 2 : Nat) : Int) = (S : Int) + 2 by omega]; exact G2
    have l4 := X2.cell 4 rfl
    go_wp2_with fail
    go_loopw [8, 81] (fun _ k wr => ∃ n : Nat, n ≤ ks.length ∧ k = .int .i64 n ∧ Hid (Sx.cleanL (ks.take n) = true ∧ Sx.deepL (ks.take n) + d ≤ 16) ∧ N + 1 + Sx.nodesL (ks.take n) ≤ 512 ∧ S + 2 + (Sx.formL (ks.take n)).length ≤ 300000 * (N + 1 + Sx.nodesL (ks.take n)) ∧
      Box wr g 97 #[.int .i64 ((N + 1 + Sx.nodesL (ks.take n) : Nat) : Int), .int .i64 ((S + 2 + (Sx.formL (ks.take n)).length : Nat) : Int)] ∧ Box wr w.heap.size 27 #[.bool true, .bool false, .slice a1 0 k1, .slice a2 0 k2, .slice a3 ks.length k3] ∧ But (fun k => k = g) w wr) (fun _ k _ => ks.length - (intOf k).toNat)
    case atStart => exact ⟨0, Nat.zero_le _, rfl, Lib.hid ⟨rfl, by simp [Sx.deepL]; omega⟩, by simp [Sx.nodesL]; omega, by simp [Sx.nodesL, Sx.formL]; omega, by simpa [Sx.nodesL, Sx.formL] using G2, X2, B2⟩
    case round =>
      obtain ⟨n, hnl, rfl, HC, hN2, hS2, G, X, B⟩ := hrel
      clear X2 G2 B2 l4
      have l4 := X.cell 4 rfl
      by_cases hlt : n < ks.length
      · obtain ⟨b, o, rfl, hld⟩ := (HR.out.but B HRR.out.inb.2.2 (fun k h => h)).range hlt
        have HL := Lib.hid hld
        have hrd := (HK.out n hlt).but B (fun k h => h)
        have hks := HWK.out ks[n] (List.getElem_mem hlt)
        have hfk := form_broad _ _ hks
        have HRd := Lib.hid hrd
        have HKS := Lib.hid hks
        have htab := Lib.hid (HTX.out.but B)
        have ewr : IntKind.i64.wrap ((d : Int) + 1) = (d : Int) + 1 := IntWalk.i64_in _ ⟨by omega, by omega⟩
        obtain ⟨ck, hck⟩ : ∃ ck, ck = ks[n].okR (d + 1) (N + 1 + Sx.nodesL (ks.take n)) := ⟨_, rfl⟩
        have HCK := Lib.hid hck
        have IH2 : Hid (∀ w, Box w g 97 #[.int .i64 ((N + 1 + Sx.nodesL (ks.take n) : Nat) : Int), .int .i64 ((S + 2 + (Sx.formL (ks.take n)).length : Nat) : Int)] → RdI (fun k => k ≠ g) w (K n) ks[n] → TabX (fun k => k = g) w →
            Calls Tryd.prog 68 #[.pointer (some ⟨g, 0, none⟩), (K n).val, .int .i64 ((d : Int) + 1)] w (RightP g ck (N + 1 + Sx.nodesL (ks.take n) + ks[n].nodes) (S + 2 + (Sx.formL (ks.take n)).length + ks[n].form.length) w)) :=
          Lib.hid fun w h1 h2 h3 => by
            have := IH.out _ (List.getElem_mem hlt) (K n) g (N + 1 + Sx.nodesL (ks.take n)) (S + 2 + (Sx.formL (ks.take n)).length) (d + 1) (m + 1) w h1 h2 HKS.out h3 hN2 hS2 (by omega)
            rw [← hck] at this
            exact this
        clear hrd hld hks hck
        go_upto_region 16 with first | (refine wpList_load_sv rfl _ rfl b _ rfl _ HL.out ?_) | (refine wpList_store_box (cells := (K n).cells) rfl 27 _ _ rfl (Box.new _ _ _) (by rfl) (by rfl) rfl (by kernel_rfl) (SV.one _) ?_; intro u1 Y1 st1)
        have hbu : Below wr.heap.size wr u1 := st1.below wr.heap.size wr (Nat.le_refl _) ((Below.refl _ _).alloc (Nat.le_refl _) _)
        have hwz := B.size
        have hgz := G.lt
        have B' : But (fun k => k = g) w u1 := (B.alloc _).trans (But.ofStored st1 (st1.below 0 _ (Nat.zero_le _) (Below.refl 0 _))) (fun k hk => .inr (by omega))
        have G' := G.after hbu
        have X' := X.after hbu
        have HRd' := Lib.hid (HRd.out.after hbu)
        have htab' := Lib.hid (htab.out.but (But.ofBelow hbu))
        have HY := Lib.hid Y1
        have hzu : wr.heap.size < u1.heap.size := Y1.lt
        clear st1 hbu B G X HRd htab HL Y1 l4
        go_wp2_with (refine wpList_load_box rfl 27 _ rfl HY.out (by rfl) Tryd.underlying27 rfl (by kernel_rfl) ?_)
        refine (IH2.out _ G' HRd'.out htab'.out).mono ?_
        rintro e v3 ⟨N3, S3, rfl, G3, hok, b3⟩
        have X3 := b3.box X' (by omega)
        have B3 := B'.trans b3 (fun k hk => .inl hk)
        have HOK := Lib.hid hok
        clear hok b3 G' X' B'
        cases ck with
        | false =>
          have HU : Hid ((Sx.mk true false hi da ks).okR d N = false) := Lib.hid (okR_kid n hlt HCK.out.symm)
          go_wp2_with fail
          go_ret
          exact ⟨N3, S3, by rw [HU.out]; rfl, G3, (fun h => by rw [HU.out] at h; cases h), B3⟩
        | true =>
          have hpp := okR_parts HCK.out.symm
          have HPP := Lib.hid hpp
          have hp2 := hpp.2.1
          have HSN := Lib.hid (Sx.nodesL_snoc ks n hlt)
          have HSF := Lib.hid (Sx.formL_snoc ks n hlt)
          have hfk' := hfk
          clear hpp
          go_wp2_with fail
          go_roundw
          case rel =>
            obtain ⟨rfl, rfl⟩ := HOK.out (by trivial)
            refine ⟨n + 1, by omega, by go_num, Lib.hid ⟨by rw [Sx.cleanL_snoc ks n hlt, HC.out.1, HPP.out.1]; rfl, by rw [Sx.deepL_snoc ks n hlt]; have := HC.out.2; have := HPP.out.2.2; omega⟩, by rw [HSN.out]; omega, by rw [HSN.out, HSF.out, List.length_append]; omega, ?_, X3, B3⟩
            rw [HSN.out, HSF.out, List.length_append, ← Nat.add_assoc, ← Nat.add_assoc]
            exact G3
          case measure => simp [intOf]; omega
      · have hnn : n = ks.length := by omega
        subst hnn
        have hC := HC.out
        rw [List.take_length] at hC hN2 G
        have HU : Hid ((Sx.mk true false hi da ks).okR d N = true) := Lib.hid (okR_list (by omega) hmany HH.out ⟨hC.1, hC.2, hN2⟩)
        have G' := Lib.hid G
        clear hC G HC
        go_wp2_with fail
        go_ret
        refine ⟨_, _, by rw [HU.out]; rfl, G'.out, fun _ => ⟨by simp only [Sx.nodes]; omega, ?_⟩, B⟩
        rw [form_def, if_pos rfl]
        simp only [List.length_cons, List.length_append, List.length_nil]
        omega

set_option maxHeartbeats 2000000 in
set_option maxRecDepth 100000 in
theorem mayB_any (s : Sx) (v : SV) (w : World) (hr : Rd w v s) (m : Nat) (hw : s.broad m = false) (ht : Tab w) : Calls Tryd.prog 53 #[v.val] w fun e w' => e = .returned (.bool s.may) ∧ Below w.heap.size w w' := by
  obtain ⟨vl, vh, a1, n1, k1, a2, n2, k2, a3, n3, k3⟩ := v
  have B0 : Below w.heap.size w ((w.alloc (.cells #[.bool vl, .bool vh, .slice a1 n1 k1, .slice a2 n2 k2, .slice a3 n3 k3] 27)).alloc (.cells #[.int .i64 0, .int .i64 0] 97)) := ((Below.refl _ _).alloc (Nat.le_refl _) _).alloc (by simp) _
  have X0 : Box ((w.alloc (.cells #[.bool vl, .bool vh, .slice a1 n1 k1, .slice a2 n2 k2, .slice a3 n3 k3] 27)).alloc (.cells #[.int .i64 0, .int .i64 0] 97)) w.heap.size 27 #[.bool vl, .bool vh, .slice a1 n1 k1, .slice a2 n2 k2, .slice a3 n3 k3] := (Box.new _ _ _).alloc _
  have G0 : Box ((w.alloc (.cells #[.bool vl, .bool vh, .slice a1 n1 k1, .slice a2 n2 k2, .slice a3 n3 k3] 27)).alloc (.cells #[.int .i64 0, .int .i64 0] 97)) (w.heap.size + 1) 97 #[.int .i64 0, .int .i64 0] := by
    have := Box.new (w.alloc (.cells #[.bool vl, .bool vh, .slice a1 n1 k1, .slice a2 n2 k2, .slice a3 n3 k3] 27)) 97 #[.int .i64 0, .int .i64 0]
    simpa using this
  have hrd := (hr.there.mono (ok' := fun k => k ≠ w.heap.size + 1) (fun b hb => by have := hb.2; omega)).after B0
  have htx : TabX (fun k => k = w.heap.size + 1) ((w.alloc (.cells #[.bool vl, .bool vh, .slice a1 n1 k1, .slice a2 n2 k2, .slice a3 n3 k3] 27)).alloc (.cells #[.int .i64 0, .int .i64 0] 97)) := TabX.new ht B0 (fun k hk => by omega)
  obtain ⟨ok, hok⟩ : ∃ ok, ok = s.okR 1 0 := ⟨_, rfl⟩
  have HM : Hid (s.may = (ok && decide (s.form.length ≤ 4096))) := Lib.hid (by rw [hok]; exact may_okR s)
  have CALL := Lib.hid (rightB_any s ⟨vl, vh, a1, n1, k1, a2, n2, k2, a3, n3, k3⟩ (w.heap.size + 1) 0 0 1 m ((w.alloc (.cells #[.bool vl, .bool vh, .slice a1 n1 k1, .slice a2 n2 k2, .slice a3 n3 k3] 27)).alloc (.cells #[.int .i64 0, .int .i64 0] 97)) G0 hrd hw htx (by omega) (by omega) (by omega))
  rw [← hok, Nat.zero_add, Nat.zero_add] at CALL
  have HX := Lib.hid X0
  clear hrd htx hok hr ht hw X0 G0
  show Calls _ _ #[.agg #[.bool vl, .bool vh, .slice a1 n1 k1, .slice a2 n2 k2, .slice a3 n3 k3]] _ _
  go_enter Tryd.func53, Tryd.ntmps53
  go_upto_region 2 with fail
  change Code.wp _ _ _ _ ((w.alloc (.cells #[.bool vl, .bool vh, .slice a1 n1 k1, .slice a2 n2 k2, .slice a3 n3 k3] 27)).alloc (.cells #[.int .i64 0, .int .i64 0] 97))
  have hz : w.heap.size ≤ ((w.alloc (.cells #[.bool vl, .bool vh, .slice a1 n1 k1, .slice a2 n2 k2, .slice a3 n3 k3] 27)).alloc (.cells #[.int .i64 0, .int .i64 0] 97)).heap.size := by simp; omega
  generalize ((w.alloc (.cells #[.bool vl, .bool vh, .slice a1 n1 k1, .slice a2 n2 k2, .slice a3 n3 k3] 27)).alloc (.cells #[.int .i64 0, .int .i64 0] 97)) = v0 at *
  go_wp2_with (refine wpList_load_box rfl 27 _ rfl HX.out (by rfl) Tryd.underlying27 rfl (by kernel_rfl) ?_)
  refine CALL.out.mono ?_
  rintro e v1 ⟨N2, S2, rfl, G1, hN, b1⟩
  have HB := But.after B0 b1 hz (fun k hk => by omega)
  have HOK := Lib.hid hN
  have g1 := G1.cell 1 rfl
  clear hN b1 CALL
  cases ok with
  | false =>
    go_wp2_with fail
    go_ret
    exact ⟨by rw [HM.out]; rfl, HB⟩
  | true =>
    obtain ⟨rfl, rfl⟩ := HOK.out (by trivial)
    go_wp2_with fail
    go_ret
    exact ⟨by
      rw [HM.out]
      show Ending.returned (.bool (decide ((s.form.length : Int) ≤ 4096))) = _
      rw [show decide ((s.form.length : Int) ≤ 4096) = decide (s.form.length ≤ 4096) from decide_eq_decide.2 (by omega)]
      rfl, HB⟩


theorem broad_mk {l h : Bool} {hi da : List UInt8} {ks : List Sx} {m : Nat} (h1 : m ≤ 60) (h2 : ks.length ≤ 700) (h3 : hi.length ≤ 100000) (h4 : da.length ≤ 100000) (h5 : ∀ k ∈ ks, k.broad (m + 1) = false) : (Sx.mk l h hi da ks).broad m = false := by
  rw [broad_def, decide_eq_false (by omega), decide_eq_false (by omega), decide_eq_false (by omega), decide_eq_false (by omega)]
  have : ∀ (r : List Sx), (∀ k ∈ r, k.broad (m + 1) = false) → Sx.broadL r (m + 1) = false := by
    intro r
    induction r with
    | nil => intro _; rfl
    | cons a r ih => intro hr; simp only [Sx.broadL]; rw [hr a List.mem_cons_self, ih (fun k hk => hr k (List.mem_cons_of_mem _ hk))]; rfl
  rw [this ks h5]
  rfl
theorem unb_len : ∀ l : List UInt8, (unb l).length ≤ l.length
  | [] => by simp [unb]
  | [_] => by simp [unb]
  | [_, _] => by simp [unb]
  | [_, _, _] => by simp [unb]
  | a :: b :: c :: d :: t => by
    have := unb_len t
    have h4 : (dec4 a b c d).length ≤ 4 := by
      unfold dec4
      split <;> (try split) <;> (try split) <;> simp
      all_goals (try split) <;> simp
    simp only [unb, List.length_append, List.length_cons]
    omega
theorem unhex_len : ∀ (l b : List UInt8), unhex l = some b → b.length ≤ l.length
  | [], b, h => by simp [unhex] at h; subst h; simp
  | [_], b, h => by simp [unhex] at h
  | x :: y :: t, b, h => by
    unfold unhex at h
    split at h
    · cases hu : unhex t with
      | none => rw [hu] at h; simp at h
      | some c =>
        rw [hu] at h
        simp at h
        have := unhex_len t c hu
        subst h
        simp
        omega
    · cases h
theorem nDigs_len (base : Nat) (l : List UInt8) : ∀ k F p X, (nDigs base l k F p X).b.length ≤ 1
  | 0, F, p, X => by simp [nDigs]
  | k + 1, F, p, X => by
    unfold nDigs
    split
    · simp [BR.err]
    · split
      · split
        · exact nDigs_len base l k _ _ _
        · simp [BR.err]
      · simp [BR.err]
theorem nEsc_len (l : List UInt8) (p : Nat) : (nEsc l p).b.length ≤ 1 := by
  unfold nEsc
  split
  · simp [BR.err]
  · split
    · exact nDigs_len _ _ _ _ _ _
    · split
      · exact nDigs_len _ _ _ _ _ _
      · split <;> simp [BR.err]
theorem nQuo_len (l : List UInt8) : ∀ f p, (nQuo l f p).b.length ≤ f
  | 0, p => by simp [nQuo, BR.err]
  | f + 1, p => by
    unfold nQuo
    split
    · simp [BR.err]
    · split
      · simp
      · split
        · have := nQuo_len l f (p + 1)
          unfold BR.pre
          split
          · simp; omega
          · omega
        · split
          · have := nEsc_len l (p + 1); omega
          · have := nQuo_len l f (nEsc l (p + 1)).p
            have := nEsc_len l (p + 1)
            unfold BR.pre
            split
            · simp; omega
            · omega
theorem nPlain_len (l : List UInt8) (p : Nat) : (nPlain l p).b.length ≤ l.length + 1 := by
  unfold nPlain
  split
  · simp [BR.err]
  · split
    · unfold nLen
      dsimp only
      split
      · simp [BR.err]
      · split
        · simp [BR.err]
        · split
          · simp [BR.err]
          · split
            · simp [BR.err]
            · simp; omega
    · split
      · exact nQuo_len l _ _
      · split
        · have hl := nSome_len hexC 35 (l.drop (p + 1)) (p + 1)
          rw [List.length_drop] at hl
          unfold nHex
          dsimp only
          split
          · simp [BR.err]
          · split
            · rename_i b hb
              have := unhex_len _ _ hb
              dsimp only
              omega
            · simp [BR.err]
        · split
          · have hl := nSome_len b64C 124 (l.drop (p + 1)) (p + 1)
            rw [List.length_drop] at hl
            unfold nB64
            dsimp only
            split
            · simp [BR.err]
            · split
              · rename_i b hb
                unfold unb64 at hb
                split at hb
                · cases hb
                  have := unb_len (nSome b64C 124 (l.drop (p + 1)) (p + 1)).b
                  dsimp only
                  omega
                · cases hb
              · simp [BR.err]
          · split
            · have := (List.takeWhile_sublist (l := l.drop p) signB).length_le
              rw [List.length_drop] at this
              dsimp only
              omega
            · simp [BR.err]
/-- what is read is not broad, and has as many values as were counted -/
def NtOk (l : List UInt8) (m : Option (List Sx)) (lv n : Nat) (r : RV) : Prop :=
  match m with
  | none => r.v.broad lv = false ∧ r.n = n + r.v.nodes
  | some acc => (∀ k ∈ acc, k.broad (lv + 1) = false) → acc.length ≤ n → r.v.broad lv = false ∧ r.n + 1 + Sx.nodesL acc = n + r.v.nodes
def lvMax : Option (List Sx) → Nat | none => 17 | some _ => 16
theorem Nt_ok {l : List UInt8} {m : Option (List Sx)} {p lv n : Nat} {r : RV} (h : Nt l m p lv n r) (hl : l.length < 100000) : r.e = 0 → lv ≤ lvMax m → n ≤ 512 → p ≤ l.length → NtOk l m lv n r := by
  induction h with
  | short h1 => intro he; simp [RV.err] at he
  | bad h1 h2 => intro he; simp [RV.err] at he
  | long h1 h2 h3 => intro he; simp [RV.err] at he
  | @hint p lv n h1 h2 h3 =>
    intro he hlv hn hp
    replace hlv : lv ≤ 17 := hlv
    unfold nHint at he ⊢
    dsimp only at he ⊢
    split at he
    · rename_i h4; exact absurd he h4
    · rename_i h4
      rw [if_neg h4]
      split at he
      · simp [RV.err] at he
      · rename_i h5
        rw [if_neg h5]
        split at he
        · simp [RV.err] at he
        · rename_i h6
          rw [if_neg h6]
          split at he
          · rename_i h7; exact absurd he h7
          · rename_i h7
            rw [if_neg h7]
            exact ⟨broad_mk (by omega) (by simp) (by have := nPlain_len l (skipN l (skipN l p + 1)); omega) (by have := nPlain_len l (skipN l (skipN l (nPlain l (skipN l (skipN l p + 1))).p + 1)); omega) (by simp), by simp [Sx.nodes, Sx.nodesL]⟩
  | @atom p lv n h1 h2 h3 h4 h5 =>
    intro he hlv hn hp
    replace hlv : lv ≤ 17 := hlv
    unfold nAtom at he ⊢
    dsimp only at he ⊢
    split at he
    · rename_i h6; exact absurd he h6
    · rename_i h6
      rw [if_neg h6]
      exact ⟨broad_mk (by omega) (by simp) (by simp) (by have := nPlain_len l (skipN l p); omega) (by simp), by simp [Sx.nodes, Sx.nodesL]⟩
  | list h1 h2 h3 h4 h5 ih =>
    intro he hlv hn hp
    have := ih he h4 h3 (by omega) (by simp) (by simp)
    refine ⟨this.1, ?_⟩
    have h := this.2
    simp only [Sx.nodesL] at h
    omega
  | @close p lv n acc h1 h2 =>
    intro he hlv hn hp hk ha
    replace hlv : lv ≤ 16 := hlv
    exact ⟨broad_mk (by omega) (by omega) (by simp) (by simp) hk, by simp only [Sx.nodes]; omega⟩
  | fail h1 h2 h3 ih => intro he; exact absurd he h3
  | @more p lv n acc r r2 h1 h2 h3 h4 h5 ih1 ih2 =>
    intro he hlv hn hp hk ha
    replace hlv : lv ≤ 16 := hlv
    have hs := skipN_le hp
    have hpl := Nt_place h3 h4 (by omega)
    have hl17 : lv + 1 ≤ 17 := by omega
    have a1 := ih1 h4 hl17 hn (by omega)
    have a2 := ih2 he hlv (hpl.2.2.1 hn) (by omega) (by
      intro k hk'
      rcases List.mem_append.1 hk' with h | h
      · exact hk k h
      · simp at h; subst h; exact a1.1) (by simp; have := hpl.2.2.2; have := a1.2; have := nodes_pos r.v; omega)
    refine ⟨a2.1, ?_⟩
    have h := a2.2
    rw [Sx.nodesL_append] at h
    simp only [Sx.nodesL] at h
    have := a1.2
    omega
end Go.Proofs.YtigopfeamjhdpaaDoor
namespace Go.Proofs.YtigopfeamjhdpaaDoor
open Go.RowKit
set_option linter.unusedSimpArgs false
set_option linter.unusedVariables false

def EndN (g : Nat) (s : ByteArray) (p : Nat) (w : World) (e : Ending) (w' : World) : Prop :=
  But (fun k => k = g) w w' ∧ ((skipN s.data.toList p < s.size ∧ e = FaultN (skipN s.data.toList p) 5) ∨ (s.size ≤ skipN s.data.toList p ∧ e = .returned (.tuple #[])))
set_option maxHeartbeats 4000000 in
set_option maxRecDepth 100000 in
theorem endedN_any (g : Nat) (s : ByteArray) (p m : Nat) (w : World) (hX : Box w g 79 (RdN s p m)) (hs : s.size ≤ 100000) (hp : p ≤ s.size) : Calls Tryd.prog 52 #[.pointer (some ⟨g, 0, none⟩)] w (EndN g s p w) := by
  have HX := Lib.hid hX
  clear hX
  go_enter Tryd.func52, Tryd.ntmps52
  go_wp2_with fail
  refine (skipN_any g s p m w HX.out (by omega) hp).mono ?_
  rintro e w1 ⟨rfl, X1, b1⟩
  obtain ⟨q, hq⟩ : ∃ q, q = skipN s.data.toList p := ⟨_, rfl⟩
  rw [← hq] at X1
  have HQ := Lib.hid hq
  have HB := Lib.hid b1
  have HX1 := Lib.hid X1
  have x0 := X1.cell 0 rfl
  have x1 := X1.cell 1 rfl
  clear hq b1 X1 HX
  by_cases h : q < s.size
  · have h' : (q : Int) < (s.size : Int) := by omega
    go_wp2_with fail
    go_quiet (fail)
    go_wp2_with fail
    refine (wrong_any q 5 _).mono ?_
    rintro e w2 ⟨rfl, rfl⟩
    unfold FaultN
    go_wp2_with fail
    exact ⟨rfl, HB.out.drewN _, .inl ⟨by rw [← HQ.out]; exact h, by rw [← HQ.out]; rfl⟩⟩
  · have h' : ¬ (q : Int) < (s.size : Int) := by omega
    go_wp2_with fail
    go_quiet (fail)
    go_wp2_with fail
    exact bodyPost_ret (results_none rfl _ _ _) rfl ⟨HB.out.drewN _, .inr ⟨by rw [← HQ.out]; omega, rfl⟩⟩


set_option maxHeartbeats 4000000 in
set_option maxRecDepth 100000 in
theorem rd1_idle (V A E : Nat) (w : World) :
    CallsD Tryd.prog 50 #[.pointer (some ⟨V, 0, none⟩), .pointer (some ⟨A, 0, none⟩), .pointer (some ⟨E, 0, none⟩)] .returning w fun e u' w' => e = .returned (.tuple #[]) ∧ u' = .returning ∧ w' = w := by
  refine callsD_of_wpS Tryd.func50 rfl fun c₀ cs hu => ?_
  apply wpS_seq
  apply wpS_region
  simp [wpOpsS, go_sem, recoverD, hu, Tryd.ntmps50, Exit.thenS]
  refine wpS_of_wp ?_
  go_wp2_with fail
  cases c₀
  simp_all [bodyPostS, results, Tryd.results50]

set_option maxHeartbeats 4000000 in
set_option maxRecDepth 100000 in
theorem rd1_fault (V A E p x : Nat) (older : List PanicEntry) (w : World) (vc : Array Value) (hV : Box w V 27 vc) (hvc : vc.size = 5) (z1 z2 : Int) (hA : Box w A 3 #[.int .i64 z1]) (hE : Box w E 28 #[.int .i64 z2]) (hVA : V ≠ A) (hVE : V ≠ E) (hAE : A ≠ E) :
    CallsD Tryd.prog 50 #[.pointer (some ⟨V, 0, none⟩), .pointer (some ⟨A, 0, none⟩), .pointer (some ⟨E, 0, none⟩)] (.panicking ({ v := .iface 76 (.agg #[.int .i64 p, .int .i64 x]), recovered := false } :: older)) w fun e u' w' =>
      e = .returned (.tuple #[]) ∧ u' = .panicking ({ v := .iface 76 (.agg #[.int .i64 p, .int .i64 x]), recovered := true } :: older) ∧ Box w' V 27 #[.bool false, .bool false, .slice none 0 0, .slice none 0 0, .slice none 0 0] ∧ Box w' A 3 #[.int .i64 p] ∧ Box w' E 28 #[.int .i64 x] ∧ But (fun k => k = V ∨ k = A ∨ k = E) w w' := by
  refine callsD_of_wpS Tryd.func50 rfl fun c₀ cs hu => ?_
  have HV := Lib.hid hV
  have HA := Lib.hid hA
  have HE := Lib.hid hE
  have hta : ∀ w, (Instr.typeAssert (.iface 76 (.agg #[.int .i64 p, .int .i64 x])) 20 76 true).run Tryd.prog w = .ok (.tuple #[.agg #[.int .i64 p, .int .i64 x], .bool true]) w := fun _ => by kernel_rfl
  apply wpS_seq
  apply wpS_region
  simp [wpOpsS, go_sem, recoverD, hu, Tryd.ntmps50, Exit.thenS]
  refine wpS_of_wp ?_
  have hVw := hV.lt
  have hAw := hA.lt
  have hEw := hE.lt
  have Y0 := Box.new w 76 #[.int .i64 0, .int .i64 0]
  clear hV hA hE
  change Code.wp _ _ _ { tmps := #[.pointer (some ⟨V, 0, none⟩), .pointer (some ⟨A, 0, none⟩), .pointer (some ⟨E, 0, none⟩), undef, undef, undef, .iface 76 (.agg #[.int .i64 p, .int .i64 x]), undef, undef, undef, undef, undef, undef, undef, undef, undef, undef], defers := [] } w
  go_upto_region 6 with fail
  go_upto_region 7 with (refine wpList_store_box (cells := #[.int .i64 p, .int .i64 x]) rfl 76 _ _ rfl Y0 (by rfl) (by rfl) rfl (by kernel_rfl) (by simp [Value.oneCell']) ?_; intro u9 X9 st9)
  have HB1 : Hid (But (fun _ => False) w u9) := Lib.hid (But.ofBelow (st9.below w.heap.size w (Nat.le_refl _) ((Below.refl _ _).alloc (Nat.le_refl _) _)))
  have HV1 := Lib.hid (HB1.out.box HV.out (fun h => h))
  have HA1 := Lib.hid (HB1.out.box HA.out (fun h => h))
  have HE1 := Lib.hid (HB1.out.box HE.out (fun h => h))
  replace HV := HV1
  replace HA := HA1
  replace HE := HE1
  clear st9 Y0 HV1 HA1 HE1
  obtain ⟨F, hF⟩ : ∃ F, F = w.heap.size := ⟨_, rfl⟩
  have hVF : V ≠ F := by omega
  have hAF : A ≠ F := by omega
  have hEF : E ≠ F := by omega
  have YF := X9
  rw [← hF] at YF ⊢
  clear X9
  have hKS : Keeps (fun w' => Box w' F 76 #[.int .i64 p, .int .i64 x]) := fun w w' h b => h.after b
  refine wp_region_U (w := u9) (fun w' => Box w' F 76 #[.int .i64 p, .int .i64 x]) rfl YF.drew ?_
  refine wpU_val 0 hKS rfl (by kernel_rfl) (by kernel_rfl) (by kernel_rfl) rfl (fun _ _ _ _ h => h) (.agg #[.bool false, .bool false, .slice none 0 0, .slice none 0 0, .slice none 0 0]) (fun w' h => by simp [go_sem]) ?_
  simp only [Act.put, List.setIfInBounds_toArray, List.set_cons_zero, List.set_cons_succ]
  refine wpU_val 1 hKS rfl (by kernel_rfl) (by kernel_rfl) (by kernel_rfl) rfl (fun _ _ _ _ h => h) (.pointer (some ⟨F, 0, none⟩)) (fun w' h => by simp [go_sem]) ?_
  simp only [Act.put, List.setIfInBounds_toArray, List.set_cons_zero, List.set_cons_succ]
  refine wpU_val 2 hKS rfl (by kernel_rfl) (by kernel_rfl) (by kernel_rfl) rfl (fun _ _ _ _ h => h) (.int .i64 p) (fun w' h => by simp [go_sem, h.cell 0 rfl]) ?_
  simp only [Act.put, List.setIfInBounds_toArray, List.set_cons_zero, List.set_cons_succ]
  refine wpU_val 3 hKS rfl (by kernel_rfl) (by kernel_rfl) (by kernel_rfl) rfl (fun _ _ _ _ h => h) (.pointer (some ⟨F, 1, none⟩)) (fun w' h => by simp [go_sem]) ?_
  simp only [Act.put, List.setIfInBounds_toArray, List.set_cons_zero, List.set_cons_succ]
  refine wpU_val 4 hKS rfl (by kernel_rfl) (by kernel_rfl) (by kernel_rfl) rfl (fun _ _ _ _ h => h) (.int .i64 x) (fun w' h => by simp [go_sem, h.cell 1 rfl]) ?_
  simp only [Act.put, List.setIfInBounds_toArray, List.set_cons_zero, List.set_cons_succ]
  refine wpU_store_box (cells := #[.bool false, .bool false, .slice none 0 0, .slice none 0 0, .slice none 0 0]) 5 rfl (by kernel_rfl) rfl 27 _ _ rfl HV.out.drew (by rfl) (by rfl) (by simpa using hvc) (by kernel_rfl) (by simp [Value.oneCell']) ?_
  intro w2 w3 b2 s2 V3 st3
  have b23 : But (fun k => k = V) w2 w3 := But.ofStored st3 (st3.below 0 w2 (Nat.zero_le _) (Below.refl _ _))
  refine ⟨b23.box s2 hVF.symm, ?_⟩
  simp only [Act.put, List.setIfInBounds_toArray, List.set_cons_zero, List.set_cons_succ]
  have A3 := b23.box (HA.out.drew.after b2) hVA.symm
  have E3 := b23.box (HE.out.drew.after b2) hVE.symm
  refine wpU_store_cell 6 rfl (by kernel_rfl) rfl 3 _ _ rfl A3 0 (k := .i64) (n := (p : Int)) rfl rfl (show 0 < 1 by decide) (fun w => by simp [go_sem]) ?_
  intro w4 w5 b4 s4 A5 st5
  have b45 : But (fun k => k = A) w4 w5 := But.ofStored st5 (st5.below 0 w4 (Nat.zero_le _) (Below.refl _ _))
  refine ⟨b45.box s4 hAF.symm, ?_⟩
  simp only [Act.put, List.setIfInBounds_toArray, List.set_cons_zero, List.set_cons_succ]
  have E5 := b45.box (E3.after b4) hAE.symm
  have V5 := b45.box (V3.after b4) hVA
  refine wpU_store_cell 7 rfl (by kernel_rfl) rfl 28 _ _ rfl E5 0 (k := .i64) (n := (x : Int)) rfl rfl (show 0 < 1 by decide) (fun w => by simp [go_sem]) ?_
  intro w6 w7 b6 s6 E7 st7
  have b67 : But (fun k => k = E) w6 w7 := But.ofStored st7 (st7.below 0 w6 (Nat.zero_le _) (Below.refl _ _))
  refine ⟨b67.box s6 hEF.symm, ?_⟩
  simp only [Act.put, List.setIfInBounds_toArray, List.set_cons_zero, List.set_cons_succ]
  have A7 := b67.box (A5.after b6) hAE
  have V7 := b67.box (V5.after b6) hVE
  refine wpU_done (by kernel_rfl) ?_
  intro w8 b8 s8
  have V8 := V7.after b8
  have A8 : Box w8 A 3 #[.int .i64 p] := A7.after b8
  have E8 : Box w8 E 28 #[.int .i64 x] := E7.after b8
  have ev : ∀ u v : World, Below u.heap.size u v → But (fun _ => False) u v := fun u v h => But.ofBelow h
  have B8 : But (fun k => k = V ∨ k = A ∨ k = E) w w8 := ((((((HB1.out.mono (fun k hk => hk.elim)).trans (ev _ _ ((Below.refl _ _).drew.trans b2)) (fun k hk => hk.elim)).trans b23 (fun k hk => .inl (.inl hk))).trans (ev _ _ b4) (fun k hk => hk.elim)).trans b45 (fun k hk => .inl (.inr (.inl hk)))).trans (ev _ _ b6) (fun k hk => hk.elim)).trans (b67.trans (ev _ _ b8) (fun k hk => hk.elim)) (fun k hk => .inl (.inr (.inr hk)))
  clear hKS s2 s4 s6 s8 A3 E3 A5 E5 V3 V5 V7 A7 E7 b2 b4 b6 b8 b23 b45 b67 ev st3 st5 st7 HV HA HE YF
  go_wp2_with fail
  cases c₀
  simp_all [bodyPostS, results, Tryd.results50]

/-- what reads answers: a value, a place, an error -/
def GotN (Rel : RV → Prop) (l : List UInt8) (sx : Sx) (p e : Nat) : Prop :=
  (16384 < l.length ∧ sx = Sx.nil ∧ p = 16384 ∧ e = 4) ∨ (l.length ≤ 16384 ∧ ∃ r, Rel r ∧ ((r.e ≠ 0 ∧ sx = Sx.nil ∧ p = r.p ∧ e = r.e) ∨ (r.e = 0 ∧ skipN l r.p < l.length ∧ sx = Sx.nil ∧ p = skipN l r.p ∧ e = 5) ∨
    (r.e = 0 ∧ l.length ≤ skipN l r.p ∧ r.v.may = false ∧ sx = Sx.nil ∧ p = l.length ∧ e = 4) ∨ (r.e = 0 ∧ l.length ≤ skipN l r.p ∧ r.v.may = true ∧ sx = r.v ∧ p = 0 ∧ e = 0)))
def ReadP (Rel : RV → Prop) (l : List UInt8) (w : World) (e : Ending) (w' : World) : Prop :=
  ∃ (v : SV) (s : Sx) (p x : Nat), GotN Rel l s p x ∧ e = .returned (.tuple #[.agg #[.bool v.l, .bool v.h, .slice v.a1 v.n1 v.c1, .slice v.a2 v.n2 v.c2, .slice v.a3 v.n3 v.c3], .int .i64 p, .int .i64 x]) ∧ RdI (fun k => w.heap.size ≤ k) w' v s ∧ Below w.heap.size w w'
/-- a reading function: what it is told, and what it may yield -/
structure Reads (F : FuncId) (Rel : RV → Prop) (s : ByteArray) : Prop where
  enter : ∀ (args : Array Value) (w : World), (callFunc F args).run Tryd.prog w = .ok (.enter F args) w
  run : ∀ (g : Nat) (w : World), Box w g 79 (RdN s 0 0) → Tab w → Calls Tryd.prog F #[.pointer (some ⟨g, 0, none⟩)] w (ValN Rel g s w)
  ok : ∀ r, Rel r → r.e = 0 → r.p ≤ s.size ∧ ∃ m, r.v.broad m = false

set_option maxHeartbeats 16000000 in
set_option maxRecDepth 100000 in
theorem reads_any (F : FuncId) (Rel : RV → Prop) (s : ByteArray) (hF : s.size ≤ 16384 → Reads F Rel s) (w : World) (ht : Tab w) :
    Calls Tryd.prog 35 #[.string s, .func (.func F) #[] #[]] w (ReadP Rel s.data.toList w) := by
  have HL : Hid (s.data.toList.length = s.size) := Lib.hid (by simp)
  have HF := Lib.hid hF
  have HT := Lib.hid ht
  have hmf : ∀ (fn : Fn) (first cap : Array Value) (w : World), (Instr.makeFunc fn first cap).run Tryd.prog w = .ok (.func fn first cap) w := fun _ _ _ _ => rfl
  have B : Below w.heap.size w (((w.alloc (.cells #[.bool false, .bool false, .slice none 0 0, .slice none 0 0, .slice none 0 0] 27)).alloc (.cells #[.int .i64 0] 3)).alloc (.cells #[.int .i64 0] 28)) := (((Below.refl _ _).alloc (Nat.le_refl _) _).alloc (by simp) _).alloc (by simp; omega) _
  have V : Hid (Box (((w.alloc (.cells #[.bool false, .bool false, .slice none 0 0, .slice none 0 0, .slice none 0 0] 27)).alloc (.cells #[.int .i64 0] 3)).alloc (.cells #[.int .i64 0] 28)) w.heap.size 27 #[.bool false, .bool false, .slice none 0 0, .slice none 0 0, .slice none 0 0]) := Lib.hid (((Box.new _ _ _).alloc _).alloc _)
  have A : Hid (Box (((w.alloc (.cells #[.bool false, .bool false, .slice none 0 0, .slice none 0 0, .slice none 0 0] 27)).alloc (.cells #[.int .i64 0] 3)).alloc (.cells #[.int .i64 0] 28)) (w.heap.size + 1) 3 #[.int .i64 0]) := Lib.hid (by
    have := (Box.new (w.alloc (.cells #[.bool false, .bool false, .slice none 0 0, .slice none 0 0, .slice none 0 0] 27)) 3 #[.int .i64 0]).alloc (.cells #[.int .i64 0] 28)
    simpa using this)
  have E : Hid (Box (((w.alloc (.cells #[.bool false, .bool false, .slice none 0 0, .slice none 0 0, .slice none 0 0] 27)).alloc (.cells #[.int .i64 0] 3)).alloc (.cells #[.int .i64 0] 28)) (w.heap.size + 1 + 1) 28 #[.int .i64 0]) := Lib.hid (by
    have := Box.new ((w.alloc (.cells #[.bool false, .bool false, .slice none 0 0, .slice none 0 0, .slice none 0 0] 27)).alloc (.cells #[.int .i64 0] 3)) 28 #[.int .i64 0]
    simpa using this)
  have hz : ((((w.alloc (.cells #[.bool false, .bool false, .slice none 0 0, .slice none 0 0, .slice none 0 0] 27)).alloc (.cells #[.int .i64 0] 3)).alloc (.cells #[.int .i64 0] 28))).heap.size = w.heap.size + 3 := by simp
  have HZ := Lib.hid hz
  clear hF ht hz
  by_cases hlong : 16384 < s.size
  · have hlong' : (16384 : Int) < (s.size : Int) := by omega
    go_enter_defers Tryd.func35, Tryd.ntmps35
    go_upto_region 1 with fail
    change Code.wp _ _ _ _ (((w.alloc (.cells #[.bool false, .bool false, .slice none 0 0, .slice none 0 0, .slice none 0 0] 27)).alloc (.cells #[.int .i64 0] 3)).alloc (.cells #[.int .i64 0] 28))
    generalize (((w.alloc (.cells #[.bool false, .bool false, .slice none 0 0, .slice none 0 0, .slice none 0 0] 27)).alloc (.cells #[.int .i64 0] 3)).alloc (.cells #[.int .i64 0] 28)) = u0 at *
    go_wp2_with fail
    refine (wrong_any 16384 4 u0).mono ?_
    rintro e z1 ⟨rfl, rfl⟩
    unfold FaultN
    refine leaves_cons (f := 50) (args := #[.pointer (some ⟨w.heap.size, 0, none⟩), .pointer (some ⟨w.heap.size + 1, 0, none⟩), .pointer (some ⟨w.heap.size + 1 + 1, 0, none⟩)]) (by simp) (by simp [go_sem]) ?_
    refine (rd1_fault w.heap.size (w.heap.size + 1) (w.heap.size + 1 + 1) 16384 4 [] z1 _ V.out rfl 0 0 A.out E.out (by omega) (by omega) (by omega)).mono ?_
    rintro e u' z2 ⟨rfl, rfl, V9, A9, E9, b2⟩
    have b9 : Below w.heap.size w z2 := b2.after B (B).size (fun k hk => by omega)
    have cc0 : z2.cell? ⟨w.heap.size, 0, none⟩ = some (.bool false) := V9.cell 0 rfl
    have cc1 : z2.cell? ⟨w.heap.size, 1, none⟩ = some (.bool false) := V9.cell 1 rfl
    have cc2 : z2.cell? ⟨w.heap.size, 2, none⟩ = some (.slice none 0 0) := V9.cell 2 rfl
    have cc3 : z2.cell? ⟨w.heap.size, 3, none⟩ = some (.slice none 0 0) := V9.cell 3 rfl
    have cc4 : z2.cell? ⟨w.heap.size, 4, none⟩ = some (.slice none 0 0) := V9.cell 4 rfl
    have ca : z2.cell? ⟨w.heap.size + 1, 0, none⟩ = some (.int .i64 16384) := A9.cell 0 rfl
    have ce : z2.cell? ⟨w.heap.size + 1 + 1, 0, none⟩ = some (.int .i64 4) := E9.cell 0 rfl
    simp [Leaves, settle, results, Tryd.results35, go_sem, cc0, cc1, cc2, cc3, cc4, ca, ce]
    exact ⟨SV.nil, Sx.nil, 16384, 4, .inl ⟨by rw [HL.out]; exact hlong, rfl, rfl, rfl⟩, rfl, rd_nil _ _, b9⟩
  have hlong' : ¬ (16384 : Int) < (s.size : Int) := by omega
  replace HF := Lib.hid (HF.out (by omega))
  go_enter_defers Tryd.func35, Tryd.ntmps35
  go_upto_region 1 with fail
  change Code.wp _ _ _ _ (((w.alloc (.cells #[.bool false, .bool false, .slice none 0 0, .slice none 0 0, .slice none 0 0] 27)).alloc (.cells #[.int .i64 0] 3)).alloc (.cells #[.int .i64 0] 28))
  generalize (((w.alloc (.cells #[.bool false, .bool false, .slice none 0 0, .slice none 0 0, .slice none 0 0] 27)).alloc (.cells #[.int .i64 0] 3)).alloc (.cells #[.int .i64 0] 28)) = u0 at *
  go_upto_region 5 with fail
  have X : Hid (Box (u0.alloc (.cells #[.string s, .int .i64 0, .int .i64 0] 79)) u0.heap.size 79 (RdN s 0 0)) := Lib.hid (Box.new _ _ _)
  have ba : Below u0.heap.size u0 (u0.alloc (.cells #[.string s, .int .i64 0, .int .i64 0] 79)) := (Below.refl _ _).alloc (Nat.le_refl _) _
  replace V := Lib.hid (V.out.after ba)
  replace A := Lib.hid (A.out.after ba)
  replace E := Lib.hid (E.out.after ba)
  replace B := B.trans (ba.mono B.size)
  have hgz : w.heap.size + 3 ≤ u0.heap.size := by have := HZ.out; omega
  have hg1 := X.out.lt
  clear ba
  change Code.wp _ _ _ _ (u0.alloc (.cells #[.string s, .int .i64 0, .int .i64 0] 79))
  generalize (u0.alloc (.cells #[.string s, .int .i64 0, .int .i64 0] 79)) = u1 at *
  clear HZ
  generalize u0.heap.size = g at *
  go_wp2_with fail
  rw [HF.out.enter]
  refine (HF.out.run g u1 X.out (HT.out.after B)).mono ?_
  rintro e w1 ⟨b1, r, hr, ⟨h1, rfl⟩ | ⟨h1, v, rfl, rd, X1⟩⟩
  · have HR := Lib.hid hr
    have H1 := Lib.hid h1
    have V1 := b1.box V.out (by omega)
    have A1 := b1.box A.out (by omega)
    have E1 := b1.box E.out (by omega)
    have B1 : Below w.heap.size w w1 := b1.after B B.size (fun k hk => by omega)
    clear hr h1 b1
    unfold FaultN
    refine leaves_cons (f := 50) (args := #[.pointer (some ⟨w.heap.size, 0, none⟩), .pointer (some ⟨w.heap.size + 1, 0, none⟩), .pointer (some ⟨w.heap.size + 1 + 1, 0, none⟩)]) (by simp) (by simp [go_sem]) ?_
    refine (rd1_fault w.heap.size (w.heap.size + 1) (w.heap.size + 1 + 1) r.p r.e [] w1 _ V1 rfl 0 0 A1 E1 (by omega) (by omega) (by omega)).mono ?_
    rintro e u' z2 ⟨rfl, rfl, V9, A9, E9, b2⟩
    have b9 : Below w.heap.size w z2 := b2.after B1 (B1).size (fun k hk => by omega)
    have cc0 : z2.cell? ⟨w.heap.size, 0, none⟩ = some (.bool false) := V9.cell 0 rfl
    have cc1 : z2.cell? ⟨w.heap.size, 1, none⟩ = some (.bool false) := V9.cell 1 rfl
    have cc2 : z2.cell? ⟨w.heap.size, 2, none⟩ = some (.slice none 0 0) := V9.cell 2 rfl
    have cc3 : z2.cell? ⟨w.heap.size, 3, none⟩ = some (.slice none 0 0) := V9.cell 3 rfl
    have cc4 : z2.cell? ⟨w.heap.size, 4, none⟩ = some (.slice none 0 0) := V9.cell 4 rfl
    have ca : z2.cell? ⟨w.heap.size + 1, 0, none⟩ = some (.int .i64 r.p) := A9.cell 0 rfl
    have ce : z2.cell? ⟨w.heap.size + 1 + 1, 0, none⟩ = some (.int .i64 r.e) := E9.cell 0 rfl
    simp [Leaves, settle, results, Tryd.results35, go_sem, cc0, cc1, cc2, cc3, cc4, ca, ce]
    exact ⟨SV.nil, Sx.nil, r.p, r.e, .inr ⟨by rw [HL.out]; omega, r, HR.out, .inl ⟨H1.out, rfl, rfl, rfl⟩⟩, rfl, rd_nil _ _, b9⟩
  obtain ⟨vl, vh, a1, n1, c1, a2, n2, c2, a3, n3, c3⟩ := v
  unfold SV.val
  obtain ⟨hrp, mm, hbr⟩ := HF.out.ok r hr h1
  have HR := Lib.hid hr
  have H1 := Lib.hid h1
  have HBR := Lib.hid hbr
  replace V := Lib.hid (b1.box V.out (by omega))
  replace A := Lib.hid (b1.box A.out (by omega))
  replace E := Lib.hid (b1.box E.out (by omega))
  have B1 : Below w.heap.size w w1 := b1.after B B.size (fun k hk => by omega)
  have RD := Lib.hid rd
  have X1' := Lib.hid X1
  have hz1 := b1.size
  clear hr h1 b1 X B rd hbr X1
  go_upto_region 6 with (refine wpList_store_box (cells := #[.bool vl, .bool vh, .slice a1 n1 c1, .slice a2 n2 c2, .slice a3 n3 c3]) rfl 27 _ _ rfl V.out (by rfl) (by rfl) rfl (by kernel_rfl) (by simp [Value.oneCell']) ?_; intro u5 V5 st5)
  have b5 : But (fun k => k = w.heap.size) w1 u5 := But.ofStored st5 (st5.below 0 w1 (Nat.zero_le _) (Below.refl _ _))
  replace A := Lib.hid (b5.box A.out (by omega))
  replace E := Lib.hid (b5.box E.out (by omega))
  have X5 := Lib.hid (b5.box X1'.out (by omega))
  have RD5 := Lib.hid (RD.out.but b5 (fun k hk => by omega))
  have B5 : Below w.heap.size w u5 := b5.after B1 B1.size (fun k hk => by omega)
  have V5' := Lib.hid V5
  have hz5 := b5.size
  clear b5 st5 V V5 X1' B1 RD
  go_wp2_with fail
  refine (endedN_any g s r.p r.n u5 X5.out (by omega) hrp).mono ?_
  rintro e w6 ⟨b6, ⟨h6, rfl⟩ | ⟨h6, rfl⟩⟩
  · have V1 := b6.box V5'.out (by omega)
    have A1 := b6.box A.out (by omega)
    have E1 := b6.box E.out (by omega)
    have B1 : Below w.heap.size w w6 := b6.after B5 B5.size (fun k hk => by omega)
    have H6 := Lib.hid h6
    clear b6 h6
    unfold FaultN
    obtain ⟨q, hq⟩ : ∃ q, q = skipN s.data.toList r.p := ⟨_, rfl⟩
    have HQ := Lib.hid hq
    rw [← hq]
    rw [← hq] at H6
    clear hq
    refine leaves_cons (f := 50) (args := #[.pointer (some ⟨w.heap.size, 0, none⟩), .pointer (some ⟨w.heap.size + 1, 0, none⟩), .pointer (some ⟨w.heap.size + 1 + 1, 0, none⟩)]) (by simp) (by simp [go_sem]) ?_
    refine (rd1_fault w.heap.size (w.heap.size + 1) (w.heap.size + 1 + 1) q 5 [] w6 _ V1 rfl 0 0 A1 E1 (by omega) (by omega) (by omega)).mono ?_
    rintro e u' z2 ⟨rfl, rfl, V9, A9, E9, b2⟩
    have b9 : Below w.heap.size w z2 := b2.after B1 (B1).size (fun k hk => by omega)
    have cc0 : z2.cell? ⟨w.heap.size, 0, none⟩ = some (.bool false) := V9.cell 0 rfl
    have cc1 : z2.cell? ⟨w.heap.size, 1, none⟩ = some (.bool false) := V9.cell 1 rfl
    have cc2 : z2.cell? ⟨w.heap.size, 2, none⟩ = some (.slice none 0 0) := V9.cell 2 rfl
    have cc3 : z2.cell? ⟨w.heap.size, 3, none⟩ = some (.slice none 0 0) := V9.cell 3 rfl
    have cc4 : z2.cell? ⟨w.heap.size, 4, none⟩ = some (.slice none 0 0) := V9.cell 4 rfl
    have ca : z2.cell? ⟨w.heap.size + 1, 0, none⟩ = some (.int .i64 q) := A9.cell 0 rfl
    have ce : z2.cell? ⟨w.heap.size + 1 + 1, 0, none⟩ = some (.int .i64 5) := E9.cell 0 rfl
    simp [Leaves, settle, results, Tryd.results35, go_sem, cc0, cc1, cc2, cc3, cc4, ca, ce]
    exact ⟨SV.nil, Sx.nil, q, 5, .inr ⟨by rw [HL.out]; omega, r, HR.out, .inr (.inl ⟨H1.out, by rw [← HQ.out, HL.out]; exact H6.out, rfl, HQ.out, rfl⟩)⟩, rfl, rd_nil _ _, b9⟩
  replace A := Lib.hid (b6.box A.out (by omega))
  replace E := Lib.hid (b6.box E.out (by omega))
  have V6 := Lib.hid (b6.box V5'.out (by omega))
  have RD6 := Lib.hid (RD5.out.but b6 (fun k hk => by omega))
  have B6 : Below w.heap.size w w6 := b6.after B5 B5.size (fun k hk => by omega)
  have H6 := Lib.hid h6
  have hz6 := b6.size
  clear b6 h6 V5' RD5 B5 X5
  go_wp2_with (refine wpList_load_box rfl 27 _ rfl V6.out (by rfl) Tryd.underlying27 rfl (by kernel_rfl) ?_)
  refine (mayB_any r.v ⟨vl, vh, a1, n1, c1, a2, n2, c2, a3, n3, c3⟩ w6 (RD6.out.mono (fun k hk => trivial)) mm HBR.out (HT.out.after B6)).mono ?_
  rintro e w7 ⟨rfl, b7⟩
  replace A := Lib.hid (A.out.after b7)
  replace E := Lib.hid (E.out.after b7)
  have V7 := Lib.hid (V6.out.after b7)
  have RD7 := Lib.hid (RD6.out.after b7)
  have B7 := B6.trans (b7.mono B6.size)
  have hz7 := b7.size
  clear b7 V6 RD6 B6
  cases hmy : r.v.may with
  | false =>
    have HM := Lib.hid hmy
    clear hmy
    go_wp2_with fail
    refine (wrong_any s.size 4 w7).mono ?_
    rintro e z1 ⟨rfl, rfl⟩
    unfold FaultN
    refine leaves_cons (f := 50) (args := #[.pointer (some ⟨w.heap.size, 0, none⟩), .pointer (some ⟨w.heap.size + 1, 0, none⟩), .pointer (some ⟨w.heap.size + 1 + 1, 0, none⟩)]) (by simp) (by simp [go_sem]) ?_
    refine (rd1_fault w.heap.size (w.heap.size + 1) (w.heap.size + 1 + 1) s.size 4 [] z1 _ V7.out rfl 0 0 A.out E.out (by omega) (by omega) (by omega)).mono ?_
    rintro e u' z2 ⟨rfl, rfl, V9, A9, E9, b2⟩
    have b9 : Below w.heap.size w z2 := b2.after B7 (B7).size (fun k hk => by omega)
    have cc0 : z2.cell? ⟨w.heap.size, 0, none⟩ = some (.bool false) := V9.cell 0 rfl
    have cc1 : z2.cell? ⟨w.heap.size, 1, none⟩ = some (.bool false) := V9.cell 1 rfl
    have cc2 : z2.cell? ⟨w.heap.size, 2, none⟩ = some (.slice none 0 0) := V9.cell 2 rfl
    have cc3 : z2.cell? ⟨w.heap.size, 3, none⟩ = some (.slice none 0 0) := V9.cell 3 rfl
    have cc4 : z2.cell? ⟨w.heap.size, 4, none⟩ = some (.slice none 0 0) := V9.cell 4 rfl
    have ca : z2.cell? ⟨w.heap.size + 1, 0, none⟩ = some (.int .i64 s.size) := A9.cell 0 rfl
    have ce : z2.cell? ⟨w.heap.size + 1 + 1, 0, none⟩ = some (.int .i64 4) := E9.cell 0 rfl
    simp [Leaves, settle, results, Tryd.results35, go_sem, cc0, cc1, cc2, cc3, cc4, ca, ce]
    exact ⟨SV.nil, Sx.nil, s.size, 4, .inr ⟨by rw [HL.out]; omega, r, HR.out, .inr (.inr (.inl ⟨H1.out, by rw [HL.out]; exact H6.out, HM.out, rfl, HL.out.symm, rfl⟩))⟩, rfl, rd_nil _ _, b9⟩
  | true =>
    have HM := Lib.hid hmy
    clear hmy
    go_wp2_with first | (refine wpList_load_box rfl 27 _ rfl V7.out (by rfl) Tryd.underlying27 rfl (by kernel_rfl) ?_) | (refine wpList_store_box (cells := #[.bool vl, .bool vh, .slice a1 n1 c1, .slice a2 n2 c2, .slice a3 n3 c3]) rfl 27 _ _ rfl V7.out (by rfl) (by rfl) rfl (by kernel_rfl) (by simp [Value.oneCell']) ?_; intro u9 X9 st9; have a9 := (st9.box A.out (by omega)).cell 0 rfl; have fa9 := (st9.box A.out (by omega)).frozen 0; have e9 := (st9.box E.out (by omega)).cell 0 rfl; have fe9 := (st9.box E.out (by omega)).frozen 0)
    have b59 : But (fun k => k = w.heap.size ∨ k = w.heap.size + 1 ∨ k = w.heap.size + 1 + 1) w7 ((u9.setCell ⟨w.heap.size + 1, 0, none⟩ (.int .i64 0)).setCell ⟨w.heap.size + 1 + 1, 0, none⟩ (.int .i64 0)) := (((But.ofStored st9 (st9.below 0 w7 (Nat.zero_le _) (Below.refl _ _))).mono (fun k hk => .inl hk)).setCell (p := ⟨w.heap.size + 1, 0, none⟩) (.inl (.inr (.inl rfl))) _).setCell (p := ⟨w.heap.size + 1 + 1, 0, none⟩) (.inl (.inr (.inr rfl))) _
    have V9 := (X9.far ⟨w.heap.size + 1, 0, none⟩ (.int .i64 0) (by show w.heap.size ≠ w.heap.size + 1; omega)).far ⟨w.heap.size + 1 + 1, 0, none⟩ (.int .i64 0) (by show w.heap.size ≠ w.heap.size + 1 + 1; omega)
    have A9 : Box ((u9.setCell ⟨w.heap.size + 1, 0, none⟩ (.int .i64 0)).setCell ⟨w.heap.size + 1 + 1, 0, none⟩ (.int .i64 0)) (w.heap.size + 1) 3 #[.int .i64 0] := ((st9.box A.out (by omega)).set 0 (.int .i64 0)).far ⟨w.heap.size + 1 + 1, 0, none⟩ (.int .i64 0) (by show w.heap.size + 1 ≠ w.heap.size + 1 + 1; omega)
    have E9 : Box ((u9.setCell ⟨w.heap.size + 1, 0, none⟩ (.int .i64 0)).setCell ⟨w.heap.size + 1 + 1, 0, none⟩ (.int .i64 0)) (w.heap.size + 1 + 1) 28 #[.int .i64 0] := ((st9.box E.out (by omega)).far ⟨w.heap.size + 1, 0, none⟩ (.int .i64 0) (by show w.heap.size + 1 + 1 ≠ w.heap.size + 1; omega)).set 0 (.int .i64 0)
    generalize ((u9.setCell ⟨w.heap.size + 1, 0, none⟩ (.int .i64 0)).setCell ⟨w.heap.size + 1 + 1, 0, none⟩ (.int .i64 0)) = u8 at *
    have b9 : Below w.heap.size w u8 := b59.after B7 B7.size (fun k hk => by omega)
    have RD9 : RdI (fun k => w.heap.size ≤ k) u8 ⟨vl, vh, a1, n1, c1, a2, n2, c2, a3, n3, c3⟩ r.v := (RD7.out.but b59 (fun k hk e => by omega)).mono (fun k hk => by omega)
    have cc0 : u8.cell? ⟨w.heap.size, 0, none⟩ = some (.bool vl) := V9.cell 0 rfl
    have cc1 : u8.cell? ⟨w.heap.size, 1, none⟩ = some (.bool vh) := V9.cell 1 rfl
    have cc2 : u8.cell? ⟨w.heap.size, 2, none⟩ = some (.slice a1 n1 c1) := V9.cell 2 rfl
    have cc3 : u8.cell? ⟨w.heap.size, 3, none⟩ = some (.slice a2 n2 c2) := V9.cell 3 rfl
    have cc4 : u8.cell? ⟨w.heap.size, 4, none⟩ = some (.slice a3 n3 c3) := V9.cell 4 rfl
    have ca : u8.cell? ⟨w.heap.size + 1, 0, none⟩ = some (.int .i64 0) := A9.cell 0 rfl
    have ce : u8.cell? ⟨w.heap.size + 1 + 1, 0, none⟩ = some (.int .i64 0) := E9.cell 0 rfl
    refine leaves_cons (f := 50) (args := #[.pointer (some ⟨w.heap.size, 0, none⟩), .pointer (some ⟨w.heap.size + 1, 0, none⟩), .pointer (some ⟨w.heap.size + 1 + 1, 0, none⟩)]) (by simp) (by simp [go_sem]) ?_
    refine (rd1_idle _ _ _ _).mono ?_
    rintro e u' w'' ⟨rfl, rfl, rfl⟩
    simp [Leaves, settle, results, Tryd.results35, go_sem, cc0, cc1, cc2, cc3, cc4, ca, ce]
    exact ⟨⟨vl, vh, a1, n1, c1, a2, n2, c2, a3, n3, c3⟩, r.v, 0, 0, .inr ⟨by rw [HL.out]; omega, r, HR.out, .inr (.inr (.inr ⟨H1.out, by rw [HL.out]; exact H6.out, HM.out, rfl, rfl, rfl⟩))⟩, rfl, RD9, b9⟩

set_option maxHeartbeats 4000000 in
set_option maxRecDepth 100000 in
theorem read1_any (g : Nat) (s : ByteArray) (w : World) (hs : s.size ≤ 100000) (hX : Box w g 79 (RdN s 0 0)) : Calls Tryd.prog 36 #[.pointer (some ⟨g, 0, none⟩)] w (ValN (Nt s.data.toList none 0 1 0) g s w) := by
  have hgw := hX.lt
  have B0 : Below w.heap.size w (w.alloc (.cells #[.bool false, .bool false, .slice none 0 0, .slice none 0 0, .slice none 0 0] 27)) := (Below.refl _ _).alloc (Nat.le_refl _) _
  have R := Lib.hid (Box.new w 27 #[.bool false, .bool false, .slice none 0 0, .slice none 0 0, .slice none 0 0])
  have X := Lib.hid (hX.after B0)
  have hz : w.heap.size < ((w.alloc (.cells #[.bool false, .bool false, .slice none 0 0, .slice none 0 0, .slice none 0 0] 27))).heap.size := R.out.lt
  have U : Hid (But (fun k => k = g) w (w.alloc (.cells #[.bool false, .bool false, .slice none 0 0, .slice none 0 0, .slice none 0 0] 27))) := Lib.hid (But.ofBelow B0)
  clear hX B0
  go_enter Tryd.func36, Tryd.ntmps36
  go_upto_region 1 with fail
  change Code.wp _ _ _ _ (w.alloc (.cells #[.bool false, .bool false, .slice none 0 0, .slice none 0 0, .slice none 0 0] 27))
  generalize (w.alloc (.cells #[.bool false, .bool false, .slice none 0 0, .slice none 0 0, .slice none 0 0] 27)) = u0 at *
  go_wp2_with fail
  refine (valueN_any g s 0 0 1 u0 X.out hs (by omega) (by omega) (by omega)).mono ?_
  rintro e w1 ⟨b1, r, hr, ⟨h1, rfl⟩ | ⟨h1, v, rfl, rd, X1⟩⟩
  · have HR := Lib.hid hr
    have H1 := Lib.hid h1
    have HB := Lib.hid (U.out.trans b1 (fun k hk => .inl hk))
    clear hr h1 b1
    unfold FaultN
    go_wp2_with fail
    exact ⟨rfl, HB.out, r, HR.out, .inl ⟨H1.out, rfl⟩⟩
  · have HR := Lib.hid hr
    have H1 := Lib.hid h1
    have HB := Lib.hid (U.out.trans b1 (fun k hk => .inl hk))
    have HRD := Lib.hid rd
    have HX1 := Lib.hid X1
    replace R := Lib.hid (b1.box R.out (by omega))
    have hz1 := b1.size
    clear hr h1 b1 rd X1
    obtain ⟨vl, vh, a1, n1, c1, a2, n2, c2, a3, n3, c3⟩ := v
    unfold SV.val
    go_wp2_with (refine wpList_store_box (cells := #[.bool vl, .bool vh, .slice a1 n1 c1, .slice a2 n2 c2, .slice a3 n3 c3]) rfl 27 _ _ rfl R.out (by rfl) (by rfl) rfl (by kernel_rfl) (by simp [Value.oneCell']) ?_; intro u9 X9 st9)
    have b9 : But (fun k => k = w.heap.size) w1 u9 := But.ofStored st9 (st9.below 0 w1 (Nat.zero_le _) (Below.refl _ _))
    exact bodyPost_ret (v := .agg #[.bool vl, .bool vh, .slice a1 n1 c1, .slice a2 n2 c2, .slice a3 n3 c3]) (box_result rfl _ _ (by rfl) X9 Tryd.underlying27 rfl (by kernel_rfl)) rfl ⟨HB.out.trans b9 (fun k hk => .inr (by omega)), r, HR.out, .inr ⟨H1.out, ⟨vl, vh, a1, n1, c1, a2, n2, c2, a3, n3, c3⟩, rfl, (HRD.out.but b9 (fun k hk e => by omega)).mono (fun k hk => by omega), b9.box HX1.out (by omega)⟩⟩
set_option maxRecDepth 100000 in
theorem read_reads (s : ByteArray) (hs : s.size ≤ 16384) : Reads 36 (Nt s.data.toList none 0 1 0) s :=
  ⟨fun _ _ => rfl, fun g w hX _ => read1_any g s w (by omega) hX, fun r hr he => ⟨by have := (Nt_place hr he (Nat.zero_le _)).2.1; simpa using this, 1, (Nt_ok hr (by simp; omega) he (by decide) (by decide) (Nat.zero_le _)).1⟩⟩

set_option maxHeartbeats 4000000 in
set_option maxRecDepth 100000 in
theorem readN_any (s : ByteArray) (w : World) (ht : Tab w) : Calls Tryd.prog 24 #[.string s] w (ReadP (Nt s.data.toList none 0 1 0) s.data.toList w) := by
  have R := Lib.hid (Box.new w 27 #[.bool false, .bool false, .slice none 0 0, .slice none 0 0, .slice none 0 0])
  have B0 : Below w.heap.size w (w.alloc (.cells #[.bool false, .bool false, .slice none 0 0, .slice none 0 0, .slice none 0 0] 27)) := (Below.refl _ _).alloc (Nat.le_refl _) _
  have CA := Lib.hid (fun w' h => reads_any 36 (Nt s.data.toList none 0 1 0) s (read_reads s) w' h)
  have HT := Lib.hid (ht.after B0)
  clear ht
  go_enter Tryd.func24, Tryd.ntmps24
  go_upto_region 1 with fail
  change Code.wp _ _ _ _ (w.alloc (.cells #[.bool false, .bool false, .slice none 0 0, .slice none 0 0, .slice none 0 0] 27))
  generalize (w.alloc (.cells #[.bool false, .bool false, .slice none 0 0, .slice none 0 0, .slice none 0 0] 27)) = u0 at *
  go_wp2_with fail
  refine (CA.out u0 HT.out).mono ?_
  rintro e w1 ⟨v, sx, p, x, hg, rfl, rd, b1⟩
  obtain ⟨vl, vh, a1, n1, c1, a2, n2, c2, a3, n3, c3⟩ := v
  have HG := Lib.hid hg
  have HRD := Lib.hid rd
  have hz0 := B0.size
  have hz1 := R.out.lt
  replace R := Lib.hid (R.out.after b1)
  have B1 := B0.trans (b1.mono hz0)
  clear hg rd b1
  go_wp2_with (refine wpList_store_box (cells := #[.bool vl, .bool vh, .slice a1 n1 c1, .slice a2 n2 c2, .slice a3 n3 c3]) rfl 27 _ _ rfl R.out (by rfl) (by rfl) rfl (by kernel_rfl) (by simp [Value.oneCell']) ?_; intro u9 X9 st9)
  have b9 : But (fun k => k = w.heap.size) w1 u9 := But.ofStored st9 (st9.below 0 w1 (Nat.zero_le _) (Below.refl _ _))
  exact bodyPost_ret (v := .tuple #[.agg #[.bool vl, .bool vh, .slice a1 n1 c1, .slice a2 n2 c2, .slice a3 n3 c3], .int .i64 p, .int .i64 x]) (box_result22 (p := 2) (q := 3) (r := 4) rfl _ _ (by rfl) X9 Tryd.underlying27 rfl (by kernel_rfl)) rfl ⟨⟨vl, vh, a1, n1, c1, a2, n2, c2, a3, n3, c3⟩, sx, p, x, HG.out, rfl, (HRD.out.but b9 (fun k hk e => by omega)).mono (fun k hk => by omega), b9.after B1 B1.size (fun k hk => by omega)⟩

end Go.Proofs.YtigopfeamjhdpaaDoor
namespace Go.Proofs.YtigopfeamjhdpaaDoor

/-- is a year long? -/
def lpB (y : Int) : Bool := decide (y % 4 = 0 ∧ (y % 100 ≠ 0 ∨ y % 400 = 0))
def lp (y : Int) : Int := if lpB y then 1 else 0
/-- days of a month -/
def dim (y m : Int) : Int := if m = 2 then 28 + lp y else if m = 4 ∨ m = 6 ∨ m = 9 ∨ m = 11 then 30 else 31
/-- days ahead of a year -/
def dby (y : Int) : Int := 365 * y + (y + 3) / 4 - (y + 99) / 100 + (y + 399) / 400
/-- days ahead of a month -/
def cum (y : Int) : Nat → Int
  | 0 => 0
  | 1 => 0
  | m + 2 => cum y (m + 1) + dim y ((m : Int) + 1)

theorem lp_01 (y : Int) : 0 ≤ lp y ∧ lp y ≤ 1 := by unfold lp; split <;> omega
theorem dim_bd (y m : Int) : 28 ≤ dim y m ∧ dim y m ≤ 31 := by
  have := lp_01 y
  unfold dim; repeat' split
  all_goals omega
theorem lp_one (y : Int) (h : y % 4 = 0 ∧ (y % 100 ≠ 0 ∨ y % 400 = 0)) : lp y = 1 := by
  have : lpB y = true := decide_eq_true h
  simp [lp, this]
theorem lp_zero (y : Int) (h : ¬ (y % 4 = 0 ∧ (y % 100 ≠ 0 ∨ y % 400 = 0))) : lp y = 0 := by
  have : lpB y = false := decide_eq_false h
  simp [lp, this]
theorem dby_succ (y : Int) : dby (y + 1) = dby y + 365 + lp y := by
  by_cases h4 : y % 4 = 0 ∧ (y % 100 ≠ 0 ∨ y % 400 = 0)
  · rw [lp_one y h4]; unfold dby; omega
  · rw [lp_zero y h4]; unfold dby; omega
theorem dby_four (q : Int) : dby (400 * q) = 146097 * q := by unfold dby; omega
theorem dby_zero : dby 0 = 0 := by decide
theorem dby_bd (y : Int) (h : 0 ≤ y) (h2 : y ≤ 10001) : 0 ≤ dby y ∧ dby y ≤ 3652791 := by unfold dby; omega
theorem dby_max : dby 10000 = 3652425 := by decide
theorem dby_pos (y : Int) : dby y = y * 365 + ((y - 1) / 4 - (y - 1) / 100 + (y - 1) / 400 + 1) := by unfold dby; omega
theorem cum_succ (y : Int) (m : Nat) (h : 1 ≤ m) : cum y (m + 1) = cum y m + dim y m := by
  obtain ⟨k, rfl⟩ : ∃ k, m = k + 1 := ⟨m - 1, by omega⟩
  rw [cum]; simp
theorem cum_bd (y : Int) (m : Nat) : 0 ≤ cum y m ∧ cum y m ≤ 31 * m := by
  induction m with
  | zero => simp [cum]
  | succ k ih =>
    by_cases hk : 1 ≤ k
    · rw [cum_succ y k hk]; have := dim_bd y k; omega
    · obtain rfl : k = 0 := by omega
      simp [cum]
theorem cum_13 (y : Int) : cum y 13 = 365 + lp y := by
  simp [cum, dim]; omega

/-- a digit? -/
def isD_XDateMath (c : UInt8) : Bool := decide (48 ≤ c.toNat ∧ c.toNat ≤ 57)
def dg (c : UInt8) : Nat := c.toNat - 48
theorem isD_iff (c : UInt8) : isD_XDateMath c = true ↔ 48 ≤ c.toNat ∧ c.toNat ≤ 57 := by simp [isD_XDateMath]
theorem isD_not (c : UInt8) : isD_XDateMath c = false ↔ c.toNat < 48 ∨ 57 < c.toNat := by rw [← Bool.not_eq_true, isD_iff]; omega
def two2 (a b : UInt8) : Nat := 10 * dg a + dg b

/-- A text of a clock's time. -/
def clockOk : List UInt8 → Bool
  | [a, b, p, c, d, q, e, f] => isD_XDateMath a && isD_XDateMath b && (p == 58) && isD_XDateMath c && isD_XDateMath d && (q == 58) && isD_XDateMath e && isD_XDateMath f && decide (two2 a b ≤ 23 ∧ two2 c d ≤ 59 ∧ two2 e f ≤ 59)
  | _ => false
def clockN : List UInt8 → Int
  | [a, b, _, c, d, _, e, f] => 3600 * two2 a b + 60 * two2 c d + two2 e f
  | _ => 0
def clockV (l : List UInt8) : Int := if clockOk l then clockN l else 0
/-- A text of a date. -/
def dateOk : List UInt8 → Bool
  | y1 :: y2 :: y3 :: y4 :: p :: m1 :: m2 :: q :: d1 :: d2 :: r :: t => isD_XDateMath y1 && isD_XDateMath y2 && isD_XDateMath y3 && isD_XDateMath y4 && (p == 45) && isD_XDateMath m1 && isD_XDateMath m2 && (q == 45) && isD_XDateMath d1 && isD_XDateMath d2 && (r == 95) && clockOk t &&
      decide (1 ≤ two2 m1 m2 ∧ two2 m1 m2 ≤ 12 ∧ 1 ≤ two2 d1 d2 ∧ (two2 d1 d2 : Int) ≤ dim (100 * two2 y1 y2 + two2 y3 y4 : Nat) (two2 m1 m2 : Nat))
  | _ => false
def dateN : List UInt8 → Int
  | y1 :: y2 :: y3 :: y4 :: _ :: m1 :: m2 :: _ :: d1 :: d2 :: _ :: t => (dby (100 * two2 y1 y2 + two2 y3 y4 : Nat) + ((two2 d1 d2 : Nat) - 1 : Int) + cum (100 * two2 y1 y2 + two2 y3 y4 : Nat) (two2 m1 m2)) * 86400 + clockN t
  | _ => 0
def dateV (l : List UInt8) : Int := if dateOk l then dateN l else 0

/-- the value of digits -/
def digN (l : List UInt8) : Nat := l.foldl (fun n c => 10 * n + dg c) 0
theorem digN_snoc (l : List UInt8) (c : UInt8) : digN (l ++ [c]) = 10 * digN l + dg c := by simp [digN]

/-- does a text fit a form? noughts stand for digits -/
def fitsC (c f : UInt8) : Bool := if f = 48 then isD_XDateMath c else c == f
def fitsL : List UInt8 → List UInt8 → Bool
  | [], [] => true
  | c :: l, f :: r => fitsC c f && fitsL l r
  | _, _ => false
theorem fitsL_len (l r : List UInt8) (h : l.length ≠ r.length) : fitsL l r = false := by
  induction l generalizing r with
  | nil => cases r <;> simp_all [fitsL]
  | cons c l ih => cases r with
    | nil => rfl
    | cons f r => simp [fitsL, ih r (by simpa using h)]
theorem fitsL_drop (l r : List UInt8) (k : Nat) (h1 : k < l.length) (h2 : k < r.length) : fitsL (l.drop k) (r.drop k) = (fitsC (l.getD k 0) (r.getD k 0) && fitsL (l.drop (k + 1)) (r.drop (k + 1))) := by
  rw [List.drop_eq_getElem_cons h1, List.drop_eq_getElem_cons h2]
  simp [fitsL, List.getD_eq_getElem?_getD, h1, h2]
end Go.Proofs.YtigopfeamjhdpaaDoor
namespace Go.Proofs.YtigopfeamjhdpaaDoor
open Go.RowKit

theorem Sl_some_XDate1 {w : World} {a : Option Addr} {len cap : Nat} {l : List UInt8} (h : Sl w a len cap l) (hl : 0 < len) : ∃ b o, a = Option.some ⟨b, o, none⟩ ∧ (∀ i, i < len → w.cell? ⟨b, o + i, none⟩ = Option.some (.int .u8 ((l.getD i 0).toNat : Int))) ∧ b < w.heap.size := by
  have hlt := h.lt
  rcases h.2.2.2.2 with h4 | ⟨b, o, rfl, h4⟩
  · omega
  · exact ⟨b, o, rfl, h4, hlt b o (by omega) rfl⟩
theorem Sl.len_le {w : World} {a : Option Addr} {len cap : Nat} {l : List UInt8} (h : Sl w a len cap l) : l.length ≤ 9223372036854775807 := by
  have h1 := h.1
  have h2 := h.2.1
  have h3 := h.2.2.1
  unfold maxLen at h3
  omega
theorem Sl.sub {w : World} {b o len cap : Nat} {l : List UInt8} (h : Sl w (Option.some ⟨b, o, none⟩) len cap l) (i j : Nat) (hij : i ≤ j) (hj : j ≤ len) :
    Sl w (Option.some ⟨b, o + i, none⟩) (j - i) (cap - i) ((l.drop i).take (j - i)) := by
  obtain ⟨h1, h2, h3, h5, h4⟩ := h
  refine ⟨by simp; omega, by omega, by omega, (fun h => by cases h), ?_⟩
  by_cases h0 : j - i = 0
  · exact .inl h0
  · right
    rcases h4 with h4 | ⟨b', o', e, h4⟩
    · omega
    · obtain ⟨rfl, rfl⟩ : b = b' ∧ o = o' := by simpa using e
      refine ⟨b, o + i, rfl, fun k hk => ?_⟩
      rw [Nat.add_assoc, h4 (i + k) (by omega)]
      simp [List.getD_eq_getElem?_getD, hk]

set_option maxHeartbeats 1000000 in
theorem digits_any (a : Option Addr) (len cap : Nat) (l : List UInt8) (w : World) (hs : Sl w a len cap l) (hd : ∀ c ∈ l, isD_XDateMath c = true) (hl : l.length ≤ 4) :
    Calls Tryd.prog 42 #[.slice a len cap] w fun e w' => e = .returned (.int .i64 (digN l : Nat)) ∧ w' = w := by
  have HS := Lib.hid hs
  have HD := Lib.hid hd
  have HL := Lib.hid hs.1
  have hl' : len ≤ 4 := by have := hs.1; omega
  clear hs hd
  go_enter Tryd.func42, Tryd.ntmps42
  go_wp2_with fail
  go_loop [3, 8] (fun n i => ∃ k x : Nat, k ≤ len ∧ i = .int .i64 k ∧ n = .int .i64 x ∧ x < 10 ^ k ∧ Hid (x = digN (l.take k))) (fun _ i => len - (intOf i).toNat)
  case atStart => exact ⟨0, 0, Nat.zero_le _, rfl, rfl, by simp, Lib.hid rfl⟩
  case round =>
    obtain ⟨k, x, hk, rfl, rfl, hx, HX⟩ := hrel
    by_cases hlt : k < len
    · obtain ⟨b, o, rfl, hcc, _⟩ := HS.out.some (by omega)
      have c0 := hcc k hlt
      obtain ⟨c, hcE⟩ : ∃ c, c = l.getD k 0 := ⟨_, rfl⟩
      rw [← hcE] at c0
      have hkl : k < l.length := by have := HL.out; omega
      have hdc := (isD_iff c).1 (HD.out c (by rw [hcE]; simp [List.getD_eq_getElem?_getD, hkl]))
      obtain ⟨d1, d2⟩ := hdc
      have hxb : x < 10000 := Nat.lt_of_lt_of_le hx (Nat.pow_le_pow_right (n := 10) (by omega) (show k ≤ 4 by omega))
      have HT := Lib.hid (show digN (l.take (k + 1)) = 10 * x + (c.toNat - 48) by
        rw [List.take_succ_eq_append_getElem hkl, digN_snoc, HX.out, hcE]; simp [List.getD_eq_getElem?_getD, hkl, dg])
      have hp : 10 ^ (k + 1) = 10 * 10 ^ k := by rw [Nat.pow_succ]; omega
      have HP := Lib.hid hp
      clear hcc hcE hp
      go_wp2_with fail
      go_round
      case rel => exact ⟨k + 1, 10 * x + (c.toNat - 48), by omega, by go_num, by go_num, by rw [HP.out]; omega, Lib.hid HT.out.symm⟩
      case measure => simp [intOf]; omega
    · obtain rfl : k = len := by omega
      have HE := Lib.hid (show digN l = x by rw [HX.out, List.take_of_length_le (by have := HL.out; omega)])
      go_wp2_with fail
      go_ret
      exact ⟨by rw [HE.out]; rfl, rfl⟩

set_option maxHeartbeats 1000000 in
theorem fits_any (a : Option Addr) (len cap : Nat) (l : List UInt8) (form : ByteArray) (w : World) (hs : Sl w a len cap l) (hf : ∀ k (h : k < form.size), (form[k]'h).toNat < 128) (hf2 : form.size ≤ 100) (hl : l.length ≤ 9223372036854775807) :
    Calls Tryd.prog 40 #[.slice a len cap, .string form] w fun e w' => e = .returned (.bool (fitsL l form.data.toList)) ∧ Below w.heap.size w w' := by
  have HS := Lib.hid hs
  have HL := Lib.hid hs.1
  have hl' : len ≤ 9223372036854775807 := by have := hs.1; omega
  obtain ⟨R, hR⟩ : ∃ R, R = fitsL l form.data.toList := ⟨_, rfl⟩
  rw [← hR]
  have HR := Lib.hid hR
  have HF := Lib.hid hf
  clear hs hR hf
  by_cases hne : len = form.size
  · subst hne
    have hb : ((form.size : Int) != (form.size : Int)) = false := by simp
    go_enter Tryd.func40, Tryd.ntmps40
    go_wp2_with fail
    go_loopw [5, 6] (fun _ _ wr => ∃ k : Nat, k ≤ form.size ∧ w.iter form k = wr ∧ Hid (R = fitsL (l.drop k) (form.data.toList.drop k))) (fun _ _ wr => form.size - wr.iterPos w.heap.size)
    case atStart => exact ⟨0, Nat.zero_le _, rfl, Lib.hid (by rw [HR.out]; rfl)⟩
    case round =>
      obtain ⟨k, hk, rfl, HX⟩ := hrel
      have hW : Below w.heap.size w (w.iter form k) := (Below.refl _ _).alloc (Nat.le_refl _) _
      have hW1 : Below w.heap.size w (w.iter form (k + 1)) := (Below.refl _ _).alloc (Nat.le_refl _) _
      have hpos : ∀ j, (w.iter form j).iterPos w.heap.size = j := fun j => iterPos_of (World.iter_heap w form j)
      by_cases hlt : k < form.size
      · have hnx := fun ty => run_next_ascii (P := Tryd.prog) w form k ty hlt (HF.out k hlt)
        obtain ⟨f, hfE⟩ : ∃ f, f = form[k]'hlt := ⟨_, rfl⟩
        rw [← hfE] at hnx
        have hfb := f.toNat_lt
        obtain ⟨b, o, rfl, hcc, hbw⟩ := HS.out.some (by omega)
        obtain ⟨c, hcE⟩ : ∃ c, c = l.getD k 0 := ⟨_, rfl⟩
        have c0 : (w.iter form k).cell? ⟨b, o + k, none⟩ = some (.int .u8 (c.toNat : Int)) := by rw [hW.cell hbw, hcE]; exact hcc k hlt
        have c1 : (w.iter form (k + 1)).cell? ⟨b, o + k, none⟩ = some (.int .u8 (c.toNat : Int)) := by rw [hW1.cell hbw, hcE]; exact hcc k hlt
        have hcb := c.toNat_lt
        have HD := Lib.hid (show R = (fitsC c f && fitsL (l.drop (k + 1)) (form.data.toList.drop (k + 1))) by
          rw [HX.out, fitsL_drop l form.data.toList k (by have := HL.out; omega) (by simpa using hlt), hcE, hfE]
          congr 2
          simp [List.getD_eq_getElem?_getD, hlt]; rfl)
        clear hcc hcE hfE HX c0
        by_cases h48 : f.toNat = 48
        · have hf48 : f = 48 := UInt8.toNat_inj.1 (by simpa using h48)
          subst hf48
          by_cases h1 : c.toNat < 48
          · have HE := Lib.hid (show R = false by rw [HD.out]; simp [fitsC, isD_XDateMath]; intros; omega)
            replace h1 : (c.toNat : Int) < 48 := by omega
            go_wp2_with fail
            go_ret
            exact ⟨by rw [HE.out]; rfl, (Below.refl _ _).alloc (Nat.le_refl _) _⟩
          · by_cases h2 : 57 < c.toNat
            · have HE := Lib.hid (show R = false by rw [HD.out]; simp [fitsC, isD_XDateMath]; intros; omega)
              replace h1 : (48 : Int) ≤ (c.toNat : Int) := by omega
              replace h2 : (57 : Int) < (c.toNat : Int) := by omega
              go_wp2_with fail
              go_ret
              exact ⟨by rw [HE.out]; rfl, (Below.refl _ _).alloc (Nat.le_refl _) _⟩
            · have HE := Lib.hid (show R = fitsL (l.drop (k + 1)) (form.data.toList.drop (k + 1)) by rw [HD.out]; simp [fitsC, isD_XDateMath, show 48 ≤ c.toNat by omega, show c.toNat ≤ 57 by omega])
              replace h1 : (48 : Int) ≤ (c.toNat : Int) := by omega
              replace h2 : (c.toNat : Int) ≤ 57 := by omega
              go_wp2_with fail
              go_roundw
              case rel => exact ⟨k + 1, by omega, rfl, HE⟩
              case measure => rw [hpos, hpos]; omega
        · have q1 : ((f.toNat : Int) == 48) = false := by rw [beq_eq_false_iff_ne]; omega
          have q2 : ((f.toNat : Int) != 48) = true := by rw [bne_iff_ne]; omega
          have hfne : f ≠ 48 := by intro h; apply h48; rw [h]; rfl
          by_cases h1 : c.toNat = f.toNat
          · have HE := Lib.hid (show R = fitsL (l.drop (k + 1)) (form.data.toList.drop (k + 1)) by rw [HD.out]; simp [fitsC, hfne, UInt8.toNat_inj.1 h1])
            have q3 : ((c.toNat : Int) != (f.toNat : Int)) = false := by rw [bne_eq_false_iff_eq]; omega
            clear h1
            go_wp2_with fail
            go_roundw
            case rel => exact ⟨k + 1, by omega, rfl, HE⟩
            case measure => rw [hpos, hpos]; omega
          · have HE := Lib.hid (show R = false by rw [HD.out]; simp [fitsC, hfne]; intro h; exact absurd (congrArg UInt8.toNat h) h1)
            have q3 : ((c.toNat : Int) != (f.toNat : Int)) = true := by rw [bne_iff_ne]; omega
            go_wp2_with fail
            go_ret
            exact ⟨by rw [HE.out]; rfl, (Below.refl _ _).alloc (Nat.le_refl _) _⟩
      · obtain rfl : k = form.size := by omega
        have HE := Lib.hid (show R = true by rw [HX.out, List.drop_of_length_le (by rw [← HL.out]; exact Nat.le_refl _), List.drop_of_length_le (by simp)]; rfl)
        have hnx := fun ty => run_next_end (P := Tryd.prog) w form form.size ty hlt
        clear HX
        go_wp2_with fail
        go_ret
        exact ⟨by rw [HE.out]; rfl, (Below.refl _ _).alloc (Nat.le_refl _) _⟩
  · have HE := Lib.hid (show R = false by rw [HR.out]; exact fitsL_len _ _ (by have := HL.out; simp; omega))
    have hb : ((len : Int) != (form.size : Int)) = true := by rw [bne_iff_ne]; omega
    go_enter Tryd.func40, Tryd.ntmps40
    go_wp2_with fail
    go_ret
    exact ⟨by rw [HE.out]; rfl, Below.refl _ _⟩

set_option maxHeartbeats 1000000 in
theorem long_any (y : Int) (w : World) (h0 : 0 ≤ y) : Calls Tryd.prog 64 #[.int .i64 y] w fun e w' => e = .returned (.bool (lpB y)) ∧ w' = w := by
  obtain ⟨R, hR⟩ : ∃ R, R = lpB y := ⟨_, rfl⟩
  rw [← hR]
  have HR := Lib.hid hR
  clear hR
  by_cases h4 : y % 4 = 0
  · have q4 : (y % 4 == 0) = true := by simpa using h4
    by_cases h100 : y % 100 = 0
    · have q100 : (y % 100 != 0) = false := by simpa using h100
      by_cases h400 : y % 400 = 0
      · have HE := Lib.hid (show R = true by rw [HR.out, lpB]; simp [h4, h400])
        have q400 : (y % 400 == 0) = true := by simpa using h400
        clear h4 h100 h400
        go_enter Tryd.func64, Tryd.ntmps64
        go_wp2_with fail
        go_ret
        exact ⟨by rw [HE.out]; rfl, rfl⟩
      · have HE := Lib.hid (show R = false by rw [HR.out, lpB]; simp [h100, h400])
        have q400 : (y % 400 == 0) = false := by simpa using h400
        clear h4 h100 h400
        go_enter Tryd.func64, Tryd.ntmps64
        go_wp2_with fail
        go_ret
        exact ⟨by rw [HE.out]; rfl, rfl⟩
    · have HE := Lib.hid (show R = true by rw [HR.out, lpB]; simp [h4, h100])
      have q100 : (y % 100 != 0) = true := by simpa using h100
      clear h4 h100
      go_enter Tryd.func64, Tryd.ntmps64
      go_wp2_with fail
      go_ret
      exact ⟨by rw [HE.out]; rfl, rfl⟩
  · have HE := Lib.hid (show R = false by rw [HR.out, lpB]; simp [h4])
    have q4 : (y % 4 == 0) = false := by simpa using h4
    clear h4
    go_enter Tryd.func64, Tryd.ntmps64
    go_wp2_with fail
    go_ret
    exact ⟨by rw [HE.out]; rfl, rfl⟩

set_option maxHeartbeats 1000000 in
theorem days_any (y m : Int) (w : World) (h0 : 0 ≤ y) : Calls Tryd.prog 43 #[.int .i64 y, .int .i64 m] w fun e w' => e = .returned (.int .i64 (dim y m)) ∧ w' = w := by
  obtain ⟨R, hR⟩ : ∃ R, R = dim y m := ⟨_, rfl⟩
  rw [← hR]
  have HR := Lib.hid hR
  clear hR
  have hcase : m = 2 ∨ (m = 4 ∨ m = 6 ∨ m = 9 ∨ m = 11) ∨ (m ≠ 2 ∧ m ≠ 4 ∧ m ≠ 6 ∧ m ≠ 9 ∧ m ≠ 11) := by omega
  rcases hcase with rfl | hm | ⟨m2, m4, m6, m9, m11⟩
  · cases hl : lpB y with
    | true =>
      have HE := Lib.hid (show R = 29 by rw [HR.out]; simp [dim, lp, hl])
      go_enter Tryd.func43, Tryd.ntmps43
      go_wp2_with fail
      refine (long_any y _ h0).mono ?_
      rintro e w1 ⟨rfl, rfl⟩
      go_wp2_with fail
      go_ret
      exact ⟨by rw [HE.out]; rfl, rfl⟩
    | false =>
      have HE := Lib.hid (show R = 28 by rw [HR.out]; simp [dim, lp, hl])
      go_enter Tryd.func43, Tryd.ntmps43
      go_wp2_with fail
      refine (long_any y _ h0).mono ?_
      rintro e w1 ⟨rfl, rfl⟩
      go_wp2_with fail
      go_ret
      exact ⟨by rw [HE.out]; rfl, rfl⟩
  · rcases hm with rfl | rfl | rfl | rfl
    · have HE := Lib.hid (show R = 30 by rw [HR.out]; rfl)
      go_enter Tryd.func43, Tryd.ntmps43
      go_wp2_with fail
      go_ret
      exact ⟨by rw [HE.out]; rfl, rfl⟩
    · have HE := Lib.hid (show R = 30 by rw [HR.out]; rfl)
      go_enter Tryd.func43, Tryd.ntmps43
      go_wp2_with fail
      go_ret
      exact ⟨by rw [HE.out]; rfl, rfl⟩
    · have HE := Lib.hid (show R = 30 by rw [HR.out]; rfl)
      go_enter Tryd.func43, Tryd.ntmps43
      go_wp2_with fail
      go_ret
      exact ⟨by rw [HE.out]; rfl, rfl⟩
    · have HE := Lib.hid (show R = 30 by rw [HR.out]; rfl)
      go_enter Tryd.func43, Tryd.ntmps43
      go_wp2_with fail
      go_ret
      exact ⟨by rw [HE.out]; rfl, rfl⟩
  · have HE := Lib.hid (show R = 31 by rw [HR.out]; simp [dim, m2, m4, m6, m9, m11])
    have q2 : (m == 2) = false := by simpa using m2
    have q4 : (m == 4) = false := by simpa using m4
    have q6 : (m == 6) = false := by simpa using m6
    have q9 : (m == 9) = false := by simpa using m9
    have q11 : (m == 11) = false := by simpa using m11
    clear m2 m4 m6 m9 m11
    go_enter Tryd.func43, Tryd.ntmps43
    go_wp2_with fail
    go_ret
    exact ⟨by rw [HE.out]; rfl, rfl⟩

set_option maxHeartbeats 1000000 in
theorem ahead_any (y : Int) (w : World) (h0 : 0 ≤ y) (h1 : y ≤ 100000) : Calls Tryd.prog 44 #[.int .i64 y] w fun e w' => e = .returned (.int .i64 (dby y)) ∧ w' = w := by
  obtain ⟨R, hR⟩ : ∃ R, R = dby y := ⟨_, rfl⟩
  rw [← hR]
  have HR := Lib.hid hR
  clear hR
  by_cases hp : 0 < y
  · have HE := Lib.hid (show R = y * 365 + ((y - 1) / 4 - (y - 1) / 100 + (y - 1) / 400 + 1) by rw [HR.out, dby_pos])
    go_enter Tryd.func44, Tryd.ntmps44
    go_wp2_with fail
    go_ret
    exact ⟨by rw [HE.out]; rfl, rfl⟩
  · obtain rfl : y = 0 := by omega
    have HE := Lib.hid (show R = 0 by rw [HR.out, dby_zero])
    go_enter Tryd.func44, Tryd.ntmps44
    go_wp2_with fail
    go_ret
    exact ⟨by rw [HE.out]; rfl, rfl⟩
end Go.Proofs.YtigopfeamjhdpaaDoor

/- Values with long parts: the program's May of them; what advanced forms yield is such. -/
import Derived.Test.YtkbblhioncecmaaDoorNtP
namespace Go.Proofs.YtkbblhioncecmaaDoor
open Go.RowKit
set_option linter.unusedSimpArgs false
set_option linter.unusedVariables false

mutual
/-- no wider or longer than what 16384 bytes may tell -/
def Sx.broad : Sx → Nat → Bool
  | .mk _ _ hi da ks, at_ => decide (60 < at_) || decide (700 < ks.length) || decide (100000 < hi.length) || decide (100000 < da.length) || Sx.broadL ks (at_ + 1)
def Sx.broadL : List Sx → Nat → Bool
  | [], _ => false
  | k :: r, at_ => k.broad at_ || Sx.broadL r at_
end
theorem Sx.broadL_yes {ks : List Sx} {k : Sx} {m : Nat} (h : k ∈ ks) (hk : k.broad m = true) : Sx.broadL ks m = true := by
  induction ks with
  | nil => cases h
  | cons a r ih => rcases List.mem_cons.1 h with rfl | h
                   · simp [Sx.broadL, hk]
                   · simp [Sx.broadL, ih h]
theorem broad_def (l h : Bool) (hi da : List UInt8) (ks : List Sx) (m : Nat) : (Sx.mk l h hi da ks).broad m = (decide (60 < m) || decide (700 < ks.length) || decide (100000 < hi.length) || decide (100000 < da.length) || Sx.broadL ks (m + 1)) := by simp only [Sx.broad]
theorem broad_no {s : Sx} : ∀ {m : Nat}, s.broad m = false → m ≤ 60 ∧ s.ks.length ≤ 700 ∧ s.hi.length ≤ 100000 ∧ s.da.length ≤ 100000 ∧ ∀ k ∈ s.ks, k.broad (m + 1) = false := by
  intro m h
  obtain ⟨l, hh, hi, da, ks⟩ := s
  rw [broad_def] at h
  simp only [Bool.or_eq_false_iff, decide_eq_false_iff_not] at h
  obtain ⟨⟨⟨⟨h1, h2⟩, h3⟩, h4⟩, h5⟩ := h
  refine ⟨by omega, by simp only [Sx.ks]; omega, by simp only [Sx.hi]; omega, by simp only [Sx.da]; omega, fun k hk => ?_⟩
  by_cases e : k.broad (m + 1) = true
  · rw [Sx.broadL_yes (ks := ks) hk e] at h5; cases h5
  · simpa using e
theorem deep_broad (s : Sx) : ∀ m, s.broad m = false → s.deep + m ≤ 61 := by
  induction s using Sx.ind with
  | h l hh hi da ks ih =>
    intro m h
    obtain ⟨h1, _, _, _, h2⟩ := broad_no h
    have : Sx.deepL ks ≤ 60 - m := deepL_le fun k hk => by have := ih k hk (m + 1) (h2 k hk); omega
    simp only [Sx.deep]
    split <;> omega
theorem formL_leB {ks : List Sx} (h : ∀ k ∈ ks, k.form.length ≤ 210000 * k.nodes) : (Sx.formL ks).length ≤ 210000 * Sx.nodesL ks := by
  induction ks with
  | nil => simp [Sx.formL]
  | cons a r ih => have h1 := h a List.mem_cons_self; have h2 := ih (fun k hk => h k (List.mem_cons_of_mem _ hk)); simp only [Sx.formL, Sx.nodesL, List.length_append]; omega
theorem form_broad (s : Sx) : ∀ m, s.broad m = false → s.form.length ≤ 210000 * s.nodes := by
  induction s using Sx.ind with
  | h l hh hi da ks ih =>
    intro m h
    obtain ⟨h1, _, h3, h4, h2⟩ := broad_no h
    simp only [Sx.hi, Sx.da] at h3 h4
    have := formL_leB fun k hk => ih k hk (m + 1) (h2 k hk)
    have e1 := textL_len hi (by omega)
    have e2 := textL_len da (by omega)
    rw [form_def]
    simp only [Sx.nodes]
    cases l <;> cases hh <;> simp <;> omega
set_option maxHeartbeats 8000000 in
set_option maxRecDepth 100000 in
theorem rightB_any (s : Sx) : ∀ (v : SV) (g N S d m : Nat) (w : World), Box w g 89 #[.int .i64 N, .int .i64 S] → RdI (fun k => k ≠ g) w v s → s.broad m = false → TabX (fun k => k = g) w → N ≤ 512 → S ≤ 300000 * N → d ≤ 17 →
    Calls Tryd.prog 55 #[.pointer (some ⟨g, 0, none⟩), v.val, .int .i64 d] w (RightP g (s.okR d N) (N + s.nodes) (S + s.form.length) w) := by
  induction s using Sx.ind with
  | h l hh hi da ks ih =>
  intro v g N S d m w hg hr hwd htx hN hS hd
  have HRR := Lib.hid hr
  obtain ⟨hvl, hvh, hs1, hs2, hn, hnc, hcm, K, hrow, hk⟩ := hr.parts
  obtain ⟨vl, vh, a1, n1, k1, a2, n2, k2, a3, n3, k3⟩ := v
  dsimp only at hn hnc hcm hrow hk hvl hvh hs1 hs2
  obtain rfl : vl = l := hvl
  obtain rfl : vh = hh := hvh
  replace hn : n3 = ks.length := hn
  replace hs1 : Sl w a1 n1 k1 hi := hs1
  replace hs2 : Sl w a2 n2 k2 da := hs2
  replace hk : ∀ i (hi : i < ks.length), RdI (fun k => k ≠ g) w (K i) ks[i] := hk
  obtain ⟨l1, hl1⟩ : ∃ l1, l1 = hi := ⟨_, rfl⟩
  have hn1 := hs1.1
  have hn2 := hs2.1
  have hm1 := hs1.2.1
  have hm2 := hs2.2.1
  have hx1 := hs1.2.2.1
  have hx2 := hs2.2.2.1
  have IH := Lib.hid ih
  have HK := Lib.hid hk
  have HR := Lib.hid hrow
  have HS1 := Lib.hid hs1
  have HS2 := Lib.hid hs2
  have HN1 := Lib.hid hn1
  have HN2 := Lib.hid hn2
  clear ih hk hrow hr hs1 hs2 hn1 hn2 hl1
  subst hn
  obtain ⟨hm60, _, hw1, hw2, hwk⟩ := broad_no hwd
  replace hw1 : hi.length ≤ 100000 := hw1
  replace hw2 : da.length ≤ 100000 := hw2
  have hn1 : n1 ≤ 100000 := by have := HN1.out; omega
  have hn2 : n2 ≤ 100000 := by have := HN2.out; omega
  have HWK := Lib.hid hwk
  have HTX := Lib.hid htx
  have hfw := form_broad _ m hwd
  have HFW := Lib.hid hfw
  have hgl := hg.lt
  unfold maxLen at hcm
  clear hwk hwd htx hfw hx1 hx2 hm1 hm2 hm60
  have hgne : g ≠ w.heap.size := by omega
  by_cases hmany : N = 512
  case pos =>
    have hmany' : (512 : Int) < (N : Int) + 1 := by omega
    replace hmany := Nat.le_of_eq hmany.symm
    have X0 := Box.new w 26 #[.bool vl, .bool vh, .slice a1 n1 k1, .slice a2 n2 k2, .slice a3 ks.length k3]
    have G0 := hg.alloc (.cells #[.bool vl, .bool vh, .slice a1 n1 k1, .slice a2 n2 k2, .slice a3 ks.length k3] 26)
    have B0 : But (fun k => k = g) w (w.alloc (.cells #[.bool vl, .bool vh, .slice a1 n1 k1, .slice a2 n2 k2, .slice a3 ks.length k3] 26)) := (But.refl (fun k => k = g) w).alloc _
    show Calls _ _ #[.pointer (some ⟨g, 0, none⟩), .agg #[.bool vl, .bool vh, .slice a1 n1 k1, .slice a2 n2 k2, .slice a3 ks.length k3], .int .i64 d] _ _
    go_enter Tryd.func55, Tryd.ntmps55
    go_upto_region 1 with fail
    change Code.wp _ _ _ _ (w.alloc (.cells #[.bool vl, .bool vh, .slice a1 n1 k1, .slice a2 n2 k2, .slice a3 ks.length k3] 26))
    generalize (w.alloc (.cells #[.bool vl, .bool vh, .slice a1 n1 k1, .slice a2 n2 k2, .slice a3 ks.length k3] 26)) = v0 at *
    have c0 := G0.cell 0 rfl
    have f0 := G0.frozen 0
    have e1 : IntKind.i64.wrap ((N : Int) + 1) = (N : Int) + 1 := IntWalk.i64_in _ ⟨by omega, by omega⟩
    go_upto_region 2 with fail
    have X1 := X0.far ⟨g, 0, none⟩ (.int .i64 ((N : Int) + 1)) (Ne.symm hgne)
    have G1 := G0.set 0 (.int .i64 ((N : Int) + 1))
    have B1 := B0.setCell (p := ⟨g, 0, none⟩) (.inl rfl) (.int .i64 ((N : Int) + 1))
    change Code.wp _ _ _ _ (v0.setCell ⟨g, 0, none⟩ (.int .i64 ((N : Int) + 1)))
    clear X0 G0 B0 c0 f0 e1 hg
    generalize (v0.setCell ⟨g, 0, none⟩ (.int .i64 ((N : Int) + 1))) = v1 at *
    replace G1 : Box v1 g 89 #[.int .i64 ((N : Int) + 1), .int .i64 S] := G1
    have c0 := G1.cell 0 rfl
    go_wp2_with fail
    go_ret
    exact ⟨N + 1, S, by rw [okR_many (by omega)]; rfl, by have := G1; rwa [show ((N + 1 : Nat) : Int) = (N : Int) + 1 by omega], (fun h => by rw [okR_many (by omega)] at h; cases h), B1⟩
  replace hmany : N < 512 := by omega
  have hmany' : ¬ (512 : Int) < (N : Int) + 1 := by omega
  cases vl with
  | false =>
    cases vh with
    | false =>
      have X0 := Box.new w 26 #[.bool false, .bool false, .slice a1 n1 k1, .slice a2 n2 k2, .slice a3 ks.length k3]
      have G0 := hg.alloc (.cells #[.bool false, .bool false, .slice a1 n1 k1, .slice a2 n2 k2, .slice a3 ks.length k3] 26)
      have B0 : But (fun k => k = g) w (w.alloc (.cells #[.bool false, .bool false, .slice a1 n1 k1, .slice a2 n2 k2, .slice a3 ks.length k3] 26)) := (But.refl (fun k => k = g) w).alloc _
      show Calls _ _ #[.pointer (some ⟨g, 0, none⟩), .agg #[.bool false, .bool false, .slice a1 n1 k1, .slice a2 n2 k2, .slice a3 ks.length k3], .int .i64 d] _ _
      go_enter Tryd.func55, Tryd.ntmps55
      go_upto_region 1 with fail
      change Code.wp _ _ _ _ (w.alloc (.cells #[.bool false, .bool false, .slice a1 n1 k1, .slice a2 n2 k2, .slice a3 ks.length k3] 26))
      generalize (w.alloc (.cells #[.bool false, .bool false, .slice a1 n1 k1, .slice a2 n2 k2, .slice a3 ks.length k3] 26)) = v0 at *
      have c0 := G0.cell 0 rfl
      have f0 := G0.frozen 0
      have e1 : IntKind.i64.wrap ((N : Int) + 1) = (N : Int) + 1 := IntWalk.i64_in _ ⟨by omega, by omega⟩
      go_upto_region 2 with fail
      have X1 := X0.far ⟨g, 0, none⟩ (.int .i64 ((N : Int) + 1)) (Ne.symm hgne)
      have G1 := G0.set 0 (.int .i64 ((N : Int) + 1))
      have B1 := B0.setCell (p := ⟨g, 0, none⟩) (.inl rfl) (.int .i64 ((N : Int) + 1))
      change Code.wp _ _ _ _ (v0.setCell ⟨g, 0, none⟩ (.int .i64 ((N : Int) + 1)))
      clear X0 G0 B0 c0 f0 e1 hg
      generalize (v0.setCell ⟨g, 0, none⟩ (.int .i64 ((N : Int) + 1))) = v1 at *
      replace G1 : Box v1 g 89 #[.int .i64 ((N : Int) + 1), .int .i64 S] := G1
      have X1' := X1
      have c0 := G1.cell 0 rfl
      have l0 := X1.cell 0 rfl
      have l1 := X1.cell 1 rfl
      go_upto_region 8 with fail
      clear c0 l0 l1 X1'
      replace G1 : Box v1 g 89 #[.int .i64 ((N + 1 : Nat) : Int), .int .i64 S] := by rw [show ((N + 1 : Nat) : Int) = (N : Int) + 1 by omega]; exact G1
      have cc := X1.cell 3 rfl
      go_wp2_with fail
      refine (cbytes_any g (N + 1) (S) _ n2 _ da v1 G1 (by omega) (by omega) HN2.out (HTX.out _ B1)).mono ?_
      rintro e v2 ⟨rfl, G2, b2⟩
      have X2 := b2.box X1 (by omega)
      have B2 := B1.trans b2 (fun k hk => .inl hk)
      clear cc X1 G1 b2
      have c4 := X2.cell 4 rfl
      have c1 := X2.cell 1 rfl
      have c2 := X2.cell 2 rfl
      by_cases hk0 : ks.length = 0
      case neg =>
        have hk0' : ((ks.length : Int) == 0) = false := beq_eq_false_iff_ne.2 (by omega)
        have HU : Hid ((Sx.mk false false hi da ks).okR d N = false) := Lib.hid (okR_unclean (by rw [clean_def, headOk5 _ _ _ (by omega)]; rfl))
        go_wp2_with fail
        go_ret
        exact ⟨N + 1, S + (textL da).length, by rw [HU.out]; rfl, G2, (fun h => by rw [HU.out] at h; cases h), B2⟩
      have hks : ks = [] := List.eq_nil_of_length_eq_zero hk0
      subst hks
      by_cases h1 : n1 = 0
      · subst h1
        have HU : Hid ((Sx.mk false false hi da []).okR d N = true) := Lib.hid (okR_atom hmany hd (headOk8 _ (by have := HN1.out; omega) rfl))
        go_wp2_with fail
        go_ret
        exact ⟨N + 1, S + (textL da).length, by rw [HU.out]; rfl, G2, (fun _ => ⟨by simp [Sx.nodes, Sx.nodesL], by rw [form_def]; simp; try omega⟩), B2⟩
      · have h1' : ((n1 : Int) == 0) = false := beq_eq_false_iff_ne.2 (by omega)
        have HU : Hid ((Sx.mk false false hi da []).okR d N = false) := Lib.hid (okR_unclean (by rw [clean_def, headOk7 _ _ (by have := HN1.out; omega)]; rfl))
        go_wp2_with fail
        go_ret
        exact ⟨N + 1, S + (textL da).length, by rw [HU.out]; rfl, G2, (fun h => by rw [HU.out] at h; cases h), B2⟩
    | true =>
      have X0 := Box.new w 26 #[.bool false, .bool true, .slice a1 n1 k1, .slice a2 n2 k2, .slice a3 ks.length k3]
      have G0 := hg.alloc (.cells #[.bool false, .bool true, .slice a1 n1 k1, .slice a2 n2 k2, .slice a3 ks.length k3] 26)
      have B0 : But (fun k => k = g) w (w.alloc (.cells #[.bool false, .bool true, .slice a1 n1 k1, .slice a2 n2 k2, .slice a3 ks.length k3] 26)) := (But.refl (fun k => k = g) w).alloc _
      show Calls _ _ #[.pointer (some ⟨g, 0, none⟩), .agg #[.bool false, .bool true, .slice a1 n1 k1, .slice a2 n2 k2, .slice a3 ks.length k3], .int .i64 d] _ _
      go_enter Tryd.func55, Tryd.ntmps55
      go_upto_region 1 with fail
      change Code.wp _ _ _ _ (w.alloc (.cells #[.bool false, .bool true, .slice a1 n1 k1, .slice a2 n2 k2, .slice a3 ks.length k3] 26))
      generalize (w.alloc (.cells #[.bool false, .bool true, .slice a1 n1 k1, .slice a2 n2 k2, .slice a3 ks.length k3] 26)) = v0 at *
      have c0 := G0.cell 0 rfl
      have f0 := G0.frozen 0
      have e1 : IntKind.i64.wrap ((N : Int) + 1) = (N : Int) + 1 := IntWalk.i64_in _ ⟨by omega, by omega⟩
      go_upto_region 2 with fail
      have X1 := X0.far ⟨g, 0, none⟩ (.int .i64 ((N : Int) + 1)) (Ne.symm hgne)
      have G1 := G0.set 0 (.int .i64 ((N : Int) + 1))
      have B1 := B0.setCell (p := ⟨g, 0, none⟩) (.inl rfl) (.int .i64 ((N : Int) + 1))
      change Code.wp _ _ _ _ (v0.setCell ⟨g, 0, none⟩ (.int .i64 ((N : Int) + 1)))
      clear X0 G0 B0 c0 f0 e1 hg
      generalize (v0.setCell ⟨g, 0, none⟩ (.int .i64 ((N : Int) + 1))) = v1 at *
      replace G1 : Box v1 g 89 #[.int .i64 ((N : Int) + 1), .int .i64 S] := G1
      have c0 := G1.cell 0 rfl
      have c1 := G1.cell 1 rfl
      have f1 := G1.frozen 1
      have l0 := X1.cell 0 rfl
      have l1 := X1.cell 1 rfl
      have e2 : IntKind.i64.wrap ((S : Int) + 2) = (S : Int) + 2 := IntWalk.i64_in _ ⟨by omega, by omega⟩
      go_upto_region 7 with fail
      have X2 := X1.far ⟨g, 1, none⟩ (.int .i64 ((S : Int) + 2)) (Ne.symm hgne)
      have G2 := G1.set 1 (.int .i64 ((S : Int) + 2))
      have B2 := B1.setCell (p := ⟨g, 1, none⟩) (.inl rfl) (.int .i64 ((S : Int) + 2))
      change Code.wp _ _ _ _ (v1.setCell ⟨g, 1, none⟩ (.int .i64 ((S : Int) + 2)))
      clear X1 G1 B1 c0 c1 f1 l0 l1 e2
      generalize (v1.setCell ⟨g, 1, none⟩ (.int .i64 ((S : Int) + 2))) = v2 at *
      replace G2 : Box v2 g 89 #[.int .i64 ((N + 1 : Nat) : Int), .int .i64 ((S + 2 : Nat) : Int)] := by rw [show ((N + 1 : Nat) : Int) = (N : Int) + 1 by omega, show ((S + 2 : Nat) : Int) = (S : Int) + 2 by omega]; exact G2
      have ht1 := textL_len hi (by omega)
      have cc := X2.cell 2 rfl
      go_wp2_with fail
      refine (cbytes_any g (N + 1) (S + 2) _ n1 _ hi v2 G2 (by omega) (by omega) HN1.out (HTX.out _ B2)).mono ?_
      rintro e v3 ⟨rfl, G3, b3⟩
      have X3 := b3.box X2 (by omega)
      have B3 := B2.trans b3 (fun k hk => .inl hk)
      clear cc X2 G2 b3
      have cc := X3.cell 3 rfl
      go_wp2_with fail
      refine (cbytes_any g (N + 1) (S + 2 + (textL hi).length) _ n2 _ da v3 G3 (by omega) (by omega) HN2.out (HTX.out _ B3)).mono ?_
      rintro e v4 ⟨rfl, G4, b4⟩
      have X4 := b4.box X3 (by omega)
      have B4 := B3.trans b4 (fun k hk => .inl hk)
      clear cc X3 G3 b4
      have c4 := X4.cell 4 rfl
      have c1 := X4.cell 1 rfl
      have c2 := X4.cell 2 rfl
      by_cases hk0 : ks.length = 0
      case neg =>
        have hk0' : ((ks.length : Int) == 0) = false := beq_eq_false_iff_ne.2 (by omega)
        have HU : Hid ((Sx.mk false true hi da ks).okR d N = false) := Lib.hid (okR_unclean (by rw [clean_def, headOk5 _ _ _ (by omega)]; rfl))
        go_wp2_with fail
        go_ret
        exact ⟨N + 1, S + 2 + (textL hi).length + (textL da).length, by rw [HU.out]; rfl, G4, (fun h => by rw [HU.out] at h; cases h), B4⟩
      have hks : ks = [] := List.eq_nil_of_length_eq_zero hk0
      subst hks
      have HU : Hid ((Sx.mk false true hi da []).okR d N = true) := Lib.hid (okR_atom hmany hd (headOk6 _ _ rfl))
      go_wp2_with fail
      go_ret
      exact ⟨N + 1, S + 2 + (textL hi).length + (textL da).length, by rw [HU.out]; rfl, G4, (fun _ => ⟨by simp [Sx.nodes, Sx.nodesL], by rw [form_def]; simp; try omega⟩), B4⟩
  | true =>
    by_cases hd16 : 16 < d
    case pos =>
      have hd16' : (16 : Int) < d := by omega
      have HU : Hid ((Sx.mk true vh hi da ks).okR d N = false) := Lib.hid (okR_deep hd16)
      have X0 := Box.new w 26 #[.bool true, .bool vh, .slice a1 n1 k1, .slice a2 n2 k2, .slice a3 ks.length k3]
      have G0 := hg.alloc (.cells #[.bool true, .bool vh, .slice a1 n1 k1, .slice a2 n2 k2, .slice a3 ks.length k3] 26)
      have B0 : But (fun k => k = g) w (w.alloc (.cells #[.bool true, .bool vh, .slice a1 n1 k1, .slice a2 n2 k2, .slice a3 ks.length k3] 26)) := (But.refl (fun k => k = g) w).alloc _
      show Calls _ _ #[.pointer (some ⟨g, 0, none⟩), .agg #[.bool true, .bool vh, .slice a1 n1 k1, .slice a2 n2 k2, .slice a3 ks.length k3], .int .i64 d] _ _
      go_enter Tryd.func55, Tryd.ntmps55
      go_upto_region 1 with fail
      change Code.wp _ _ _ _ (w.alloc (.cells #[.bool true, .bool vh, .slice a1 n1 k1, .slice a2 n2 k2, .slice a3 ks.length k3] 26))
      generalize (w.alloc (.cells #[.bool true, .bool vh, .slice a1 n1 k1, .slice a2 n2 k2, .slice a3 ks.length k3] 26)) = v0 at *
      have c0 := G0.cell 0 rfl
      have f0 := G0.frozen 0
      have e1 : IntKind.i64.wrap ((N : Int) + 1) = (N : Int) + 1 := IntWalk.i64_in _ ⟨by omega, by omega⟩
      go_upto_region 2 with fail
      have X1 := X0.far ⟨g, 0, none⟩ (.int .i64 ((N : Int) + 1)) (Ne.symm hgne)
      have G1 := G0.set 0 (.int .i64 ((N : Int) + 1))
      have B1 := B0.setCell (p := ⟨g, 0, none⟩) (.inl rfl) (.int .i64 ((N : Int) + 1))
      change Code.wp _ _ _ _ (v0.setCell ⟨g, 0, none⟩ (.int .i64 ((N : Int) + 1)))
      clear X0 G0 B0 c0 f0 e1 hg
      generalize (v0.setCell ⟨g, 0, none⟩ (.int .i64 ((N : Int) + 1))) = v1 at *
      replace G1 : Box v1 g 89 #[.int .i64 ((N : Int) + 1), .int .i64 S] := G1
      have c0 := G1.cell 0 rfl
      have l0 := X1.cell 0 rfl
      have l1 := X1.cell 1 rfl
      have l2 := X1.cell 2 rfl
      have l3 := X1.cell 3 rfl
      go_wp2_with fail
      go_ret
      exact ⟨N + 1, S, by rw [HU.out]; rfl, by have := G1; rwa [show ((N + 1 : Nat) : Int) = (N : Int) + 1 by omega], (fun h => by rw [HU.out] at h; cases h), B1⟩
    have hd16' : ¬ (16 : Int) < d := by omega
    cases vh with
    | true =>
      have HU : Hid ((Sx.mk true true hi da ks).okR d N = false) := Lib.hid (okR_unclean (by rw [clean_def, headOk1]; rfl))
      have X0 := Box.new w 26 #[.bool true, .bool true, .slice a1 n1 k1, .slice a2 n2 k2, .slice a3 ks.length k3]
      have G0 := hg.alloc (.cells #[.bool true, .bool true, .slice a1 n1 k1, .slice a2 n2 k2, .slice a3 ks.length k3] 26)
      have B0 : But (fun k => k = g) w (w.alloc (.cells #[.bool true, .bool true, .slice a1 n1 k1, .slice a2 n2 k2, .slice a3 ks.length k3] 26)) := (But.refl (fun k => k = g) w).alloc _
      show Calls _ _ #[.pointer (some ⟨g, 0, none⟩), .agg #[.bool true, .bool true, .slice a1 n1 k1, .slice a2 n2 k2, .slice a3 ks.length k3], .int .i64 d] _ _
      go_enter Tryd.func55, Tryd.ntmps55
      go_upto_region 1 with fail
      change Code.wp _ _ _ _ (w.alloc (.cells #[.bool true, .bool true, .slice a1 n1 k1, .slice a2 n2 k2, .slice a3 ks.length k3] 26))
      generalize (w.alloc (.cells #[.bool true, .bool true, .slice a1 n1 k1, .slice a2 n2 k2, .slice a3 ks.length k3] 26)) = v0 at *
      have c0 := G0.cell 0 rfl
      have f0 := G0.frozen 0
      have e1 : IntKind.i64.wrap ((N : Int) + 1) = (N : Int) + 1 := IntWalk.i64_in _ ⟨by omega, by omega⟩
      go_upto_region 2 with fail
      have X1 := X0.far ⟨g, 0, none⟩ (.int .i64 ((N : Int) + 1)) (Ne.symm hgne)
      have G1 := G0.set 0 (.int .i64 ((N : Int) + 1))
      have B1 := B0.setCell (p := ⟨g, 0, none⟩) (.inl rfl) (.int .i64 ((N : Int) + 1))
      change Code.wp _ _ _ _ (v0.setCell ⟨g, 0, none⟩ (.int .i64 ((N : Int) + 1)))
      clear X0 G0 B0 c0 f0 e1 hg
      generalize (v0.setCell ⟨g, 0, none⟩ (.int .i64 ((N : Int) + 1))) = v1 at *
      replace G1 : Box v1 g 89 #[.int .i64 ((N : Int) + 1), .int .i64 S] := G1
      have c0 := G1.cell 0 rfl
      have l0 := X1.cell 0 rfl
      have l1 := X1.cell 1 rfl
      have l2 := X1.cell 2 rfl
      have l3 := X1.cell 3 rfl
      go_wp2_with fail
      go_ret
      exact ⟨N + 1, S, by rw [HU.out]; rfl, by have := G1; rwa [show ((N + 1 : Nat) : Int) = (N : Int) + 1 by omega], (fun h => by rw [HU.out] at h; cases h), B1⟩
    | false =>
    by_cases h12 : 0 < n1 + n2
    case pos =>
      have h12' : 0 < (n1 : Int) + n2 := by omega
      have h12e : IntKind.i64.wrap ((n1 : Int) + n2) = (n1 : Int) + n2 := IntWalk.i64_in _ ⟨by omega, by omega⟩
      have HU : Hid ((Sx.mk true false hi da ks).okR d N = false) := Lib.hid (okR_unclean (by
        rw [clean_def]
        have e1 := HN1.out
        have e2 := HN2.out
        rcases Nat.lt_or_ge 0 hi.length with h | h
        · rw [headOk2 _ _ h]; rfl
        · rw [headOk3 _ _ (by omega)]; rfl))
      have X0 := Box.new w 26 #[.bool true, .bool false, .slice a1 n1 k1, .slice a2 n2 k2, .slice a3 ks.length k3]
      have G0 := hg.alloc (.cells #[.bool true, .bool false, .slice a1 n1 k1, .slice a2 n2 k2, .slice a3 ks.length k3] 26)
      have B0 : But (fun k => k = g) w (w.alloc (.cells #[.bool true, .bool false, .slice a1 n1 k1, .slice a2 n2 k2, .slice a3 ks.length k3] 26)) := (But.refl (fun k => k = g) w).alloc _
      show Calls _ _ #[.pointer (some ⟨g, 0, none⟩), .agg #[.bool true, .bool false, .slice a1 n1 k1, .slice a2 n2 k2, .slice a3 ks.length k3], .int .i64 d] _ _
      go_enter Tryd.func55, Tryd.ntmps55
      go_upto_region 1 with fail
      change Code.wp _ _ _ _ (w.alloc (.cells #[.bool true, .bool false, .slice a1 n1 k1, .slice a2 n2 k2, .slice a3 ks.length k3] 26))
      generalize (w.alloc (.cells #[.bool true, .bool false, .slice a1 n1 k1, .slice a2 n2 k2, .slice a3 ks.length k3] 26)) = v0 at *
      have c0 := G0.cell 0 rfl
      have f0 := G0.frozen 0
      have e1 : IntKind.i64.wrap ((N : Int) + 1) = (N : Int) + 1 := IntWalk.i64_in _ ⟨by omega, by omega⟩
      go_upto_region 2 with fail
      have X1 := X0.far ⟨g, 0, none⟩ (.int .i64 ((N : Int) + 1)) (Ne.symm hgne)
      have G1 := G0.set 0 (.int .i64 ((N : Int) + 1))
      have B1 := B0.setCell (p := ⟨g, 0, none⟩) (.inl rfl) (.int .i64 ((N : Int) + 1))
      change Code.wp _ _ _ _ (v0.setCell ⟨g, 0, none⟩ (.int .i64 ((N : Int) + 1)))
      clear X0 G0 B0 c0 f0 e1 hg
      generalize (v0.setCell ⟨g, 0, none⟩ (.int .i64 ((N : Int) + 1))) = v1 at *
      replace G1 : Box v1 g 89 #[.int .i64 ((N : Int) + 1), .int .i64 S] := G1
      have c0 := G1.cell 0 rfl
      have l0 := X1.cell 0 rfl
      have l1 := X1.cell 1 rfl
      have l2 := X1.cell 2 rfl
      have l3 := X1.cell 3 rfl
      go_wp2_with fail
      go_ret
      exact ⟨N + 1, S, by rw [HU.out]; rfl, by have := G1; rwa [show ((N + 1 : Nat) : Int) = (N : Int) + 1 by omega], (fun h => by rw [HU.out] at h; cases h), B1⟩
    obtain rfl : n1 = 0 := by omega
    obtain rfl : n2 = 0 := by omega
    have h12' : ¬ 0 < ((0 : Nat) : Int) + ((0 : Nat) : Int) := by omega
    have HH : Hid (headOk true false hi.length da.length ks.length = true) := Lib.hid (headOk4 _ (by have := HN1.out; omega) (by have := HN2.out; omega))
    have X0 := Box.new w 26 #[.bool true, .bool false, .slice a1 0 k1, .slice a2 0 k2, .slice a3 ks.length k3]
    have G0 := hg.alloc (.cells #[.bool true, .bool false, .slice a1 0 k1, .slice a2 0 k2, .slice a3 ks.length k3] 26)
    have B0 : But (fun k => k = g) w (w.alloc (.cells #[.bool true, .bool false, .slice a1 0 k1, .slice a2 0 k2, .slice a3 ks.length k3] 26)) := (But.refl (fun k => k = g) w).alloc _
    show Calls _ _ #[.pointer (some ⟨g, 0, none⟩), .agg #[.bool true, .bool false, .slice a1 0 k1, .slice a2 0 k2, .slice a3 ks.length k3], .int .i64 d] _ _
    go_enter Tryd.func55, Tryd.ntmps55
    go_upto_region 1 with fail
    change Code.wp _ _ _ _ (w.alloc (.cells #[.bool true, .bool false, .slice a1 0 k1, .slice a2 0 k2, .slice a3 ks.length k3] 26))
    generalize (w.alloc (.cells #[.bool true, .bool false, .slice a1 0 k1, .slice a2 0 k2, .slice a3 ks.length k3] 26)) = v0 at *
    have c0 := G0.cell 0 rfl
    have f0 := G0.frozen 0
    have e1 : IntKind.i64.wrap ((N : Int) + 1) = (N : Int) + 1 := IntWalk.i64_in _ ⟨by omega, by omega⟩
    go_upto_region 2 with fail
    have X1 := X0.far ⟨g, 0, none⟩ (.int .i64 ((N : Int) + 1)) (Ne.symm hgne)
    have G1 := G0.set 0 (.int .i64 ((N : Int) + 1))
    have B1 := B0.setCell (p := ⟨g, 0, none⟩) (.inl rfl) (.int .i64 ((N : Int) + 1))
    change Code.wp _ _ _ _ (v0.setCell ⟨g, 0, none⟩ (.int .i64 ((N : Int) + 1)))
    clear X0 G0 B0 c0 f0 e1 hg
    generalize (v0.setCell ⟨g, 0, none⟩ (.int .i64 ((N : Int) + 1))) = v1 at *
    replace G1 : Box v1 g 89 #[.int .i64 ((N : Int) + 1), .int .i64 S] := G1
    have c0 := G1.cell 0 rfl
    have c1 := G1.cell 1 rfl
    have f1 := G1.frozen 1
    have l0 := X1.cell 0 rfl
    have l1 := X1.cell 1 rfl
    have l2 := X1.cell 2 rfl
    have l3 := X1.cell 3 rfl
    have e2 : IntKind.i64.wrap ((S : Int) + 2) = (S : Int) + 2 := IntWalk.i64_in _ ⟨by omega, by omega⟩
    go_upto_region 13 with fail
    have X2 := X1.far ⟨g, 1, none⟩ (.int .i64 ((S : Int) + 2)) (Ne.symm hgne)
    have G2 := G1.set 1 (.int .i64 ((S : Int) + 2))
    have B2 := B1.setCell (p := ⟨g, 1, none⟩) (.inl rfl) (.int .i64 ((S : Int) + 2))
    change Code.wp _ _ _ _ (v1.setCell ⟨g, 1, none⟩ (.int .i64 ((S : Int) + 2)))
    clear X1 G1 B1 c0 c1 f1 l0 l1 l2 l3 e2
    generalize (v1.setCell ⟨g, 1, none⟩ (.int .i64 ((S : Int) + 2))) = v2 at *
    replace G2 : Box v2 g 89 #[.int .i64 ((N + 1 : Nat) : Int), .int .i64 ((S + 2 : Nat) : Int)] := by rw [show ((N + 1 : Nat) : Int) = (N : Int) + 1 by omega, show ((S + 2 : Nat) : Int) = (S : Int) + 2 by omega]; exact G2
    have l4 := X2.cell 4 rfl
    go_wp2_with fail
    go_loopw [8, 81] (fun _ k wr => ∃ n : Nat, n ≤ ks.length ∧ k = .int .i64 n ∧ Hid (Sx.cleanL (ks.take n) = true ∧ Sx.deepL (ks.take n) + d ≤ 16) ∧ N + 1 + Sx.nodesL (ks.take n) ≤ 512 ∧ S + 2 + (Sx.formL (ks.take n)).length ≤ 300000 * (N + 1 + Sx.nodesL (ks.take n)) ∧
      Box wr g 89 #[.int .i64 ((N + 1 + Sx.nodesL (ks.take n) : Nat) : Int), .int .i64 ((S + 2 + (Sx.formL (ks.take n)).length : Nat) : Int)] ∧ Box wr w.heap.size 26 #[.bool true, .bool false, .slice a1 0 k1, .slice a2 0 k2, .slice a3 ks.length k3] ∧ But (fun k => k = g) w wr) (fun _ k _ => ks.length - (intOf k).toNat)
    case atStart => exact ⟨0, Nat.zero_le _, rfl, Lib.hid ⟨rfl, by simp [Sx.deepL]; omega⟩, by simp [Sx.nodesL]; omega, by simp [Sx.nodesL, Sx.formL]; omega, by simpa [Sx.nodesL, Sx.formL] using G2, X2, B2⟩
    case round =>
      obtain ⟨n, hnl, rfl, HC, hN2, hS2, G, X, B⟩ := hrel
      clear X2 G2 B2 l4
      have l4 := X.cell 4 rfl
      by_cases hlt : n < ks.length
      · obtain ⟨b, o, rfl, hld⟩ := (HR.out.but B HRR.out.inb.2.2 (fun k h => h)).range hlt
        have HL := Lib.hid hld
        have hrd := (HK.out n hlt).but B (fun k h => h)
        have hks := HWK.out ks[n] (List.getElem_mem hlt)
        have hfk := form_broad _ _ hks
        have HRd := Lib.hid hrd
        have HKS := Lib.hid hks
        have htab := Lib.hid (HTX.out.but B)
        have ewr : IntKind.i64.wrap ((d : Int) + 1) = (d : Int) + 1 := IntWalk.i64_in _ ⟨by omega, by omega⟩
        obtain ⟨ck, hck⟩ : ∃ ck, ck = ks[n].okR (d + 1) (N + 1 + Sx.nodesL (ks.take n)) := ⟨_, rfl⟩
        have HCK := Lib.hid hck
        have IH2 : Hid (∀ w, Box w g 89 #[.int .i64 ((N + 1 + Sx.nodesL (ks.take n) : Nat) : Int), .int .i64 ((S + 2 + (Sx.formL (ks.take n)).length : Nat) : Int)] → RdI (fun k => k ≠ g) w (K n) ks[n] → TabX (fun k => k = g) w →
            Calls Tryd.prog 55 #[.pointer (some ⟨g, 0, none⟩), (K n).val, .int .i64 ((d : Int) + 1)] w (RightP g ck (N + 1 + Sx.nodesL (ks.take n) + ks[n].nodes) (S + 2 + (Sx.formL (ks.take n)).length + ks[n].form.length) w)) :=
          Lib.hid fun w h1 h2 h3 => by
            have := IH.out _ (List.getElem_mem hlt) (K n) g (N + 1 + Sx.nodesL (ks.take n)) (S + 2 + (Sx.formL (ks.take n)).length) (d + 1) (m + 1) w h1 h2 HKS.out h3 hN2 hS2 (by omega)
            rw [← hck] at this
            exact this
        clear hrd hld hks hck
        go_upto_region 16 with first | (refine wpList_load_sv rfl _ rfl b _ rfl _ HL.out ?_) | (refine wpList_store_box (cells := (K n).cells) rfl 26 _ _ rfl (Box.new _ _ _) (by rfl) (by rfl) rfl (by kernel_rfl) (SV.one _) ?_; intro u1 Y1 st1)
        have hbu : Below wr.heap.size wr u1 := st1.below wr.heap.size wr (Nat.le_refl _) ((Below.refl _ _).alloc (Nat.le_refl _) _)
        have hwz := B.size
        have hgz := G.lt
        have B' : But (fun k => k = g) w u1 := (B.alloc _).trans (But.ofStored st1 (st1.below 0 _ (Nat.zero_le _) (Below.refl 0 _))) (fun k hk => .inr (by omega))
        have G' := G.after hbu
        have X' := X.after hbu
        have HRd' := Lib.hid (HRd.out.after hbu)
        have htab' := Lib.hid (htab.out.but (But.ofBelow hbu))
        have HY := Lib.hid Y1
        have hzu : wr.heap.size < u1.heap.size := Y1.lt
        clear st1 hbu B G X HRd htab HL Y1 l4
        go_wp2_with (refine wpList_load_box rfl 26 _ rfl HY.out (by rfl) Tryd.underlying26 rfl (by kernel_rfl) ?_)
        refine (IH2.out _ G' HRd'.out htab'.out).mono ?_
        rintro e v3 ⟨N3, S3, rfl, G3, hok, b3⟩
        have X3 := b3.box X' (by omega)
        have B3 := B'.trans b3 (fun k hk => .inl hk)
        have HOK := Lib.hid hok
        clear hok b3 G' X' B'
        cases ck with
        | false =>
          have HU : Hid ((Sx.mk true false hi da ks).okR d N = false) := Lib.hid (okR_kid n hlt HCK.out.symm)
          go_wp2_with fail
          go_ret
          exact ⟨N3, S3, by rw [HU.out]; rfl, G3, (fun h => by rw [HU.out] at h; cases h), B3⟩
        | true =>
          have hpp := okR_parts HCK.out.symm
          have HPP := Lib.hid hpp
          have hp2 := hpp.2.1
          have HSN := Lib.hid (Sx.nodesL_snoc ks n hlt)
          have HSF := Lib.hid (Sx.formL_snoc ks n hlt)
          have hfk' := hfk
          clear hpp
          go_wp2_with fail
          go_roundw
          case rel =>
            obtain ⟨rfl, rfl⟩ := HOK.out (by trivial)
            refine ⟨n + 1, by omega, by go_num, Lib.hid ⟨by rw [Sx.cleanL_snoc ks n hlt, HC.out.1, HPP.out.1]; rfl, by rw [Sx.deepL_snoc ks n hlt]; have := HC.out.2; have := HPP.out.2.2; omega⟩, by rw [HSN.out]; omega, by rw [HSN.out, HSF.out, List.length_append]; omega, ?_, X3, B3⟩
            rw [HSN.out, HSF.out, List.length_append, ← Nat.add_assoc, ← Nat.add_assoc]
            exact G3
          case measure => simp [intOf]; omega
      · have hnn : n = ks.length := by omega
        subst hnn
        have hC := HC.out
        rw [List.take_length] at hC hN2 G
        have HU : Hid ((Sx.mk true false hi da ks).okR d N = true) := Lib.hid (okR_list (by omega) hmany HH.out ⟨hC.1, hC.2, hN2⟩)
        have G' := Lib.hid G
        clear hC G HC
        go_wp2_with fail
        go_ret
        refine ⟨_, _, by rw [HU.out]; rfl, G'.out, fun _ => ⟨by simp only [Sx.nodes]; omega, ?_⟩, B⟩
        rw [form_def, if_pos rfl]
        simp only [List.length_cons, List.length_append, List.length_nil]
        omega

set_option maxHeartbeats 2000000 in
set_option maxRecDepth 100000 in
theorem mayB_any (s : Sx) (v : SV) (w : World) (hr : Rd w v s) (m : Nat) (hw : s.broad m = false) (ht : Tab w) : Calls Tryd.prog 30 #[v.val] w fun e w' => e = .returned (.bool s.may) ∧ Below w.heap.size w w' := by
  obtain ⟨vl, vh, a1, n1, k1, a2, n2, k2, a3, n3, k3⟩ := v
  have B0 : Below w.heap.size w ((w.alloc (.cells #[.bool vl, .bool vh, .slice a1 n1 k1, .slice a2 n2 k2, .slice a3 n3 k3] 26)).alloc (.cells #[.int .i64 0, .int .i64 0] 89)) := ((Below.refl _ _).alloc (Nat.le_refl _) _).alloc (by simp) _
  have X0 : Box ((w.alloc (.cells #[.bool vl, .bool vh, .slice a1 n1 k1, .slice a2 n2 k2, .slice a3 n3 k3] 26)).alloc (.cells #[.int .i64 0, .int .i64 0] 89)) w.heap.size 26 #[.bool vl, .bool vh, .slice a1 n1 k1, .slice a2 n2 k2, .slice a3 n3 k3] := (Box.new _ _ _).alloc _
  have G0 : Box ((w.alloc (.cells #[.bool vl, .bool vh, .slice a1 n1 k1, .slice a2 n2 k2, .slice a3 n3 k3] 26)).alloc (.cells #[.int .i64 0, .int .i64 0] 89)) (w.heap.size + 1) 89 #[.int .i64 0, .int .i64 0] := by
    have := Box.new (w.alloc (.cells #[.bool vl, .bool vh, .slice a1 n1 k1, .slice a2 n2 k2, .slice a3 n3 k3] 26)) 89 #[.int .i64 0, .int .i64 0]
    simpa using this
  have hrd := (hr.there.mono (ok' := fun k => k ≠ w.heap.size + 1) (fun b hb => by have := hb.2; omega)).after B0
  have htx : TabX (fun k => k = w.heap.size + 1) ((w.alloc (.cells #[.bool vl, .bool vh, .slice a1 n1 k1, .slice a2 n2 k2, .slice a3 n3 k3] 26)).alloc (.cells #[.int .i64 0, .int .i64 0] 89)) := TabX.new ht B0 (fun k hk => by omega)
  obtain ⟨ok, hok⟩ : ∃ ok, ok = s.okR 1 0 := ⟨_, rfl⟩
  have HM : Hid (s.may = (ok && decide (s.form.length ≤ 4096))) := Lib.hid (by rw [hok]; exact may_okR s)
  have CALL := Lib.hid (rightB_any s ⟨vl, vh, a1, n1, k1, a2, n2, k2, a3, n3, k3⟩ (w.heap.size + 1) 0 0 1 m ((w.alloc (.cells #[.bool vl, .bool vh, .slice a1 n1 k1, .slice a2 n2 k2, .slice a3 n3 k3] 26)).alloc (.cells #[.int .i64 0, .int .i64 0] 89)) G0 hrd hw htx (by omega) (by omega) (by omega))
  rw [← hok, Nat.zero_add, Nat.zero_add] at CALL
  have HX := Lib.hid X0
  clear hrd htx hok hr ht hw X0 G0
  show Calls _ _ #[.agg #[.bool vl, .bool vh, .slice a1 n1 k1, .slice a2 n2 k2, .slice a3 n3 k3]] _ _
  go_enter Tryd.func30, Tryd.ntmps30
  go_upto_region 2 with fail
  change Code.wp _ _ _ _ ((w.alloc (.cells #[.bool vl, .bool vh, .slice a1 n1 k1, .slice a2 n2 k2, .slice a3 n3 k3] 26)).alloc (.cells #[.int .i64 0, .int .i64 0] 89))
  have hz : w.heap.size ≤ ((w.alloc (.cells #[.bool vl, .bool vh, .slice a1 n1 k1, .slice a2 n2 k2, .slice a3 n3 k3] 26)).alloc (.cells #[.int .i64 0, .int .i64 0] 89)).heap.size := by simp; omega
  generalize ((w.alloc (.cells #[.bool vl, .bool vh, .slice a1 n1 k1, .slice a2 n2 k2, .slice a3 n3 k3] 26)).alloc (.cells #[.int .i64 0, .int .i64 0] 89)) = v0 at *
  go_wp2_with (refine wpList_load_box rfl 26 _ rfl HX.out (by rfl) Tryd.underlying26 rfl (by kernel_rfl) ?_)
  refine CALL.out.mono ?_
  rintro e v1 ⟨N2, S2, rfl, G1, hN, b1⟩
  have HB := But.after B0 b1 hz (fun k hk => by omega)
  have HOK := Lib.hid hN
  have g1 := G1.cell 1 rfl
  clear hN b1 CALL
  cases ok with
  | false =>
    go_wp2_with fail
    go_ret
    exact ⟨by rw [HM.out]; rfl, HB⟩
  | true =>
    obtain ⟨rfl, rfl⟩ := HOK.out (by trivial)
    go_wp2_with fail
    go_ret
    exact ⟨by
      rw [HM.out]
      show Ending.returned (.bool (decide ((s.form.length : Int) ≤ 4096))) = _
      rw [show decide ((s.form.length : Int) ≤ 4096) = decide (s.form.length ≤ 4096) from decide_eq_decide.2 (by omega)]
      rfl, HB⟩


theorem broad_mk {l h : Bool} {hi da : List UInt8} {ks : List Sx} {m : Nat} (h1 : m ≤ 60) (h2 : ks.length ≤ 700) (h3 : hi.length ≤ 100000) (h4 : da.length ≤ 100000) (h5 : ∀ k ∈ ks, k.broad (m + 1) = false) : (Sx.mk l h hi da ks).broad m = false := by
  rw [broad_def, decide_eq_false (by omega), decide_eq_false (by omega), decide_eq_false (by omega), decide_eq_false (by omega)]
  have : ∀ (r : List Sx), (∀ k ∈ r, k.broad (m + 1) = false) → Sx.broadL r (m + 1) = false := by
    intro r
    induction r with
    | nil => intro _; rfl
    | cons a r ih => intro hr; simp only [Sx.broadL]; rw [hr a List.mem_cons_self, ih (fun k hk => hr k (List.mem_cons_of_mem _ hk))]; rfl
  rw [this ks h5]
  rfl
theorem unb_len : ∀ l : List UInt8, (unb l).length ≤ l.length
  | [] => by simp [unb]
  | [_] => by simp [unb]
  | [_, _] => by simp [unb]
  | [_, _, _] => by simp [unb]
  | a :: b :: c :: d :: t => by
    have := unb_len t
    have h4 : (dec4 a b c d).length ≤ 4 := by
      unfold dec4
      split <;> (try split) <;> (try split) <;> simp
      all_goals (try split) <;> simp
    simp only [unb, List.length_append, List.length_cons]
    omega
theorem unhex_len : ∀ (l b : List UInt8), unhex l = some b → b.length ≤ l.length
  | [], b, h => by simp [unhex] at h; subst h; simp
  | [_], b, h => by simp [unhex] at h
  | x :: y :: t, b, h => by
    unfold unhex at h
    split at h
    · cases hu : unhex t with
      | none => rw [hu] at h; simp at h
      | some c =>
        rw [hu] at h
        simp at h
        have := unhex_len t c hu
        subst h
        simp
        omega
    · cases h
theorem nDigs_len (base : Nat) (l : List UInt8) : ∀ k F p X, (nDigs base l k F p X).b.length ≤ 1
  | 0, F, p, X => by simp [nDigs]
  | k + 1, F, p, X => by
    unfold nDigs
    split
    · simp [BR.err]
    · split
      · split
        · exact nDigs_len base l k _ _ _
        · simp [BR.err]
      · simp [BR.err]
theorem nEsc_len (l : List UInt8) (p : Nat) : (nEsc l p).b.length ≤ 1 := by
  unfold nEsc
  split
  · simp [BR.err]
  · split
    · exact nDigs_len _ _ _ _ _ _
    · split
      · exact nDigs_len _ _ _ _ _ _
      · split <;> simp [BR.err]
theorem nQuo_len (l : List UInt8) : ∀ f p, (nQuo l f p).b.length ≤ f
  | 0, p => by simp [nQuo, BR.err]
  | f + 1, p => by
    unfold nQuo
    split
    · simp [BR.err]
    · split
      · simp
      · split
        · have := nQuo_len l f (p + 1)
          unfold BR.pre
          split
          · simp; omega
          · omega
        · split
          · have := nEsc_len l (p + 1); omega
          · have := nQuo_len l f (nEsc l (p + 1)).p
            have := nEsc_len l (p + 1)
            unfold BR.pre
            split
            · simp; omega
            · omega
theorem nPlain_len (l : List UInt8) (p : Nat) : (nPlain l p).b.length ≤ l.length + 1 := by
  unfold nPlain
  split
  · simp [BR.err]
  · split
    · unfold nLen
      dsimp only
      split
      · simp [BR.err]
      · split
        · simp [BR.err]
        · split
          · simp [BR.err]
          · split
            · simp [BR.err]
            · simp; omega
    · split
      · exact nQuo_len l _ _
      · split
        · have hl := nSome_len hexC 35 (l.drop (p + 1)) (p + 1)
          rw [List.length_drop] at hl
          unfold nHex
          dsimp only
          split
          · simp [BR.err]
          · split
            · rename_i b hb
              have := unhex_len _ _ hb
              dsimp only
              omega
            · simp [BR.err]
        · split
          · have hl := nSome_len b64C 124 (l.drop (p + 1)) (p + 1)
            rw [List.length_drop] at hl
            unfold nB64
            dsimp only
            split
            · simp [BR.err]
            · split
              · rename_i b hb
                unfold unb64 at hb
                split at hb
                · cases hb
                  have := unb_len (nSome b64C 124 (l.drop (p + 1)) (p + 1)).b
                  dsimp only
                  omega
                · cases hb
              · simp [BR.err]
          · split
            · have := (List.takeWhile_sublist (l := l.drop p) signB).length_le
              rw [List.length_drop] at this
              dsimp only
              omega
            · simp [BR.err]
/-- what is read is not broad, and has as many values as were counted -/
def NtOk (l : List UInt8) (m : Option (List Sx)) (lv n : Nat) (r : RV) : Prop :=
  match m with
  | none => r.v.broad lv = false ∧ r.n = n + r.v.nodes
  | some acc => (∀ k ∈ acc, k.broad (lv + 1) = false) → acc.length ≤ n → r.v.broad lv = false ∧ r.n + 1 + Sx.nodesL acc = n + r.v.nodes
def lvMax : Option (List Sx) → Nat | none => 17 | some _ => 16
theorem Nt_ok {l : List UInt8} {m : Option (List Sx)} {p lv n : Nat} {r : RV} (h : Nt l m p lv n r) (hl : l.length < 100000) : r.e = 0 → lv ≤ lvMax m → n ≤ 512 → p ≤ l.length → NtOk l m lv n r := by
  induction h with
  | short h1 => intro he; simp [RV.err] at he
  | bad h1 h2 => intro he; simp [RV.err] at he
  | long h1 h2 h3 => intro he; simp [RV.err] at he
  | @hint p lv n h1 h2 h3 =>
    intro he hlv hn hp
    replace hlv : lv ≤ 17 := hlv
    unfold nHint at he ⊢
    dsimp only at he ⊢
    split at he
    · rename_i h4; exact absurd he h4
    · rename_i h4
      rw [if_neg h4]
      split at he
      · simp [RV.err] at he
      · rename_i h5
        rw [if_neg h5]
        split at he
        · simp [RV.err] at he
        · rename_i h6
          rw [if_neg h6]
          split at he
          · rename_i h7; exact absurd he h7
          · rename_i h7
            rw [if_neg h7]
            exact ⟨broad_mk (by omega) (by simp) (by have := nPlain_len l (skipN l (skipN l p + 1)); omega) (by have := nPlain_len l (skipN l (skipN l (nPlain l (skipN l (skipN l p + 1))).p + 1)); omega) (by simp), by simp [Sx.nodes, Sx.nodesL]⟩
  | @atom p lv n h1 h2 h3 h4 h5 =>
    intro he hlv hn hp
    replace hlv : lv ≤ 17 := hlv
    unfold nAtom at he ⊢
    dsimp only at he ⊢
    split at he
    · rename_i h6; exact absurd he h6
    · rename_i h6
      rw [if_neg h6]
      exact ⟨broad_mk (by omega) (by simp) (by simp) (by have := nPlain_len l (skipN l p); omega) (by simp), by simp [Sx.nodes, Sx.nodesL]⟩
  | list h1 h2 h3 h4 h5 ih =>
    intro he hlv hn hp
    have := ih he h4 h3 (by omega) (by simp) (by simp)
    refine ⟨this.1, ?_⟩
    have h := this.2
    simp only [Sx.nodesL] at h
    omega
  | @close p lv n acc h1 h2 =>
    intro he hlv hn hp hk ha
    replace hlv : lv ≤ 16 := hlv
    exact ⟨broad_mk (by omega) (by omega) (by simp) (by simp) hk, by simp only [Sx.nodes]; omega⟩
  | fail h1 h2 h3 ih => intro he; exact absurd he h3
  | @more p lv n acc r r2 h1 h2 h3 h4 h5 ih1 ih2 =>
    intro he hlv hn hp hk ha
    replace hlv : lv ≤ 16 := hlv
    have hs := skipN_le hp
    have hpl := Nt_place h3 h4 (by omega)
    have hl17 : lv + 1 ≤ 17 := by omega
    have a1 := ih1 h4 hl17 hn (by omega)
    have a2 := ih2 he hlv (hpl.2.2.1 hn) (by omega) (by
      intro k hk'
      rcases List.mem_append.1 hk' with h | h
      · exact hk k h
      · simp at h; subst h; exact a1.1) (by simp; have := hpl.2.2.2; have := a1.2; have := nodes_pos r.v; omega)
    refine ⟨a2.1, ?_⟩
    have h := a2.2
    rw [Sx.nodesL_append] at h
    simp only [Sx.nodesL] at h
    have := a1.2
    omega
end Go.Proofs.YtkbblhioncecmaaDoor

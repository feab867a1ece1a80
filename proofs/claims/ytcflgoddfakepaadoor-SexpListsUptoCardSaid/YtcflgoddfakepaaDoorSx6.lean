/- The document's May: what it computes; what is not great is not long. -/
import Derived.Test.YtcflgoddfakepaaDoorSx5
namespace Go.Proofs.YtcflgoddfakepaaDoor
open Go.RowKit
set_option linter.unusedSimpArgs false
set_option linter.unusedVariables false

def Sx.may (s : Sx) : Bool := s.clean && decide (s.nodes ≤ 512) && decide (s.deep ≤ 16) && decide (s.form.length ≤ 4096)

/-- what is not wide -/
theorem wide_no {s : Sx} : ∀ {m : Nat}, s.wide m = false → m ≤ 60 ∧ s.ks.length ≤ 700 ∧ s.hi.length ≤ 5000 ∧ s.da.length ≤ 5000 ∧ ∀ k ∈ s.ks, k.wide (m + 1) = false := by
  intro m h
  obtain ⟨l, hh, hi, da, ks⟩ := s
  rw [wide_def] at h
  simp only [Bool.or_eq_false_iff, decide_eq_false_iff_not] at h
  obtain ⟨⟨⟨⟨h1, h2⟩, h3⟩, h4⟩, h5⟩ := h
  refine ⟨by omega, by simp only [Sx.ks]; omega, by simp only [Sx.hi]; omega, by simp only [Sx.da]; omega, fun k hk => ?_⟩
  by_cases e : k.wide (m + 1) = true
  · rw [Sx.wideL_yes (ks := ks) hk e] at h5; cases h5
  · simpa using e
theorem deepL_le {ks : List Sx} {n : Nat} (h : ∀ k ∈ ks, k.deep ≤ n) : Sx.deepL ks ≤ n := by
  induction ks with
  | nil => simp [Sx.deepL]
  | cons a r ih => have h1 := h a List.mem_cons_self; have h2 := ih (fun k hk => h k (List.mem_cons_of_mem _ hk)); simp only [Sx.deepL]; omega
theorem deep_wide (s : Sx) : ∀ m, s.wide m = false → s.deep + m ≤ 61 := by
  induction s using Sx.ind with
  | h l hh hi da ks ih =>
    intro m h
    obtain ⟨h1, _, _, _, h2⟩ := wide_no h
    have : Sx.deepL ks ≤ 60 - m := deepL_le fun k hk => by have := ih k hk (m + 1) (h2 k hk); omega
    simp only [Sx.deep]
    split <;> omega
theorem formL_le {ks : List Sx} (h : ∀ k ∈ ks, k.form.length ≤ 10100 * k.nodes) : (Sx.formL ks).length ≤ 10100 * Sx.nodesL ks := by
  induction ks with
  | nil => simp [Sx.formL]
  | cons a r ih => have h1 := h a List.mem_cons_self; have h2 := ih (fun k hk => h k (List.mem_cons_of_mem _ hk)); simp only [Sx.formL, Sx.nodesL, List.length_append]; omega
theorem form_wide (s : Sx) : ∀ m, s.wide m = false → s.form.length ≤ 10100 * s.nodes := by
  induction s using Sx.ind with
  | h l hh hi da ks ih =>
    intro m h
    obtain ⟨h1, _, h3, h4, h2⟩ := wide_no h
    simp only [Sx.hi, Sx.da] at h3 h4
    have := formL_le fun k hk => ih k hk (m + 1) (h2 k hk)
    have e1 := textL_len hi (by omega)
    have e2 := textL_len da (by omega)
    rw [form_def]
    simp only [Sx.nodes]
    cases l <;> cases hh <;> simp <;> omega

set_option maxHeartbeats 4000000 in
set_option maxRecDepth 100000 in
theorem refMay_any (s : Sx) (v : SV) (w : World) (hr : Rd w v s) (hn : s.nodes < 4611686018427387904) (hd : s.deep ≤ 4611686018427387904) (hf : s.nodes ≤ 512 → s.form.length ≤ 70368744177664) : Calls Tryd.prog 11 #[v.val] w fun e w' => e = .returned (.bool s.may) ∧ Below w.heap.size w w' := by
  obtain ⟨vl, vh, a1, n1, k1, a2, n2, k2, a3, n3, k3⟩ := v
  have HRR := Lib.hid hr
  clear hr
  obtain ⟨cl, hcl⟩ : ∃ cl, cl = s.clean := ⟨_, rfl⟩
  have HCL := Lib.hid hcl
  have HM : Hid (s.may = (cl && decide (s.nodes ≤ 512) && decide (s.deep ≤ 16) && decide (s.form.length ≤ 4096))) := Lib.hid (by rw [hcl]; rfl)
  have CALL1 := Lib.hid (fun w h => clean_any s ⟨vl, vh, a1, n1, k1, a2, n2, k2, a3, n3, k3⟩ w h)
  rw [← hcl] at CALL1
  clear hcl
  have hb0 : Below w.heap.size w (w.alloc (.cells #[.bool vl, .bool vh, .slice a1 n1 k1, .slice a2 n2 k2, .slice a3 n3 k3] 25)) := (Below.refl _ _).alloc (Nat.le_refl _) _
  have hx0 := Lib.hid (Box.new w 25 #[.bool vl, .bool vh, .slice a1 n1 k1, .slice a2 n2 k2, .slice a3 n3 k3])
  have hwn : wrap64 (s.nodes : Int) = s.nodes := wrap_of _ (by omega)
  have CALL2 := Lib.hid (fun w h => nodes_any s ⟨vl, vh, a1, n1, k1, a2, n2, k2, a3, n3, k3⟩ w h)
  rw [hwn] at CALL2
  clear hwn
  have CALL3 := Lib.hid (fun w h => deep_any s ⟨vl, vh, a1, n1, k1, a2, n2, k2, a3, n3, k3⟩ w h hd)
  have CALL4 := Lib.hid (fun w h hf => form_any s ⟨vl, vh, a1, n1, k1, a2, n2, k2, a3, n3, k3⟩ w h hf)
  have HF := Lib.hid hf
  clear hf
  obtain ⟨N, hN⟩ : ∃ N, N = s.nodes := ⟨_, rfl⟩
  obtain ⟨D, hD⟩ : ∃ D, D = s.deep := ⟨_, rfl⟩
  obtain ⟨fl, hfl⟩ : ∃ fl, fl = s.form := ⟨_, rfl⟩
  rw [← hN] at CALL2 HM HF hn
  rw [← hD] at CALL3 HM hd
  rw [← hfl] at CALL4 HM HF
  clear hN hD hfl
  show Calls _ _ #[.agg #[.bool vl, .bool vh, .slice a1 n1 k1, .slice a2 n2 k2, .slice a3 n3 k3]] _ _
  cases cl with
  | false =>
    go_enter Tryd.func11, Tryd.ntmps11
    go_wp2_with (refine wpList_load_box rfl 25 _ rfl hx0.out (by rfl) Tryd.underlying25 rfl (by kernel_rfl) ?_)
    refine (CALL1.out _ (HRR.out.after hb0)).mono ?_
    rintro e w1 ⟨rfl, hb1⟩
    have HB1 := hb0.trans (hb1.mono hb0.size)
    go_wp2_with fail
    go_ret
    exact ⟨by rw [HM.out]; rfl, HB1⟩
  | true =>
    by_cases h2 : N ≤ 512
    · have h2' : (N : Int) ≤ 512 := by omega
      by_cases h3 : D ≤ 16
      · have h3' : (D : Int) ≤ 16 := by omega
        go_enter Tryd.func11, Tryd.ntmps11
        go_wp2_with (refine wpList_load_box rfl 25 _ rfl hx0.out (by rfl) Tryd.underlying25 rfl (by kernel_rfl) ?_)
        refine (CALL1.out _ (HRR.out.after hb0)).mono ?_
        rintro e w1 ⟨rfl, hb1⟩
        have HB1 := hb0.trans (hb1.mono hb0.size)
        have hx1 := Lib.hid (hx0.out.after hb1)
        go_wp2_with (refine wpList_load_box rfl 25 _ rfl hx1.out (by rfl) Tryd.underlying25 rfl (by kernel_rfl) ?_)
        refine (CALL2.out _ (HRR.out.after HB1)).mono ?_
        rintro e w2 ⟨rfl, hb2⟩
        have HB2 := HB1.trans (hb2.mono HB1.size)
        have hx2 := Lib.hid (hx1.out.after hb2)
        go_wp2_with (refine wpList_load_box rfl 25 _ rfl hx2.out (by rfl) Tryd.underlying25 rfl (by kernel_rfl) ?_)
        refine (CALL3.out _ (HRR.out.after HB2)).mono ?_
        rintro e w3 ⟨rfl, hb3⟩
        have HB3 := HB2.trans (hb3.mono HB2.size)
        have hx3 := Lib.hid (hx2.out.after hb3)
        go_wp2_with (refine wpList_load_box rfl 25 _ rfl hx3.out (by rfl) Tryd.underlying25 rfl (by kernel_rfl) ?_)
        refine (CALL4.out _ (HRR.out.after HB3) (HF.out h2)).mono ?_
        rintro e w4 ⟨v4, rfl, ho4, hb4⟩
        obtain ⟨a4, c4, rfl, hs4⟩ := ho4.sl
        have HB4 := HB3.trans (hb4.mono HB3.size)
        clear hs4 ho4
        go_wp2_with fail
        go_ret
        exact ⟨by
          rw [HM.out, decide_eq_true h2, decide_eq_true h3]
          show Ending.returned (.bool (decide ((fl.length : Int) ≤ 4096))) = _
          rw [show decide ((fl.length : Int) ≤ 4096) = decide (fl.length ≤ 4096) from decide_eq_decide.2 (by omega)]
          rfl, HB4⟩
      · have h3' : ¬ (D : Int) ≤ 16 := by omega
        go_enter Tryd.func11, Tryd.ntmps11
        go_wp2_with (refine wpList_load_box rfl 25 _ rfl hx0.out (by rfl) Tryd.underlying25 rfl (by kernel_rfl) ?_)
        refine (CALL1.out _ (HRR.out.after hb0)).mono ?_
        rintro e w1 ⟨rfl, hb1⟩
        have HB1 := hb0.trans (hb1.mono hb0.size)
        have hx1 := Lib.hid (hx0.out.after hb1)
        go_wp2_with (refine wpList_load_box rfl 25 _ rfl hx1.out (by rfl) Tryd.underlying25 rfl (by kernel_rfl) ?_)
        refine (CALL2.out _ (HRR.out.after HB1)).mono ?_
        rintro e w2 ⟨rfl, hb2⟩
        have HB2 := HB1.trans (hb2.mono HB1.size)
        have hx2 := Lib.hid (hx1.out.after hb2)
        go_wp2_with (refine wpList_load_box rfl 25 _ rfl hx2.out (by rfl) Tryd.underlying25 rfl (by kernel_rfl) ?_)
        refine (CALL3.out _ (HRR.out.after HB2)).mono ?_
        rintro e w3 ⟨rfl, hb3⟩
        have HB3 := HB2.trans (hb3.mono HB2.size)
        go_wp2_with fail
        go_ret
        exact ⟨by rw [HM.out, decide_eq_true h2, decide_eq_false h3]; rfl, HB3⟩
    · have h2' : ¬ (N : Int) ≤ 512 := by omega
      go_enter Tryd.func11, Tryd.ntmps11
      go_wp2_with (refine wpList_load_box rfl 25 _ rfl hx0.out (by rfl) Tryd.underlying25 rfl (by kernel_rfl) ?_)
      refine (CALL1.out _ (HRR.out.after hb0)).mono ?_
      rintro e w1 ⟨rfl, hb1⟩
      have HB1 := hb0.trans (hb1.mono hb0.size)
      have hx1 := Lib.hid (hx0.out.after hb1)
      go_wp2_with (refine wpList_load_box rfl 25 _ rfl hx1.out (by rfl) Tryd.underlying25 rfl (by kernel_rfl) ?_)
      refine (CALL2.out _ (HRR.out.after HB1)).mono ?_
      rintro e w2 ⟨rfl, hb2⟩
      have HB2 := HB1.trans (hb2.mono HB1.size)
      go_wp2_with fail
      go_ret
      exact ⟨by rw [HM.out, decide_eq_false h2]; rfl, HB2⟩

end Go.Proofs.YtcflgoddfakepaaDoor

/- The program's Same: what it computes. -/
import Derived.Test.YtcflgoddfakepaaDoorSxG4
namespace Go.Proofs.YtcflgoddfakepaaDoor
open Go.RowKit
set_option linter.unusedSimpArgs false
set_option linter.unusedVariables false

set_option maxHeartbeats 2000000 in
set_option maxRecDepth 100000 in
theorem eqB_any (a : Option Addr) (n c : Nat) (l : List UInt8) (a2 : Option Addr) (n2 c2 : Nat) (l2 : List UInt8) (w : World) (hs : Sl w a n c l) (hs2 : Sl w a2 n2 c2 l2) :
    Calls Tryd.prog 29 #[.slice a n c, .slice a2 n2 c2] w fun e w' => e = .returned (.bool (l == l2)) ∧ Below w.heap.size w w' := by
  have q1 := conv_sl hs
  have q2 := conv_sl hs2
  obtain ⟨r, hr⟩ : ∃ r, r = (l == l2) := ⟨_, rfl⟩
  rw [← hr]
  have HR := hr.symm
  clear hs hs2 hr
  go_enter Tryd.func29, Tryd.ntmps29
  go_wp2_with fail
  go_ret
  exact ⟨rfl, Below.refl _ _⟩

/-- two values of the rows are held against each other -/
def PairP (ks kt : List Sx) (K K2 : Nat → SV) (w : World) : Prop := ∀ i (h : i < ks.length) (h2 : i < kt.length) w', Below w.heap.size w w' → Calls Tryd.prog 17 #[(K i).val, (K2 i).val] w' fun e w'' => e = .returned (.bool (ks[i].same kt[i])) ∧ Below w'.heap.size w' w''

set_option maxHeartbeats 8000000 in
set_option maxRecDepth 100000 in
theorem equal_any (a : Option Addr) (n c : Nat) (K : Nat → SV) (ks : List Sx) (a2 : Option Addr) (m c2 : Nat) (K2 : Nat → SV) (kt : List Sx) (w : World) (hr : RowAt w a n c K) (hr2 : RowAt w a2 m c2 K2) (hn : n = ks.length) (hn2 : m = kt.length) (he : PairP ks kt K K2 w) :
    Calls Tryd.prog 30 #[.slice a n c, .slice a2 m c2, .func (.func 17) #[] #[]] w fun e w' => e = .returned (.bool (Sx.sameL ks kt)) ∧ Below w.heap.size w w' := by
  have HR := Lib.hid hr
  have HR2 := Lib.hid hr2
  have HE := Lib.hid he
  have HN := Lib.hid hn
  have HN2 := Lib.hid hn2
  have hcm := Nat.le_trans hr.1 hr.2.1
  have hcm2 := Nat.le_trans hr2.1 hr2.2.1
  unfold maxLen at hcm hcm2
  clear hr hr2 he hn hn2
  by_cases hlen : n = m
  case neg =>
    have HQ : Hid (Sx.sameL ks kt = false) := Lib.hid (sameL_len (by have := HN.out; have := HN2.out; omega))
    have q4 : ((n : Int) == m) = false := by simp; omega
    have q5 : ((n : Int) != m) = true := by simp; omega
    clear hlen
    go_enter Tryd.func30, Tryd.ntmps30
    go_wp2_with fail
    go_ret
    exact ⟨by rw [HQ.out]; rfl, Below.refl _ _⟩
  subst hlen
  go_enter Tryd.func30, Tryd.ntmps30
  go_wp2_with fail
  go_loopw [17] (fun i wr => ∃ k : Nat, k ≤ n ∧ i = .int .i64 k ∧ Hid (Sx.sameL (ks.take k) (kt.take k) = true) ∧ Below w.heap.size w wr) (fun i _ => n - (intOf i).toNat)
  case atStart => exact ⟨0, Nat.zero_le _, rfl, Lib.hid rfl, Below.refl _ _⟩
  case round =>
    obtain ⟨k, hkn, rfl, HC, hb⟩ := hrel
    by_cases hlt : k < n
    · have g1 : k < ks.length := by have := HN.out; omega
      have g2 : k < kt.length := by have := HN2.out; omega
      obtain ⟨b, o, rfl, _⟩ := HR.out.rangeB hlt
      obtain ⟨b2, o2, rfl, _⟩ := HR2.out.rangeB hlt
      obtain ⟨ck, hck⟩ : ∃ ck, ck = ks[k].same kt[k] := ⟨_, rfl⟩
      have HCK := Lib.hid hck
      have CE := Lib.hid (fun w' hw => HE.out k g1 g2 w' hw)
      rw [← hck] at CE
      have HL1 : Hid (∀ w', Below w.heap.size w w' → w'.rangeAt b (o + k * 5) (K k).cells.toList) := Lib.hid fun w' hw => (HR.out.after hw).rangeA hlt
      have HL2 : Hid (∀ w', Below w.heap.size w w' → w'.rangeAt b2 (o2 + k * 5) (K2 k).cells.toList) := Lib.hid fun w' hw => (HR2.out.after hw).rangeA hlt
      obtain ⟨v1, hv1⟩ : ∃ v1, v1 = K k := ⟨_, rfl⟩
      obtain ⟨v2, hv2⟩ : ∃ v2, v2 = K2 k := ⟨_, rfl⟩
      rw [← hv1] at HL1 CE
      rw [← hv2] at HL2 CE
      clear hck hv1 hv2
      obtain ⟨vl1, vh1, p11, pn11, pc11, p12, pn12, pc12, p13, pn13, pc13⟩ := v1
      obtain ⟨vl2, vh2, p21, pn21, pc21, p22, pn22, pc22, p23, pn23, pc23⟩ := v2
      have hL1 := HL1.out wr hb
      go_upto_region 6 with (refine wpList_load_sv rfl _ rfl b _ rfl _ hL1 ?_; simp only [SV.val])
      have hA : Below wr.heap.size wr (wr.alloc (.cells #[.bool vl1, .bool vh1, .slice p11 pn11 pc11, .slice p12 pn12 pc12, .slice p13 pn13 pc13] 25)) := (Below.refl _ _).alloc (Nat.le_refl _) _
      have X1 := Box.new wr 25 #[.bool vl1, .bool vh1, .slice p11 pn11 pc11, .slice p12 pn12 pc12, .slice p13 pn13 pc13]
      change Code.wp _ _ _ _ (wr.alloc (.cells #[.bool vl1, .bool vh1, .slice p11 pn11 pc11, .slice p12 pn12 pc12, .slice p13 pn13 pc13] 25))
      generalize (wr.alloc (.cells #[.bool vl1, .bool vh1, .slice p11 pn11 pc11, .slice p12 pn12 pc12, .slice p13 pn13 pc13] 25)) = z1 at *
      have hL2 := HL2.out z1 (hb.trans (hA.mono hb.size))
      go_upto_region 7 with (refine wpList_load_sv rfl _ rfl b2 _ rfl _ hL2 ?_; simp only [SV.val])
      have hB : Below z1.heap.size z1 (z1.alloc (.cells #[.bool vl2, .bool vh2, .slice p21 pn21 pc21, .slice p22 pn22 pc22, .slice p23 pn23 pc23] 25)) := (Below.refl _ _).alloc (Nat.le_refl _) _
      have Y2 := Box.new z1 25 #[.bool vl2, .bool vh2, .slice p21 pn21 pc21, .slice p22 pn22 pc22, .slice p23 pn23 pc23]
      have X2 := X1.after hB
      change Code.wp _ _ _ _ (z1.alloc (.cells #[.bool vl2, .bool vh2, .slice p21 pn21 pc21, .slice p22 pn22 pc22, .slice p23 pn23 pc23] 25))
      generalize (z1.alloc (.cells #[.bool vl2, .bool vh2, .slice p21 pn21 pc21, .slice p22 pn22 pc22, .slice p23 pn23 pc23] 25)) = z2 at *
      have hz2 : Below w.heap.size w z2 := (hb.trans (hA.mono hb.size)).trans (hB.mono (Nat.le_trans hb.size hA.size))
      clear hL1 hL2 hA hB X1 HL1 HL2
      have HX2 := Lib.hid X2
      have HY2 := Lib.hid Y2
      clear X2 Y2
      generalize wr.heap.size = y1 at *
      generalize z1.heap.size = y2 at *
      go_wp2_with first | (refine wpList_load_box rfl 25 _ rfl HX2.out (by rfl) Tryd.underlying25 rfl (by kernel_rfl) ?_) | (refine wpList_load_box rfl 25 _ rfl HY2.out (by rfl) Tryd.underlying25 rfl (by kernel_rfl) ?_)
      refine (CE.out z2 hz2).mono ?_
      rintro e w5 ⟨rfl, hb5⟩
      have HB5 := hz2.trans (hb5.mono hz2.size)
      clear hb5 HX2 HY2
      cases ck with
      | false =>
        go_wp2_with fail
        go_ret
        exact ⟨by rw [sameL_no k g1 g2 HCK.out.symm]; rfl, HB5⟩
      | true =>
        go_wp2_with fail
        go_roundw
        case rel => exact ⟨k + 1, by omega, by go_num, Lib.hid (by rw [sameL_snoc k g1 g2, HC.out, ← HCK.out]; rfl), HB5⟩
        case measure => simp [intOf]; omega
    · go_wp2_with fail
      go_ret
      have hnn : k = n := by omega
      subst hnn
      have h5 := HC.out
      rw [List.take_of_length_le (by have := HN.out; omega), List.take_of_length_le (by have := HN2.out; omega)] at h5
      exact ⟨by rw [h5]; rfl, hb⟩

set_option maxHeartbeats 8000000 in
set_option maxRecDepth 100000 in
theorem same_any (s : Sx) : ∀ (t : Sx) (v vb : SV) (w : World), Rd w v s → Rd w vb t → Calls Tryd.prog 17 #[v.val, vb.val] w fun e w' => e = .returned (.bool (s.same t)) ∧ Below w.heap.size w w' := by
  induction s using Sx.ind with
  | h l hh hi da ks ih =>
  intro t v vb w hr hrb
  obtain ⟨lb, hhb, hib, dab, ksb⟩ := t
  have IH := Lib.hid ih
  clear ih
  have HRR := Lib.hid hr
  obtain ⟨hvl, hvh, hs1, hs2, hn, hnc, hcm, K, hrow, hk⟩ := hr.parts
  obtain ⟨vl, vh, a1, n1, k1, a2, n2, k2, a3, n3, k3⟩ := v
  dsimp only at hn hnc hcm hrow hk hvl hvh hs1 hs2
  obtain rfl : vl = l := hvl
  obtain rfl : vh = hh := hvh
  replace hn : n3 = ks.length := hn
  replace hs1 : Sl w a1 n1 k1 hi := hs1
  replace hs2 : Sl w a2 n2 k2 da := hs2
  replace hk : ∀ i (hi : i < ks.length), RdI (fun _ => True) w (K i) ks[i] := hk
  have HK := Lib.hid hk
  have HR := Lib.hid hrow
  have HS1 := Lib.hid hs1
  have HS2 := Lib.hid hs2
  have HN3 := Lib.hid hn
  clear hk hrow hr hs1 hs2 hn
  unfold maxLen at hcm
  have HRRb := Lib.hid hrb
  obtain ⟨hvl, hvh, hs1, hs2, hn, hncb, hcmb, Kb, hrow, hk⟩ := hrb.parts
  obtain ⟨vlb, vhb, a1b, n1b, k1b, a2b, n2b, k2b, a3b, n3b, k3b⟩ := vb
  dsimp only at hn hncb hcmb hrow hk hvl hvh hs1 hs2
  obtain rfl : vlb = lb := hvl
  obtain rfl : vhb = hhb := hvh
  replace hn : n3b = ksb.length := hn
  replace hs1 : Sl w a1b n1b k1b hib := hs1
  replace hs2 : Sl w a2b n2b k2b dab := hs2
  replace hk : ∀ i (hi : i < ksb.length), RdI (fun _ => True) w (Kb i) ksb[i] := hk
  have HKb := Lib.hid hk
  have HRb := Lib.hid hrow
  have HS1b := Lib.hid hs1
  have HS2b := Lib.hid hs2
  have HN3b := Lib.hid hn
  clear hk hrow hrb hs1 hs2 hn
  unfold maxLen at hcmb
  by_cases e0 : vl = vlb
  case neg =>
    have q0 : (vl == vlb) = false := by simpa using e0
    have HQ := Lib.hid q0
    clear e0
    have hb0 : Below w.heap.size w ((w.alloc (.cells #[.bool vl, .bool vh, .slice a1 n1 k1, .slice a2 n2 k2, .slice a3 n3 k3] 25)).alloc (.cells #[.bool vlb, .bool vhb, .slice a1b n1b k1b, .slice a2b n2b k2b, .slice a3b n3b k3b] 25)) := ((Below.refl _ _).alloc (Nat.le_refl _) _).alloc (by simp) _
    have A0 : Box ((w.alloc (.cells #[.bool vl, .bool vh, .slice a1 n1 k1, .slice a2 n2 k2, .slice a3 n3 k3] 25)).alloc (.cells #[.bool vlb, .bool vhb, .slice a1b n1b k1b, .slice a2b n2b k2b, .slice a3b n3b k3b] 25)) w.heap.size 25 #[.bool vl, .bool vh, .slice a1 n1 k1, .slice a2 n2 k2, .slice a3 n3 k3] := (Box.new _ _ _).alloc _
    have B0 : Box ((w.alloc (.cells #[.bool vl, .bool vh, .slice a1 n1 k1, .slice a2 n2 k2, .slice a3 n3 k3] 25)).alloc (.cells #[.bool vlb, .bool vhb, .slice a1b n1b k1b, .slice a2b n2b k2b, .slice a3b n3b k3b] 25)) (w.heap.size + 1) 25 #[.bool vlb, .bool vhb, .slice a1b n1b k1b, .slice a2b n2b k2b, .slice a3b n3b k3b] := by
      have := Box.new (w.alloc (.cells #[.bool vl, .bool vh, .slice a1 n1 k1, .slice a2 n2 k2, .slice a3 n3 k3] 25)) 25 #[.bool vlb, .bool vhb, .slice a1b n1b k1b, .slice a2b n2b k2b, .slice a3b n3b k3b]
      simpa using this
    have x0 := A0.cell 0 rfl
    have x1 := A0.cell 1 rfl
    have x2 := A0.cell 2 rfl
    have x3 := A0.cell 3 rfl
    have x4 := A0.cell 4 rfl
    have y0 := B0.cell 0 rfl
    have y1 := B0.cell 1 rfl
    have y2 := B0.cell 2 rfl
    have y3 := B0.cell 3 rfl
    have y4 := B0.cell 4 rfl
    show Calls _ _ #[.agg #[.bool vl, .bool vh, .slice a1 n1 k1, .slice a2 n2 k2, .slice a3 n3 k3], .agg #[.bool vlb, .bool vhb, .slice a1b n1b k1b, .slice a2b n2b k2b, .slice a3b n3b k3b]] _ _
    go_enter Tryd.func17, Tryd.ntmps17
    go_wp2_with fail
    go_ret
    exact ⟨by rw [same_def, HQ.out]; simp, hb0⟩
  subst e0
  by_cases e1 : vh = vhb
  case neg =>
    have q1 : (vh == vhb) = false := by simpa using e1
    have q0 : (vl == vl) = true := by simp
    have HQ := Lib.hid q1
    clear e1
    have hb0 : Below w.heap.size w ((w.alloc (.cells #[.bool vl, .bool vh, .slice a1 n1 k1, .slice a2 n2 k2, .slice a3 n3 k3] 25)).alloc (.cells #[.bool vl, .bool vhb, .slice a1b n1b k1b, .slice a2b n2b k2b, .slice a3b n3b k3b] 25)) := ((Below.refl _ _).alloc (Nat.le_refl _) _).alloc (by simp) _
    have A0 : Box ((w.alloc (.cells #[.bool vl, .bool vh, .slice a1 n1 k1, .slice a2 n2 k2, .slice a3 n3 k3] 25)).alloc (.cells #[.bool vl, .bool vhb, .slice a1b n1b k1b, .slice a2b n2b k2b, .slice a3b n3b k3b] 25)) w.heap.size 25 #[.bool vl, .bool vh, .slice a1 n1 k1, .slice a2 n2 k2, .slice a3 n3 k3] := (Box.new _ _ _).alloc _
    have B0 : Box ((w.alloc (.cells #[.bool vl, .bool vh, .slice a1 n1 k1, .slice a2 n2 k2, .slice a3 n3 k3] 25)).alloc (.cells #[.bool vl, .bool vhb, .slice a1b n1b k1b, .slice a2b n2b k2b, .slice a3b n3b k3b] 25)) (w.heap.size + 1) 25 #[.bool vl, .bool vhb, .slice a1b n1b k1b, .slice a2b n2b k2b, .slice a3b n3b k3b] := by
      have := Box.new (w.alloc (.cells #[.bool vl, .bool vh, .slice a1 n1 k1, .slice a2 n2 k2, .slice a3 n3 k3] 25)) 25 #[.bool vl, .bool vhb, .slice a1b n1b k1b, .slice a2b n2b k2b, .slice a3b n3b k3b]
      simpa using this
    have x0 := A0.cell 0 rfl
    have x1 := A0.cell 1 rfl
    have x2 := A0.cell 2 rfl
    have x3 := A0.cell 3 rfl
    have x4 := A0.cell 4 rfl
    have y0 := B0.cell 0 rfl
    have y1 := B0.cell 1 rfl
    have y2 := B0.cell 2 rfl
    have y3 := B0.cell 3 rfl
    have y4 := B0.cell 4 rfl
    show Calls _ _ #[.agg #[.bool vl, .bool vh, .slice a1 n1 k1, .slice a2 n2 k2, .slice a3 n3 k3], .agg #[.bool vl, .bool vhb, .slice a1b n1b k1b, .slice a2b n2b k2b, .slice a3b n3b k3b]] _ _
    go_enter Tryd.func17, Tryd.ntmps17
    go_wp2_with fail
    go_ret
    exact ⟨by rw [same_def, HQ.out]; simp, hb0⟩
  subst e1
  obtain ⟨r2, hr2⟩ : ∃ r, r = (hi == hib) := ⟨_, rfl⟩
  obtain ⟨r3, hr3⟩ : ∃ r, r = (da == dab) := ⟨_, rfl⟩
  obtain ⟨r4, hr4⟩ : ∃ r, r = Sx.sameL ks ksb := ⟨_, rfl⟩
  have HSD : Hid ((Sx.mk vl vh hi da ks).same (.mk vl vh hib dab ksb) = (r2 && r3 && r4)) := Lib.hid (by rw [same_def, hr2, hr3, hr4]; simp)
  have CE1 := Lib.hid (fun w' (h : Below w.heap.size w w') => eqB_any a1 n1 k1 hi a1b n1b k1b hib w' (HS1.out.after h) (HS1b.out.after h))
  have CE2 := Lib.hid (fun w' (h : Below w.heap.size w w') => eqB_any a2 n2 k2 da a2b n2b k2b dab w' (HS2.out.after h) (HS2b.out.after h))
  have CE3 := Lib.hid (fun w' (h : Below w.heap.size w w') => equal_any a3 n3 k3 K ks a3b n3b k3b Kb ksb w' (HR.out.after h) (HRb.out.after h) HN3.out HN3b.out (fun i h1 h2 w2 hw => IH.out _ (List.getElem_mem h1) _ _ _ _ (((HK.out i h1).after h).after hw) (((HKb.out i h2).after h).after hw)))
  rw [← hr2] at CE1
  rw [← hr3] at CE2
  rw [← hr4] at CE3
  clear hr2 hr3 hr4
  have q0 : (vl == vl) = true := by simp
  have q1 : (vh == vh) = true := by simp
  have hb0 : Below w.heap.size w ((w.alloc (.cells #[.bool vl, .bool vh, .slice a1 n1 k1, .slice a2 n2 k2, .slice a3 n3 k3] 25)).alloc (.cells #[.bool vl, .bool vh, .slice a1b n1b k1b, .slice a2b n2b k2b, .slice a3b n3b k3b] 25)) := ((Below.refl _ _).alloc (Nat.le_refl _) _).alloc (by simp) _
  have A0 : Box ((w.alloc (.cells #[.bool vl, .bool vh, .slice a1 n1 k1, .slice a2 n2 k2, .slice a3 n3 k3] 25)).alloc (.cells #[.bool vl, .bool vh, .slice a1b n1b k1b, .slice a2b n2b k2b, .slice a3b n3b k3b] 25)) w.heap.size 25 #[.bool vl, .bool vh, .slice a1 n1 k1, .slice a2 n2 k2, .slice a3 n3 k3] := (Box.new _ _ _).alloc _
  have B0 : Box ((w.alloc (.cells #[.bool vl, .bool vh, .slice a1 n1 k1, .slice a2 n2 k2, .slice a3 n3 k3] 25)).alloc (.cells #[.bool vl, .bool vh, .slice a1b n1b k1b, .slice a2b n2b k2b, .slice a3b n3b k3b] 25)) (w.heap.size + 1) 25 #[.bool vl, .bool vh, .slice a1b n1b k1b, .slice a2b n2b k2b, .slice a3b n3b k3b] := by
    have := Box.new (w.alloc (.cells #[.bool vl, .bool vh, .slice a1 n1 k1, .slice a2 n2 k2, .slice a3 n3 k3] 25)) 25 #[.bool vl, .bool vh, .slice a1b n1b k1b, .slice a2b n2b k2b, .slice a3b n3b k3b]
    simpa using this
  have x0 := A0.cell 0 rfl
  have x1 := A0.cell 1 rfl
  have x2 := A0.cell 2 rfl
  have x3 := A0.cell 3 rfl
  have x4 := A0.cell 4 rfl
  have y0 := B0.cell 0 rfl
  have y1 := B0.cell 1 rfl
  have y2 := B0.cell 2 rfl
  have y3 := B0.cell 3 rfl
  have y4 := B0.cell 4 rfl
  show Calls _ _ #[.agg #[.bool vl, .bool vh, .slice a1 n1 k1, .slice a2 n2 k2, .slice a3 n3 k3], .agg #[.bool vl, .bool vh, .slice a1b n1b k1b, .slice a2b n2b k2b, .slice a3b n3b k3b]] _ _
  go_enter Tryd.func17, Tryd.ntmps17
  go_upto_region 1 with fail
  change Code.wp _ _ _ _ ((w.alloc (.cells #[.bool vl, .bool vh, .slice a1 n1 k1, .slice a2 n2 k2, .slice a3 n3 k3] 25)).alloc (.cells #[.bool vl, .bool vh, .slice a1b n1b k1b, .slice a2b n2b k2b, .slice a3b n3b k3b] 25))
  generalize ((w.alloc (.cells #[.bool vl, .bool vh, .slice a1 n1 k1, .slice a2 n2 k2, .slice a3 n3 k3] 25)).alloc (.cells #[.bool vl, .bool vh, .slice a1b n1b k1b, .slice a2b n2b k2b, .slice a3b n3b k3b] 25)) = z0 at *
  go_wp2_with fail
  refine (CE1.out _ hb0).mono ?_
  rintro e w1 ⟨rfl, hb1⟩
  have HB1 := hb0.trans (hb1.mono hb0.size)
  have A1 := A0.after hb1
  have B1 := B0.after hb1
  clear hb1 x0 x1 x2 x3 x4 y0 y1 y2 y3 y4 A0 B0
  have x0 := A1.cell 0 rfl
  have x1 := A1.cell 1 rfl
  have x2 := A1.cell 2 rfl
  have x3 := A1.cell 3 rfl
  have x4 := A1.cell 4 rfl
  have y0 := B1.cell 0 rfl
  have y1 := B1.cell 1 rfl
  have y2 := B1.cell 2 rfl
  have y3 := B1.cell 3 rfl
  have y4 := B1.cell 4 rfl
  cases r2 with
  | false =>
    go_wp2_with fail
    go_ret
    exact ⟨by rw [HSD.out]; simp, HB1⟩
  | true =>
    go_wp2_with fail
    refine (CE2.out _ HB1).mono ?_
    rintro e w2 ⟨rfl, hb2⟩
    have HB2 := HB1.trans (hb2.mono HB1.size)
    have A2 := A1.after hb2
    have B2 := B1.after hb2
    clear hb2 x0 x1 x2 x3 x4 y0 y1 y2 y3 y4 A1 B1
    have x0 := A2.cell 0 rfl
    have x1 := A2.cell 1 rfl
    have x2 := A2.cell 2 rfl
    have x3 := A2.cell 3 rfl
    have x4 := A2.cell 4 rfl
    have y0 := B2.cell 0 rfl
    have y1 := B2.cell 1 rfl
    have y2 := B2.cell 2 rfl
    have y3 := B2.cell 3 rfl
    have y4 := B2.cell 4 rfl
    cases r3 with
    | false =>
      go_wp2_with fail
      go_ret
      exact ⟨by rw [HSD.out]; simp, HB2⟩
    | true =>
      go_wp2_with fail
      refine (CE3.out _ HB2).mono ?_
      rintro e w3 ⟨rfl, hb3⟩
      have HB3 := HB2.trans (hb3.mono HB2.size)
      go_wp2_with fail
      go_ret
      exact ⟨by rw [HSD.out]; simp, HB3⟩

end Go.Proofs.YtcflgoddfakepaaDoor

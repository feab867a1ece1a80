/- The document's Great of subjects: what it computes. -/
import Derived.Test.YthmigigclmogiaaDoorSj2
namespace Go.Proofs.YthmigigclmogiaaDoor
open Go.RowKit
set_option linter.unusedSimpArgs false
set_option linter.unusedVariables false

set_option maxHeartbeats 8000000 in
set_option maxRecDepth 100000 in
theorem greatJ_any (s : Sj) : ∀ (v : JV) (m : Nat) (w : World), RdJ (fun _ => True) w v s → m ≤ 7 → Calls Tryd.prog 5 #[v.val, .int .i64 m] w fun e w' => e = .returned (.bool (s.great m)) ∧ Below w.heap.size w w' := by
  induction s using Sj.ind with
  | h kd sb da ns kk ks ih =>
  intro v m w hr hm
  have HRR := Lib.hid hr
  obtain ⟨⟨hkd, hsb, hkk, hb8, hk0, hk1⟩, hs1, hn, ⟨Z, hN⟩, K, hrow, hk⟩ := hr.parts
  obtain ⟨vkd, vs, a1, n1, c1, a2, n2, c2, vk, a3, n3, c3⟩ := v
  dsimp only at hkd hsb hkk hb8 hk0 hk1 hs1 hn hN hrow hk
  obtain rfl : vkd = kd := hkd
  obtain rfl : vs = sb := hsb
  obtain rfl : vk = kk := hkk
  replace hn : n3 = ks.length := hn
  replace hs1 : Sl w a1 n1 c1 da := hs1
  replace hN : RowN (fun _ => True) w a2 n2 c2 Z ns := hN
  replace hk : ∀ i (hi : i < ks.length), RdJ (fun _ => True) w (K i) ks[i] := hk
  subst hn
  obtain ⟨hnc, hcm, _, _⟩ := id hrow
  obtain ⟨hnc2, hcm2, _, hnn, _, _⟩ := id hN.1
  have hnc1 := hs1.2.1
  have hcm1 := hs1.2.2.1
  have hn1 := hs1.1
  have IH := Lib.hid ih
  have HK := Lib.hid hk
  have HR := Lib.hid hrow
  have HS := Lib.hid hs1
  have HNS := Lib.hid hN.1
  have HN1 := Lib.hid hn1
  have HN2 := Lib.hid hnn
  have HB8 := Lib.hid hb8
  clear ih hk hrow hr hs1 hN hn1 hnn hb8
  unfold maxLen at hcm hcm1 hcm2
  have HC := Lib.hid (great_def vkd vs da ns vk ks m)
  generalize (Sj.mk vkd vs da ns vk ks).great m = R at *
  have hb0 : Below w.heap.size w (w.alloc (.cells #[.int .u8 vkd, .bool vs, .slice a1 n1 c1, .slice a2 n2 c2, .int .i64 vk, .slice a3 ks.length c3] 28)) := (Below.refl _ _).alloc (Nat.le_refl _) _
  have hx0 := Box.new w 28 #[.int .u8 vkd, .bool vs, .slice a1 n1 c1, .slice a2 n2 c2, .int .i64 vk, .slice a3 ks.length c3]
  have q2 := hx0.cell 2 rfl
  have q3 := hx0.cell 3 rfl
  have q5 := hx0.cell 5 rfl
  by_cases h1 : 6 < m
  · have h1' : (6 : Int) < m := by omega
    have HF : Hid (R = true) := Lib.hid (by rw [HC.out]; simp [h1])
    clear HC
    show Calls _ _ #[.agg #[.int .u8 vkd, .bool vs, .slice a1 n1 c1, .slice a2 n2 c2, .int .i64 vk, .slice a3 ks.length c3], .int .i64 m] _ _
    go_enter Tryd.func5, Tryd.ntmps5
    go_wp2_with fail
    go_ret
    exact ⟨by rw [HF.out]; rfl, hb0⟩
  have h1' : ¬ (6 : Int) < m := by omega
  by_cases h2 : 12 < ks.length
  · have h2' : (12 : Int) < ks.length := by omega
    have HF : Hid (R = true) := Lib.hid (by rw [HC.out]; simp [h2])
    clear HC
    show Calls _ _ #[.agg #[.int .u8 vkd, .bool vs, .slice a1 n1 c1, .slice a2 n2 c2, .int .i64 vk, .slice a3 ks.length c3], .int .i64 m] _ _
    go_enter Tryd.func5, Tryd.ntmps5
    go_wp2_with fail
    go_ret
    exact ⟨by rw [HF.out]; rfl, hb0⟩
  have h2' : ¬ (12 : Int) < ks.length := by omega
  by_cases h3 : 12 < n2
  · have h3' : (12 : Int) < n2 := by omega
    have HF : Hid (R = true) := Lib.hid (by rw [HC.out]; have := HN2.out; simp; omega)
    clear HC
    show Calls _ _ #[.agg #[.int .u8 vkd, .bool vs, .slice a1 n1 c1, .slice a2 n2 c2, .int .i64 vk, .slice a3 ks.length c3], .int .i64 m] _ _
    go_enter Tryd.func5, Tryd.ntmps5
    go_wp2_with fail
    go_ret
    exact ⟨by rw [HF.out]; rfl, hb0⟩
  have h3' : ¬ (12 : Int) < n2 := by omega
  by_cases h4 : 200 < n1
  · have h4' : (200 : Int) < n1 := by omega
    have HF : Hid (R = true) := Lib.hid (by rw [HC.out]; have := HN1.out; simp; omega)
    clear HC
    show Calls _ _ #[.agg #[.int .u8 vkd, .bool vs, .slice a1 n1 c1, .slice a2 n2 c2, .int .i64 vk, .slice a3 ks.length c3], .int .i64 m] _ _
    go_enter Tryd.func5, Tryd.ntmps5
    go_wp2_with fail
    go_ret
    exact ⟨by rw [HF.out]; rfl, hb0⟩
  have h4' : ¬ (200 : Int) < n1 := by omega
  have HF : Hid (R = (ns.any (fun n => decide (5000 < n.length)) || Sj.greatL ks (m + 1))) := Lib.hid (by
    have e1 := HN1.out
    have e2 := HN2.out
    rw [HC.out, decide_eq_false h1, decide_eq_false h2, decide_eq_false (show ¬ 12 < ns.length by omega), decide_eq_false (show ¬ 200 < da.length by omega)]
    rfl)
  clear HC
  show Calls _ _ #[.agg #[.int .u8 vkd, .bool vs, .slice a1 n1 c1, .slice a2 n2 c2, .int .i64 vk, .slice a3 ks.length c3], .int .i64 m] _ _
  go_enter Tryd.func5, Tryd.ntmps5
  go_wp2_with fail
  go_loopw [5, 31] (fun i k wr => ∃ n : Nat, n ≤ n2 ∧ k = .int .i64 n ∧ (ns.take n).any (fun n => decide (5000 < n.length)) = false ∧ Below w.heap.size w wr ∧ Box wr w.heap.size 28 #[.int .u8 vkd, .bool vs, .slice a1 n1 c1, .slice a2 n2 c2, .int .i64 vk, .slice a3 ks.length c3]) (fun _ k _ => n2 - (intOf k).toNat)
  case atStart => exact ⟨0, Nat.zero_le _, rfl, rfl, hb0, hx0⟩
  case round =>
    obtain ⟨n, hnl, rfl, hcl, hb, hx⟩ := hrel
    have HCL := Lib.hid hcl
    clear q2 q3 q5 hcl hx0
    have q3 := hx.cell 3 rfl
    by_cases hlt : n < n2
    · obtain ⟨b, o, rfl, hcel⟩ := (HNS.out.after hb).cellS hlt
      have hnl : n < ns.length := by have := HN2.out; omega
      have hzn := (HNS.out.2.2.2.2.2 n hnl).1
      have HZN := Lib.hid hzn
      clear hzn
      by_cases hbig : 5000 < (Z n).n
      · have hbig' : (5000 : Int) < (Z n).n := by omega
        have HF2 : Hid (R = true) := Lib.hid (by
          rw [HF.out, show ns.any (fun n => decide (5000 < n.length)) = true from List.any_eq_true.2 ⟨_, List.getElem_mem hnl, by have := HZN.out; simp; omega⟩]; rfl)
        have hb' := hb
        go_wp2_with fail
        go_ret
        exact ⟨by rw [HF2.out]; rfl, hb⟩
      · have hbig' : ¬ (5000 : Int) < (Z n).n := by omega
        go_wp2_with fail
        go_roundw
        case rel => exact ⟨n + 1, by omega, by go_num, by rw [anyB_snoc _ ns n hnl, HCL.out]; have := HZN.out; simp; omega, hb, hx⟩
        case measure => simp [intOf]; omega
    · have hnn2 : n = n2 := by omega
      subst hnn2
      have HF2 : Hid (R = Sj.greatL ks (m + 1)) := Lib.hid (by
        have h1 := HCL.out
        rw [List.take_of_length_le (by have := HN2.out; omega)] at h1
        rw [HF.out, h1]; rfl)
      clear HF HCL
      have q5 := hx.cell 5 rfl
      go_wp2_with fail
      go_loopw [6, 45] (fun i k wq => ∃ p : Nat, p ≤ ks.length ∧ k = .int .i64 p ∧ Sj.greatL (ks.take p) (m + 1) = false ∧ Below w.heap.size w wq ∧ Box wq w.heap.size 28 #[.int .u8 vkd, .bool vs, .slice a1 n1 c1, .slice a2 n c2, .int .i64 vk, .slice a3 ks.length c3]) (fun _ k _ => ks.length - (intOf k).toNat)
      case atStart => exact ⟨0, Nat.zero_le _, rfl, rfl, hb, hx⟩
      case round =>
        obtain ⟨p, hpl, rfl, hcl, hb2, hx2⟩ := hrel
        have HCL := Lib.hid hcl
        clear q3 q5 hcl
        have q5 := hx2.cell 5 rfl
        by_cases hlt2 : p < ks.length
        · obtain ⟨b, o, rfl, hld⟩ := (HR.out.after hb2).range hlt2
          have HL := Lib.hid hld
          have hrd := (HK.out p hlt2).after hb2
          have HRd := Lib.hid hrd
          clear hrd hld
          obtain ⟨ck, hck⟩ : ∃ ck, ck = ks[p].great (m + 1) := ⟨_, rfl⟩
          have IH2 := Lib.hid (IH.out _ (List.getElem_mem hlt2) _ (m + 1) _ HRd.out (by omega))
          rw [← hck] at IH2
          have HCK := Lib.hid hck
          clear hck
          have hm' : ((m + 1 : Nat) : Int) = (m : Int) + 1 := by omega
          rw [hm'] at IH2
          clear hm'
          cases ck with
          | true =>
            go_wp2_with (refine wpList_load_jv rfl _ rfl b _ rfl _ HL.out ?_)
            refine IH2.out.mono ?_
            rintro e w1 ⟨rfl, hb1⟩
            have HB := hb2.trans (hb1.mono hb2.size)
            go_wp2_with fail
            go_ret
            exact ⟨by rw [HF2.out, Sj.greatL_yes (List.getElem_mem hlt2) HCK.out.symm]; rfl, HB⟩
          | false =>
            go_wp2_with (refine wpList_load_jv rfl _ rfl b _ rfl _ HL.out ?_)
            refine IH2.out.mono ?_
            rintro e w1 ⟨rfl, hb1⟩
            have HB := hb2.trans (hb1.mono hb2.size)
            have HX := hx2.after hb1
            go_wp2_with fail
            go_roundw
            case rel => exact ⟨p + 1, by omega, by go_num, by rw [Sj.greatL_snoc ks _ p hlt2, HCL.out, ← HCK.out]; rfl, HB, HX⟩
            case measure => simp [intOf]; omega
        · have hnn : p = ks.length := by omega
          subst hnn
          rw [List.take_length] at HCL
          go_wp2_with fail
          go_ret
          exact ⟨by rw [HF2.out, HCL.out]; rfl, hb2⟩

end Go.Proofs.YthmigigclmogiaaDoor

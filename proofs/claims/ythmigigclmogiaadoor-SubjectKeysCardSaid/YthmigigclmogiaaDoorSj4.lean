/- The program's Same of principals and of subjects: what they compute. -/
import Derived.Test.YthmigigclmogiaaDoorSj2
namespace Go.Proofs.YthmigigclmogiaaDoor
open Go.RowKit
set_option linter.unusedSimpArgs false
set_option linter.unusedVariables false

theorem RowJ.rangeA {w : World} {b o n c : Nat} {K : Nat → JV} (h : RowJ w (some ⟨b, o, none⟩) n c K) {i : Nat} (hi : i < n) : w.rangeAt b (o + i * 6) (K i).cells.toList := by
  obtain ⟨b', o', e, h⟩ := h.range hi
  cases e
  exact h
theorem RowJ.rangeB {w : World} {a : Option Addr} {n c : Nat} {K : Nat → JV} (h : RowJ w a n c K) {i : Nat} (hi : i < n) : ∃ b o, a = some ⟨b, o, none⟩ ∧ True := by
  obtain ⟨b', o', e, h⟩ := h.range hi
  exact ⟨b', o', e, trivial⟩
set_option maxHeartbeats 16000000 in
set_option maxRecDepth 100000 in
theorem keySameP_any (s : Bool) (a : Option Addr) (n c : Nat) (l : List UInt8) (s2 : Bool) (a2 : Option Addr) (n2 c2 : Nat) (l2 : List UInt8) (w : World) (hs : Sl w a n c l) (hs2 : Sl w a2 n2 c2 l2) :
    Calls Tryd.prog 19 #[.agg #[.bool s, .slice a n c], .agg #[.bool s2, .slice a2 n2 c2]] w fun e w' => e = .returned (.bool (keySame s l s2 l2)) ∧ Below w.heap.size w w' := by
  obtain ⟨r, hr⟩ : ∃ r, r = (l == l2) := ⟨_, rfl⟩
  have HR := Lib.hid (show keySame s l s2 l2 = (s == s2 && r) by rw [hr]; rfl)
  have HS := Lib.hid hs
  have HS2 := Lib.hid hs2
  generalize keySame s l s2 l2 = R at *
  have CE := Lib.hid (fun w' (h : Below w.heap.size w w') => eqB_any a n c l a2 n2 c2 l2 w' (HS.out.after h) (HS2.out.after h))
  rw [← hr] at CE
  clear hr hs hs2
  have B : Below w.heap.size w ((w.alloc (.cells #[.bool s, .slice a n c] 24)).alloc (.cells #[.bool s2, .slice a2 n2 c2] 24)) := ((Below.refl _ _).alloc (Nat.le_refl _) _).alloc (by simp) _
  have X : Hid (Box ((w.alloc (.cells #[.bool s, .slice a n c] 24)).alloc (.cells #[.bool s2, .slice a2 n2 c2] 24)) w.heap.size 24 #[.bool s, .slice a n c]) := Lib.hid ((Box.new _ _ _).alloc _)
  have Y : Hid (Box ((w.alloc (.cells #[.bool s, .slice a n c] 24)).alloc (.cells #[.bool s2, .slice a2 n2 c2] 24)) (w.heap.size + 1) 24 #[.bool s2, .slice a2 n2 c2]) := Lib.hid (by
    have := Box.new (w.alloc (.cells #[.bool s, .slice a n c] 24)) 24 #[.bool s2, .slice a2 n2 c2]
    simpa using this)
  show Calls _ _ #[.agg #[.bool s, .slice a n c], .agg #[.bool s2, .slice a2 n2 c2]] _ _
  go_enter Tryd.func19, Tryd.ntmps19
  go_upto_region 1 with fail
  change Code.wp _ _ _ _ ((w.alloc (.cells #[.bool s, .slice a n c] 24)).alloc (.cells #[.bool s2, .slice a2 n2 c2] 24))
  generalize ((w.alloc (.cells #[.bool s, .slice a n c] 24)).alloc (.cells #[.bool s2, .slice a2 n2 c2] 24)) = x0 at *
  by_cases hq : s = s2
  case neg =>
    have HF : Hid (R = false) := Lib.hid (by rw [HR.out]; simp [hq])
    go_step
    refine wpList_made 12 x0.heap.size x0 (Below.refl _ _) ?_
    simp only [List.take_succ_cons, List.take_zero, List.drop_succ_cons, List.drop_zero]
    refine wpQ_run rfl (.pointer (some ⟨w.heap.size, 0, none⟩)) (fun w' hw => by simp [go_sem]) ?_
    simp only [Act.put, List.setIfInBounds_toArray, List.set_cons_zero, List.set_cons_succ]
    refine wpQ_run rfl (.bool s) (fun w' hw => by have := (X.out.after hw).cell 0 rfl; simp [go_sem, this]) ?_
    simp only [Act.put, List.setIfInBounds_toArray, List.set_cons_zero, List.set_cons_succ]
    refine wpQ_run rfl (.pointer (some ⟨(w.heap.size + 1), 0, none⟩)) (fun w' hw => by simp [go_sem]) ?_
    simp only [Act.put, List.setIfInBounds_toArray, List.set_cons_zero, List.set_cons_succ]
    refine wpQ_run rfl (.bool s2) (fun w' hw => by have := (Y.out.after hw).cell 0 rfl; simp [go_sem, this]) ?_
    simp only [Act.put, List.setIfInBounds_toArray, List.set_cons_zero, List.set_cons_succ]
    refine wpQ_run rfl (.bool false) (fun w' hw => by simp [go_sem, hq]) ?_
    simp only [Act.put, List.setIfInBounds_toArray, List.set_cons_zero, List.set_cons_succ]
    refine wpQ_run rfl (.bool false) (fun w' hw => by simp [go_sem]) ?_
    simp only [Act.put, List.setIfInBounds_toArray, List.set_cons_zero, List.set_cons_succ]
    refine wpQ_skip rfl ?_
    simp only [Act.put, List.setIfInBounds_toArray, List.set_cons_zero, List.set_cons_succ]
    refine wpQ_skip rfl ?_
    simp only [Act.put, List.setIfInBounds_toArray, List.set_cons_zero, List.set_cons_succ]
    refine wpQ_skip rfl ?_
    simp only [Act.put, List.setIfInBounds_toArray, List.set_cons_zero, List.set_cons_succ]
    refine wpQ_skip rfl ?_
    simp only [Act.put, List.setIfInBounds_toArray, List.set_cons_zero, List.set_cons_succ]
    refine wpQ_skip rfl ?_
    simp only [Act.put, List.setIfInBounds_toArray, List.set_cons_zero, List.set_cons_succ]
    refine wpQ_run rfl (.bool false) (fun w' hw => by simp [go_sem]) ?_
    simp only [Act.put, List.setIfInBounds_toArray, List.set_cons_zero, List.set_cons_succ]
    intro y1 hb1
    replace B := B.trans (hb1.mono B.size)
    clear hb1
    go_wp2_with fail
    go_ret
    exact ⟨by rw [HF.out]; rfl, B⟩
  subst hq
  have HF : Hid (R = r) := Lib.hid (by rw [HR.out]; simp)
  go_step
  refine wpList_made 12 x0.heap.size x0 (Below.refl _ _) ?_
  simp only [List.take_succ_cons, List.take_zero, List.drop_succ_cons, List.drop_zero]
  refine wpQ_run rfl (.pointer (some ⟨w.heap.size, 0, none⟩)) (fun w' hw => by simp [go_sem]) ?_
  simp only [Act.put, List.setIfInBounds_toArray, List.set_cons_zero, List.set_cons_succ]
  refine wpQ_run rfl (.bool s) (fun w' hw => by have := (X.out.after hw).cell 0 rfl; simp [go_sem, this]) ?_
  simp only [Act.put, List.setIfInBounds_toArray, List.set_cons_zero, List.set_cons_succ]
  refine wpQ_run rfl (.pointer (some ⟨(w.heap.size + 1), 0, none⟩)) (fun w' hw => by simp [go_sem]) ?_
  simp only [Act.put, List.setIfInBounds_toArray, List.set_cons_zero, List.set_cons_succ]
  refine wpQ_run rfl (.bool s) (fun w' hw => by have := (Y.out.after hw).cell 0 rfl; simp [go_sem, this]) ?_
  simp only [Act.put, List.setIfInBounds_toArray, List.set_cons_zero, List.set_cons_succ]
  refine wpQ_run rfl (.bool true) (fun w' hw => by simp [go_sem]) ?_
  simp only [Act.put, List.setIfInBounds_toArray, List.set_cons_zero, List.set_cons_succ]
  refine wpQ_run rfl (.bool true) (fun w' hw => by simp [go_sem]) ?_
  simp only [Act.put, List.setIfInBounds_toArray, List.set_cons_zero, List.set_cons_succ]
  refine wpQ_run rfl (.pointer (some ⟨w.heap.size, 1, none⟩)) (fun w' hw => by simp [go_sem]) ?_
  simp only [Act.put, List.setIfInBounds_toArray, List.set_cons_zero, List.set_cons_succ]
  refine wpQ_run rfl (.slice a n c) (fun w' hw => by have := (X.out.after hw).cell 1 rfl; simp [go_sem, this]) ?_
  simp only [Act.put, List.setIfInBounds_toArray, List.set_cons_zero, List.set_cons_succ]
  refine wpQ_run rfl (.pointer (some ⟨(w.heap.size + 1), 1, none⟩)) (fun w' hw => by simp [go_sem]) ?_
  simp only [Act.put, List.setIfInBounds_toArray, List.set_cons_zero, List.set_cons_succ]
  refine wpQ_run rfl (.slice a2 n2 c2) (fun w' hw => by have := (Y.out.after hw).cell 1 rfl; simp [go_sem, this]) ?_
  simp only [Act.put, List.setIfInBounds_toArray, List.set_cons_zero, List.set_cons_succ]
  refine wpQ_callS rfl 21 #[.slice a n c, .slice a2 n2 c2] (fun w' => by simp [go_sem]) (.bool r) (Nat.le_refl _) (fun w' hw => CE.out w' (B.trans (hw.mono B.size))) ?_
  simp only [Act.put, List.setIfInBounds_toArray, List.set_cons_zero, List.set_cons_succ]
  refine wpQ_run rfl (.bool r) (fun w' hw => by simp [go_sem]) ?_
  simp only [Act.put, List.setIfInBounds_toArray, List.set_cons_zero, List.set_cons_succ]
  intro y1 hb1
  replace B := B.trans (hb1.mono B.size)
  clear hb1
  go_wp2_with fail
  go_ret
  exact ⟨by rw [HF.out]; rfl, B⟩
set_option maxHeartbeats 16000000 in
set_option maxRecDepth 100000 in
theorem eqNames_any (a : Option Addr) (n c : Nat) (Z : Nat → S3) (ls : List (List UInt8)) (a2 : Option Addr) (m c2 : Nat) (Z2 : Nat → S3) (ls2 : List (List UInt8)) (w : World) (hr : RowS w a n c Z ls) (hr2 : RowS w a2 m c2 Z2 ls2) :
    Calls Tryd.prog 20 #[.slice a n c, .slice a2 m c2, .func (.func 21) #[] #[]] w fun e w' => e = .returned (.bool (ls == ls2)) ∧ Below w.heap.size w w' := by
  have HR := Lib.hid hr
  have HR2 := Lib.hid hr2
  have HN := Lib.hid hr.2.2.2.1
  have HN2 := Lib.hid hr2.2.2.2.1
  have hcm := Nat.le_trans hr.1 hr.2.1
  have hcm2 := Nat.le_trans hr2.1 hr2.2.1
  unfold maxLen at hcm hcm2
  clear hr hr2
  by_cases hlen : n = m
  case neg =>
    have HQ : Hid ((ls == ls2) = false) := Lib.hid (beq_eq_false_iff_ne.2 (fun h => by have h1 := HN.out; have h2 := HN2.out; rw [h] at h1; omega))
    have q4 : ((n : Int) == m) = false := by simp; omega
    have q5 : ((n : Int) != m) = true := by simp; omega
    clear hlen
    go_enter Tryd.func20, Tryd.ntmps20
    go_wp2_with fail
    go_ret
    exact ⟨by rw [HQ.out]; rfl, Below.refl _ _⟩
  subst hlen
  go_enter Tryd.func20, Tryd.ntmps20
  go_wp2_with fail
  go_loopw [17] (fun i wr => ∃ k : Nat, k ≤ n ∧ i = .int .i64 k ∧ Hid ((ls.take k == ls2.take k) = true) ∧ Below w.heap.size w wr) (fun i _ => n - (intOf i).toNat)
  case atStart => exact ⟨0, Nat.zero_le _, rfl, Lib.hid (by simp), Below.refl _ _⟩
  case round =>
    obtain ⟨k, hkn, rfl, HC, hb⟩ := hrel
    by_cases hlt : k < n
    · have g1 : k < ls.length := by have := HN.out; omega
      have g2 : k < ls2.length := by have := HN2.out; omega
      obtain ⟨b, o, rfl, hcl⟩ := (HR.out.after hb).cellS hlt
      obtain ⟨b2, o2, rfl, hcl2⟩ := (HR2.out.after hb).cellS hlt
      have CE := Lib.hid (eqB_any _ _ _ _ _ _ _ _ wr ((HR.out.2.2.2.2.2 k g1).after hb) ((HR2.out.2.2.2.2.2 k g2).after hb))
      obtain ⟨ck, hck⟩ : ∃ ck, ck = (ls[k] == ls2[k]) := ⟨_, rfl⟩
      rw [← hck] at CE
      have HCK := Lib.hid hck
      clear hck
      go_wp2_with fail
      refine CE.out.mono ?_
      rintro e w5 ⟨rfl, hb5⟩
      have HB5 := hb.trans (hb5.mono hb.size)
      clear hb5 CE
      cases ck with
      | false =>
        go_wp2_with fail
        go_ret
        exact ⟨by rw [show (ls == ls2) = false from beq_eq_false_iff_ne.2 (fun h => by subst h; have := HCK.out; simp at this)]; rfl, HB5⟩
      | true =>
        go_wp2_with fail
        go_roundw
        case rel => exact ⟨k + 1, by omega, by go_num, Lib.hid (by rw [names_snoc k g1 g2, HC.out, ← HCK.out]; rfl), HB5⟩
        case measure => simp [intOf]; omega
    · go_wp2_with fail
      go_ret
      have hnn : k = n := by omega
      subst hnn
      have h5 := HC.out
      rw [List.take_of_length_le (by have := HN.out; omega), List.take_of_length_le (by have := HN2.out; omega)] at h5
      exact ⟨by rw [h5]; rfl, hb⟩
/-- two subjects of the rows are held against each other -/
def PairJ (ks kt : List Sj) (K K2 : Nat → JV) (w : World) : Prop := ∀ i (h : i < ks.length) (h2 : i < kt.length) w', Below w.heap.size w w' → Calls Tryd.prog 9 #[(K i).val, (K2 i).val] w' fun e w'' => e = .returned (.bool (ks[i].same kt[i])) ∧ Below w'.heap.size w' w''

set_option maxHeartbeats 8000000 in
set_option maxRecDepth 100000 in
theorem equalJ_any (a : Option Addr) (n c : Nat) (K : Nat → JV) (ks : List Sj) (a2 : Option Addr) (m c2 : Nat) (K2 : Nat → JV) (kt : List Sj) (w : World) (hr : RowJ w a n c K) (hr2 : RowJ w a2 m c2 K2) (hn : n = ks.length) (hn2 : m = kt.length) (he : PairJ ks kt K K2 w) :
    Calls Tryd.prog 22 #[.slice a n c, .slice a2 m c2, .func (.func 9) #[] #[]] w fun e w' => e = .returned (.bool (Sj.sameL ks kt)) ∧ Below w.heap.size w w' := by
  have HR := Lib.hid hr
  have HR2 := Lib.hid hr2
  have HE := Lib.hid he
  have HN := Lib.hid hn
  have HN2 := Lib.hid hn2
  have hcm := Nat.le_trans hr.1 hr.2.1
  have hcm2 := Nat.le_trans hr2.1 hr2.2.1
  unfold maxLen at hcm hcm2
  clear hr hr2 he hn hn2
  by_cases hlen : n = m
  case neg =>
    have HQ : Hid (Sj.sameL ks kt = false) := Lib.hid (Sj.sameL_len (by have := HN.out; have := HN2.out; omega))
    have q4 : ((n : Int) == m) = false := by simp; omega
    have q5 : ((n : Int) != m) = true := by simp; omega
    clear hlen
    go_enter Tryd.func22, Tryd.ntmps22
    go_wp2_with fail
    go_ret
    exact ⟨by rw [HQ.out]; rfl, Below.refl _ _⟩
  subst hlen
  go_enter Tryd.func22, Tryd.ntmps22
  go_wp2_with fail
  go_loopw [17] (fun i wr => ∃ k : Nat, k ≤ n ∧ i = .int .i64 k ∧ Hid (Sj.sameL (ks.take k) (kt.take k) = true) ∧ Below w.heap.size w wr) (fun i _ => n - (intOf i).toNat)
  case atStart => exact ⟨0, Nat.zero_le _, rfl, Lib.hid rfl, Below.refl _ _⟩
  case round =>
    obtain ⟨k, hkn, rfl, HC, hb⟩ := hrel
    by_cases hlt : k < n
    · have g1 : k < ks.length := by have := HN.out; omega
      have g2 : k < kt.length := by have := HN2.out; omega
      obtain ⟨b, o, rfl, _⟩ := HR.out.rangeB hlt
      obtain ⟨b2, o2, rfl, _⟩ := HR2.out.rangeB hlt
      obtain ⟨ck, hck⟩ : ∃ ck, ck = ks[k].same kt[k] := ⟨_, rfl⟩
      have HCK := Lib.hid hck
      have CE := Lib.hid (fun w' hw => HE.out k g1 g2 w' hw)
      rw [← hck] at CE
      have HL1 : Hid (∀ w', Below w.heap.size w w' → w'.rangeAt b (o + k * 6) (K k).cells.toList) := Lib.hid fun w' hw => (HR.out.after hw).rangeA hlt
      have HL2 : Hid (∀ w', Below w.heap.size w w' → w'.rangeAt b2 (o2 + k * 6) (K2 k).cells.toList) := Lib.hid fun w' hw => (HR2.out.after hw).rangeA hlt
      obtain ⟨v1, hv1⟩ : ∃ v1, v1 = K k := ⟨_, rfl⟩
      obtain ⟨v2, hv2⟩ : ∃ v2, v2 = K2 k := ⟨_, rfl⟩
      rw [← hv1] at HL1 CE
      rw [← hv2] at HL2 CE
      clear hck hv1 hv2
      obtain ⟨v1kd, v1s, v1a1, v1n1, v1c1, v1a2, v1n2, v1c2, v1k, v1a3, v1n3, v1c3⟩ := v1
      obtain ⟨v2kd, v2s, v2a1, v2n1, v2c1, v2a2, v2n2, v2c2, v2k, v2a3, v2n3, v2c3⟩ := v2
      have hL1 := HL1.out wr hb
      go_upto_region 6 with (refine wpList_load_jv rfl _ rfl b _ rfl _ hL1 ?_; simp only [JV.val])
      have hA : Below wr.heap.size wr (wr.alloc (.cells #[.int .u8 v1kd, .bool v1s, .slice v1a1 v1n1 v1c1, .slice v1a2 v1n2 v1c2, .int .i64 v1k, .slice v1a3 v1n3 v1c3] 28)) := (Below.refl _ _).alloc (Nat.le_refl _) _
      have X1 := Box.new wr 28 #[.int .u8 v1kd, .bool v1s, .slice v1a1 v1n1 v1c1, .slice v1a2 v1n2 v1c2, .int .i64 v1k, .slice v1a3 v1n3 v1c3]
      change Code.wp _ _ _ _ (wr.alloc (.cells #[.int .u8 v1kd, .bool v1s, .slice v1a1 v1n1 v1c1, .slice v1a2 v1n2 v1c2, .int .i64 v1k, .slice v1a3 v1n3 v1c3] 28))
      generalize (wr.alloc (.cells #[.int .u8 v1kd, .bool v1s, .slice v1a1 v1n1 v1c1, .slice v1a2 v1n2 v1c2, .int .i64 v1k, .slice v1a3 v1n3 v1c3] 28)) = z1 at *
      have hL2 := HL2.out z1 (hb.trans (hA.mono hb.size))
      go_upto_region 7 with (refine wpList_load_jv rfl _ rfl b2 _ rfl _ hL2 ?_; simp only [JV.val])
      have hB : Below z1.heap.size z1 (z1.alloc (.cells #[.int .u8 v2kd, .bool v2s, .slice v2a1 v2n1 v2c1, .slice v2a2 v2n2 v2c2, .int .i64 v2k, .slice v2a3 v2n3 v2c3] 28)) := (Below.refl _ _).alloc (Nat.le_refl _) _
      have Y2 := Box.new z1 28 #[.int .u8 v2kd, .bool v2s, .slice v2a1 v2n1 v2c1, .slice v2a2 v2n2 v2c2, .int .i64 v2k, .slice v2a3 v2n3 v2c3]
      have X2 := X1.after hB
      change Code.wp _ _ _ _ (z1.alloc (.cells #[.int .u8 v2kd, .bool v2s, .slice v2a1 v2n1 v2c1, .slice v2a2 v2n2 v2c2, .int .i64 v2k, .slice v2a3 v2n3 v2c3] 28))
      generalize (z1.alloc (.cells #[.int .u8 v2kd, .bool v2s, .slice v2a1 v2n1 v2c1, .slice v2a2 v2n2 v2c2, .int .i64 v2k, .slice v2a3 v2n3 v2c3] 28)) = z2 at *
      have hz2 : Below w.heap.size w z2 := (hb.trans (hA.mono hb.size)).trans (hB.mono (Nat.le_trans hb.size hA.size))
      clear hL1 hL2 hA hB X1 HL1 HL2
      have HX2 := Lib.hid X2
      have HY2 := Lib.hid Y2
      clear X2 Y2
      generalize wr.heap.size = y1 at *
      generalize z1.heap.size = y2 at *
      go_wp2_with first | (refine wpList_load_box rfl 28 _ rfl HX2.out (by rfl) Tryd.underlying28 rfl (by kernel_rfl) ?_) | (refine wpList_load_box rfl 28 _ rfl HY2.out (by rfl) Tryd.underlying28 rfl (by kernel_rfl) ?_)
      refine (CE.out z2 hz2).mono ?_
      rintro e w5 ⟨rfl, hb5⟩
      have HB5 := hz2.trans (hb5.mono hz2.size)
      clear hb5 HX2 HY2
      cases ck with
      | false =>
        go_wp2_with fail
        go_ret
        exact ⟨by rw [Sj.sameL_no k g1 g2 HCK.out.symm]; rfl, HB5⟩
      | true =>
        go_wp2_with fail
        go_roundw
        case rel => exact ⟨k + 1, by omega, by go_num, Lib.hid (by rw [Sj.sameL_snoc k g1 g2, HC.out, ← HCK.out]; rfl), HB5⟩
        case measure => simp [intOf]; omega
    · go_wp2_with fail
      go_ret
      have hnn : k = n := by omega
      subst hnn
      have h5 := HC.out
      rw [List.take_of_length_le (by have := HN.out; omega), List.take_of_length_le (by have := HN2.out; omega)] at h5
      exact ⟨by rw [h5]; rfl, hb⟩

set_option maxHeartbeats 16000000 in
set_option maxRecDepth 100000 in
theorem sameJ_any (s : Sj) : ∀ (t : Sj) (v u : JV) (w : World), RdJ (fun _ => True) w v s → RdJ (fun _ => True) w u t → Calls Tryd.prog 9 #[v.val, u.val] w fun e w' => e = .returned (.bool (s.same t)) ∧ Below w.heap.size w w' := by
  induction s using Sj.ind with
  | h kd sb da ns kk ks ih =>
  intro t v u w hr hru
  obtain ⟨kd2, sb2, da2, ns2, kk2, ks2⟩ := t
  have IH := Lib.hid ih
  clear ih
  have HRR := Lib.hid hr
  obtain ⟨⟨hkd, hsb, hkk, hb8, hk0, hk1⟩, hs1, hn, ⟨Z, hN⟩, K, hrow, hk⟩ := hr.parts
  obtain ⟨vkd, vs, va1, vn1, vc1, va2, vn2, vc2, vk, va3, vn3, vc3⟩ := v
  dsimp only at hkd hsb hkk hb8 hk0 hk1 hs1 hn hN hrow hk
  obtain rfl : vkd = kd := hkd
  obtain rfl : vs = sb := hsb
  obtain rfl : vk = kk := hkk
  replace hn : vn3 = ks.length := hn
  replace hs1 : Sl w va1 vn1 vc1 da := hs1
  replace hN : RowN (fun _ => True) w va2 vn2 vc2 Z ns := hN
  replace hk : ∀ i (hi : i < ks.length), RdJ (fun _ => True) w (K i) ks[i] := hk
  have HK := Lib.hid hk
  have HR := Lib.hid hrow
  have HS := Lib.hid hs1
  have HNS := Lib.hid hN.1
  have HN3 := Lib.hid hn
  clear hk hrow hr hs1 hN hn hb8 hk0 hk1
  have GRR := Lib.hid hru
  obtain ⟨⟨hkd, hsb, hkk, hb8, hk0, hk1⟩, hs1, hn, ⟨Z2, hN⟩, K2, hrow, hk⟩ := hru.parts
  obtain ⟨ukd, us, ua1, un1, uc1, ua2, un2, uc2, uk, ua3, un3, uc3⟩ := u
  dsimp only at hkd hsb hkk hb8 hk0 hk1 hs1 hn hN hrow hk
  obtain rfl : ukd = kd2 := hkd
  obtain rfl : us = sb2 := hsb
  obtain rfl : uk = kk2 := hkk
  replace hn : un3 = ks2.length := hn
  replace hs1 : Sl w ua1 un1 uc1 da2 := hs1
  replace hN : RowN (fun _ => True) w ua2 un2 uc2 Z2 ns2 := hN
  replace hk : ∀ i (hi : i < ks2.length), RdJ (fun _ => True) w (K2 i) ks2[i] := hk
  have GK := Lib.hid hk
  have GR := Lib.hid hrow
  have GS := Lib.hid hs1
  have GNS := Lib.hid hN.1
  have GN3 := Lib.hid hn
  clear hk hrow hru hs1 hN hn hb8 hk0 hk1
  have HD := Lib.hid (sameJ_def vkd vs da ns vk ks ukd us da2 ns2 uk ks2)
  generalize (Sj.mk vkd vs da ns vk ks).same (.mk ukd us da2 ns2 uk ks2) = R at *
  have C3 := Lib.hid (fun w' (h : Below w.heap.size w w') => keySameP_any vs va1 vn1 vc1 da us ua1 un1 uc1 da2 w' (HS.out.after h) (GS.out.after h))
  have C4 := Lib.hid (fun w' (h : Below w.heap.size w w') => eqNames_any va2 vn2 vc2 Z ns ua2 un2 uc2 Z2 ns2 w' (HNS.out.after h) (GNS.out.after h))
  have C5 := Lib.hid (fun w' (h : Below w.heap.size w w') => equalJ_any va3 vn3 vc3 K ks ua3 un3 uc3 K2 ks2 w' (HR.out.after h) (GR.out.after h) HN3.out GN3.out (fun i h1 h2 w2 hw => IH.out _ (List.getElem_mem h1) _ _ _ _ (((HK.out i h1).after h).after hw) (((GK.out i h2).after h).after hw)))
  have HD3 := Lib.hid (show keySame vs da us da2 = (vs == us && da == da2) from rfl)
  rw [← HD3.out] at HD
  clear HD3
  generalize keySame vs da us da2 = r3 at *
  generalize (ns == ns2) = r4 at *
  generalize Sj.sameL ks ks2 = r5 at *
  have B : Below w.heap.size w ((w.alloc (.cells #[.int .u8 vkd, .bool vs, .slice va1 vn1 vc1, .slice va2 vn2 vc2, .int .i64 vk, .slice va3 vn3 vc3] 28)).alloc (.cells #[.int .u8 ukd, .bool us, .slice ua1 un1 uc1, .slice ua2 un2 uc2, .int .i64 uk, .slice ua3 un3 uc3] 28)) := ((Below.refl _ _).alloc (Nat.le_refl _) _).alloc (by simp) _
  have X : Hid (Box ((w.alloc (.cells #[.int .u8 vkd, .bool vs, .slice va1 vn1 vc1, .slice va2 vn2 vc2, .int .i64 vk, .slice va3 vn3 vc3] 28)).alloc (.cells #[.int .u8 ukd, .bool us, .slice ua1 un1 uc1, .slice ua2 un2 uc2, .int .i64 uk, .slice ua3 un3 uc3] 28)) w.heap.size 28 #[.int .u8 vkd, .bool vs, .slice va1 vn1 vc1, .slice va2 vn2 vc2, .int .i64 vk, .slice va3 vn3 vc3]) := Lib.hid ((Box.new _ _ _).alloc _)
  have Y : Hid (Box ((w.alloc (.cells #[.int .u8 vkd, .bool vs, .slice va1 vn1 vc1, .slice va2 vn2 vc2, .int .i64 vk, .slice va3 vn3 vc3] 28)).alloc (.cells #[.int .u8 ukd, .bool us, .slice ua1 un1 uc1, .slice ua2 un2 uc2, .int .i64 uk, .slice ua3 un3 uc3] 28)) (w.heap.size + 1) 28 #[.int .u8 ukd, .bool us, .slice ua1 un1 uc1, .slice ua2 un2 uc2, .int .i64 uk, .slice ua3 un3 uc3]) := Lib.hid (by
    have := Box.new (w.alloc (.cells #[.int .u8 vkd, .bool vs, .slice va1 vn1 vc1, .slice va2 vn2 vc2, .int .i64 vk, .slice va3 vn3 vc3] 28)) 28 #[.int .u8 ukd, .bool us, .slice ua1 un1 uc1, .slice ua2 un2 uc2, .int .i64 uk, .slice ua3 un3 uc3]
    simpa using this)
  show Calls _ _ #[.agg #[.int .u8 vkd, .bool vs, .slice va1 vn1 vc1, .slice va2 vn2 vc2, .int .i64 vk, .slice va3 vn3 vc3], .agg #[.int .u8 ukd, .bool us, .slice ua1 un1 uc1, .slice ua2 un2 uc2, .int .i64 uk, .slice ua3 un3 uc3]] _ _
  go_enter Tryd.func9, Tryd.ntmps9
  go_upto_region 1 with fail
  change Code.wp _ _ _ _ ((w.alloc (.cells #[.int .u8 vkd, .bool vs, .slice va1 vn1 vc1, .slice va2 vn2 vc2, .int .i64 vk, .slice va3 vn3 vc3] 28)).alloc (.cells #[.int .u8 ukd, .bool us, .slice ua1 un1 uc1, .slice ua2 un2 uc2, .int .i64 uk, .slice ua3 un3 uc3] 28))
  generalize ((w.alloc (.cells #[.int .u8 vkd, .bool vs, .slice va1 vn1 vc1, .slice va2 vn2 vc2, .int .i64 vk, .slice va3 vn3 vc3] 28)).alloc (.cells #[.int .u8 ukd, .bool us, .slice ua1 un1 uc1, .slice ua2 un2 uc2, .int .i64 uk, .slice ua3 un3 uc3] 28)) = x0 at *
  by_cases hq : vkd = ukd
  case neg =>
    have HF : Hid (R = false) := Lib.hid (by rw [HD.out]; simp [hq])
    go_step
    refine wpList_made 33 x0.heap.size x0 (Below.refl _ _) ?_
    simp only [List.take_succ_cons, List.take_zero, List.drop_succ_cons, List.drop_zero]
    refine wpQ_run rfl (.pointer (some ⟨w.heap.size, 0, none⟩)) (fun w' hw => by simp [go_sem]) ?_
    simp only [Act.put, List.setIfInBounds_toArray, List.set_cons_zero, List.set_cons_succ]
    refine wpQ_run rfl (.int .u8 vkd) (fun w' hw => by have := (X.out.after hw).cell 0 rfl; simp [go_sem, this]) ?_
    simp only [Act.put, List.setIfInBounds_toArray, List.set_cons_zero, List.set_cons_succ]
    refine wpQ_run rfl (.pointer (some ⟨(w.heap.size + 1), 0, none⟩)) (fun w' hw => by simp [go_sem]) ?_
    simp only [Act.put, List.setIfInBounds_toArray, List.set_cons_zero, List.set_cons_succ]
    refine wpQ_run rfl (.int .u8 ukd) (fun w' hw => by have := (Y.out.after hw).cell 0 rfl; simp [go_sem, this]) ?_
    simp only [Act.put, List.setIfInBounds_toArray, List.set_cons_zero, List.set_cons_succ]
    refine wpQ_run rfl (.bool false) (fun w' hw => by simp [go_sem]; omega) ?_
    simp only [Act.put, List.setIfInBounds_toArray, List.set_cons_zero, List.set_cons_succ]
    refine wpQ_run rfl (.bool false) (fun w' hw => by simp [go_sem]) ?_
    simp only [Act.put, List.setIfInBounds_toArray, List.set_cons_zero, List.set_cons_succ]
    refine wpQ_skip rfl ?_
    simp only [Act.put, List.setIfInBounds_toArray, List.set_cons_zero, List.set_cons_succ]
    refine wpQ_skip rfl ?_
    simp only [Act.put, List.setIfInBounds_toArray, List.set_cons_zero, List.set_cons_succ]
    refine wpQ_skip rfl ?_
    simp only [Act.put, List.setIfInBounds_toArray, List.set_cons_zero, List.set_cons_succ]
    refine wpQ_skip rfl ?_
    simp only [Act.put, List.setIfInBounds_toArray, List.set_cons_zero, List.set_cons_succ]
    refine wpQ_skip rfl ?_
    simp only [Act.put, List.setIfInBounds_toArray, List.set_cons_zero, List.set_cons_succ]
    refine wpQ_run rfl (.bool false) (fun w' hw => by simp [go_sem]) ?_
    simp only [Act.put, List.setIfInBounds_toArray, List.set_cons_zero, List.set_cons_succ]
    refine wpQ_run rfl (.bool false) (fun w' hw => by simp [go_sem]) ?_
    simp only [Act.put, List.setIfInBounds_toArray, List.set_cons_zero, List.set_cons_succ]
    refine wpQ_skip rfl ?_
    simp only [Act.put, List.setIfInBounds_toArray, List.set_cons_zero, List.set_cons_succ]
    refine wpQ_skip rfl ?_
    simp only [Act.put, List.setIfInBounds_toArray, List.set_cons_zero, List.set_cons_succ]
    refine wpQ_skip rfl ?_
    simp only [Act.put, List.setIfInBounds_toArray, List.set_cons_zero, List.set_cons_succ]
    refine wpQ_skip rfl ?_
    simp only [Act.put, List.setIfInBounds_toArray, List.set_cons_zero, List.set_cons_succ]
    refine wpQ_skip rfl ?_
    simp only [Act.put, List.setIfInBounds_toArray, List.set_cons_zero, List.set_cons_succ]
    refine wpQ_run rfl (.bool false) (fun w' hw => by simp [go_sem]) ?_
    simp only [Act.put, List.setIfInBounds_toArray, List.set_cons_zero, List.set_cons_succ]
    refine wpQ_run rfl (.bool false) (fun w' hw => by simp [go_sem]) ?_
    simp only [Act.put, List.setIfInBounds_toArray, List.set_cons_zero, List.set_cons_succ]
    refine wpQ_skip rfl ?_
    simp only [Act.put, List.setIfInBounds_toArray, List.set_cons_zero, List.set_cons_succ]
    refine wpQ_skip rfl ?_
    simp only [Act.put, List.setIfInBounds_toArray, List.set_cons_zero, List.set_cons_succ]
    refine wpQ_skip rfl ?_
    simp only [Act.put, List.setIfInBounds_toArray, List.set_cons_zero, List.set_cons_succ]
    refine wpQ_skip rfl ?_
    simp only [Act.put, List.setIfInBounds_toArray, List.set_cons_zero, List.set_cons_succ]
    refine wpQ_skip rfl ?_
    simp only [Act.put, List.setIfInBounds_toArray, List.set_cons_zero, List.set_cons_succ]
    refine wpQ_run rfl (.bool false) (fun w' hw => by simp [go_sem]) ?_
    simp only [Act.put, List.setIfInBounds_toArray, List.set_cons_zero, List.set_cons_succ]
    refine wpQ_run rfl (.bool false) (fun w' hw => by simp [go_sem]) ?_
    simp only [Act.put, List.setIfInBounds_toArray, List.set_cons_zero, List.set_cons_succ]
    refine wpQ_skip rfl ?_
    simp only [Act.put, List.setIfInBounds_toArray, List.set_cons_zero, List.set_cons_succ]
    refine wpQ_skip rfl ?_
    simp only [Act.put, List.setIfInBounds_toArray, List.set_cons_zero, List.set_cons_succ]
    refine wpQ_skip rfl ?_
    simp only [Act.put, List.setIfInBounds_toArray, List.set_cons_zero, List.set_cons_succ]
    refine wpQ_skip rfl ?_
    simp only [Act.put, List.setIfInBounds_toArray, List.set_cons_zero, List.set_cons_succ]
    refine wpQ_skip rfl ?_
    simp only [Act.put, List.setIfInBounds_toArray, List.set_cons_zero, List.set_cons_succ]
    refine wpQ_run rfl (.bool false) (fun w' hw => by simp [go_sem]) ?_
    simp only [Act.put, List.setIfInBounds_toArray, List.set_cons_zero, List.set_cons_succ]
    intro y1 hb1
    replace B := B.trans (hb1.mono B.size)
    clear hb1
    go_wp2_with fail
    go_ret
    exact ⟨by rw [HF.out]; rfl, B⟩
  subst hq
  by_cases hq : vk = uk
  case neg =>
    have HF : Hid (R = false) := Lib.hid (by rw [HD.out]; simp [hq])
    go_step
    refine wpList_made 33 x0.heap.size x0 (Below.refl _ _) ?_
    simp only [List.take_succ_cons, List.take_zero, List.drop_succ_cons, List.drop_zero]
    refine wpQ_run rfl (.pointer (some ⟨w.heap.size, 0, none⟩)) (fun w' hw => by simp [go_sem]) ?_
    simp only [Act.put, List.setIfInBounds_toArray, List.set_cons_zero, List.set_cons_succ]
    refine wpQ_run rfl (.int .u8 vkd) (fun w' hw => by have := (X.out.after hw).cell 0 rfl; simp [go_sem, this]) ?_
    simp only [Act.put, List.setIfInBounds_toArray, List.set_cons_zero, List.set_cons_succ]
    refine wpQ_run rfl (.pointer (some ⟨(w.heap.size + 1), 0, none⟩)) (fun w' hw => by simp [go_sem]) ?_
    simp only [Act.put, List.setIfInBounds_toArray, List.set_cons_zero, List.set_cons_succ]
    refine wpQ_run rfl (.int .u8 vkd) (fun w' hw => by have := (Y.out.after hw).cell 0 rfl; simp [go_sem, this]) ?_
    simp only [Act.put, List.setIfInBounds_toArray, List.set_cons_zero, List.set_cons_succ]
    refine wpQ_run rfl (.bool true) (fun w' hw => by simp [go_sem]) ?_
    simp only [Act.put, List.setIfInBounds_toArray, List.set_cons_zero, List.set_cons_succ]
    refine wpQ_run rfl (.bool true) (fun w' hw => by simp [go_sem]) ?_
    simp only [Act.put, List.setIfInBounds_toArray, List.set_cons_zero, List.set_cons_succ]
    refine wpQ_run rfl (.pointer (some ⟨w.heap.size, 4, none⟩)) (fun w' hw => by simp [go_sem]) ?_
    simp only [Act.put, List.setIfInBounds_toArray, List.set_cons_zero, List.set_cons_succ]
    refine wpQ_run rfl (.int .i64 vk) (fun w' hw => by have := (X.out.after hw).cell 4 rfl; simp [go_sem, this]) ?_
    simp only [Act.put, List.setIfInBounds_toArray, List.set_cons_zero, List.set_cons_succ]
    refine wpQ_run rfl (.pointer (some ⟨(w.heap.size + 1), 4, none⟩)) (fun w' hw => by simp [go_sem]) ?_
    simp only [Act.put, List.setIfInBounds_toArray, List.set_cons_zero, List.set_cons_succ]
    refine wpQ_run rfl (.int .i64 uk) (fun w' hw => by have := (Y.out.after hw).cell 4 rfl; simp [go_sem, this]) ?_
    simp only [Act.put, List.setIfInBounds_toArray, List.set_cons_zero, List.set_cons_succ]
    refine wpQ_run rfl (.bool false) (fun w' hw => by simp [go_sem, hq]) ?_
    simp only [Act.put, List.setIfInBounds_toArray, List.set_cons_zero, List.set_cons_succ]
    refine wpQ_run rfl (.bool false) (fun w' hw => by simp [go_sem]) ?_
    simp only [Act.put, List.setIfInBounds_toArray, List.set_cons_zero, List.set_cons_succ]
    refine wpQ_run rfl (.bool false) (fun w' hw => by simp [go_sem]) ?_
    simp only [Act.put, List.setIfInBounds_toArray, List.set_cons_zero, List.set_cons_succ]
    refine wpQ_skip rfl ?_
    simp only [Act.put, List.setIfInBounds_toArray, List.set_cons_zero, List.set_cons_succ]
    refine wpQ_skip rfl ?_
    simp only [Act.put, List.setIfInBounds_toArray, List.set_cons_zero, List.set_cons_succ]
    refine wpQ_skip rfl ?_
    simp only [Act.put, List.setIfInBounds_toArray, List.set_cons_zero, List.set_cons_succ]
    refine wpQ_skip rfl ?_
    simp only [Act.put, List.setIfInBounds_toArray, List.set_cons_zero, List.set_cons_succ]
    refine wpQ_skip rfl ?_
    simp only [Act.put, List.setIfInBounds_toArray, List.set_cons_zero, List.set_cons_succ]
    refine wpQ_run rfl (.bool false) (fun w' hw => by simp [go_sem]) ?_
    simp only [Act.put, List.setIfInBounds_toArray, List.set_cons_zero, List.set_cons_succ]
    refine wpQ_run rfl (.bool false) (fun w' hw => by simp [go_sem]) ?_
    simp only [Act.put, List.setIfInBounds_toArray, List.set_cons_zero, List.set_cons_succ]
    refine wpQ_skip rfl ?_
    simp only [Act.put, List.setIfInBounds_toArray, List.set_cons_zero, List.set_cons_succ]
    refine wpQ_skip rfl ?_
    simp only [Act.put, List.setIfInBounds_toArray, List.set_cons_zero, List.set_cons_succ]
    refine wpQ_skip rfl ?_
    simp only [Act.put, List.setIfInBounds_toArray, List.set_cons_zero, List.set_cons_succ]
    refine wpQ_skip rfl ?_
    simp only [Act.put, List.setIfInBounds_toArray, List.set_cons_zero, List.set_cons_succ]
    refine wpQ_skip rfl ?_
    simp only [Act.put, List.setIfInBounds_toArray, List.set_cons_zero, List.set_cons_succ]
    refine wpQ_run rfl (.bool false) (fun w' hw => by simp [go_sem]) ?_
    simp only [Act.put, List.setIfInBounds_toArray, List.set_cons_zero, List.set_cons_succ]
    refine wpQ_run rfl (.bool false) (fun w' hw => by simp [go_sem]) ?_
    simp only [Act.put, List.setIfInBounds_toArray, List.set_cons_zero, List.set_cons_succ]
    refine wpQ_skip rfl ?_
    simp only [Act.put, List.setIfInBounds_toArray, List.set_cons_zero, List.set_cons_succ]
    refine wpQ_skip rfl ?_
    simp only [Act.put, List.setIfInBounds_toArray, List.set_cons_zero, List.set_cons_succ]
    refine wpQ_skip rfl ?_
    simp only [Act.put, List.setIfInBounds_toArray, List.set_cons_zero, List.set_cons_succ]
    refine wpQ_skip rfl ?_
    simp only [Act.put, List.setIfInBounds_toArray, List.set_cons_zero, List.set_cons_succ]
    refine wpQ_skip rfl ?_
    simp only [Act.put, List.setIfInBounds_toArray, List.set_cons_zero, List.set_cons_succ]
    refine wpQ_run rfl (.bool false) (fun w' hw => by simp [go_sem]) ?_
    simp only [Act.put, List.setIfInBounds_toArray, List.set_cons_zero, List.set_cons_succ]
    intro y1 hb1
    replace B := B.trans (hb1.mono B.size)
    clear hb1
    go_wp2_with fail
    go_ret
    exact ⟨by rw [HF.out]; rfl, B⟩
  subst hq
  cases r3 with
  | false =>
    have HF : Hid (R = false) := Lib.hid (by rw [HD.out]; simp)
    go_step
    refine wpList_made 33 x0.heap.size x0 (Below.refl _ _) ?_
    simp only [List.take_succ_cons, List.take_zero, List.drop_succ_cons, List.drop_zero]
    refine wpQ_run rfl (.pointer (some ⟨w.heap.size, 0, none⟩)) (fun w' hw => by simp [go_sem]) ?_
    simp only [Act.put, List.setIfInBounds_toArray, List.set_cons_zero, List.set_cons_succ]
    refine wpQ_run rfl (.int .u8 vkd) (fun w' hw => by have := (X.out.after hw).cell 0 rfl; simp [go_sem, this]) ?_
    simp only [Act.put, List.setIfInBounds_toArray, List.set_cons_zero, List.set_cons_succ]
    refine wpQ_run rfl (.pointer (some ⟨(w.heap.size + 1), 0, none⟩)) (fun w' hw => by simp [go_sem]) ?_
    simp only [Act.put, List.setIfInBounds_toArray, List.set_cons_zero, List.set_cons_succ]
    refine wpQ_run rfl (.int .u8 vkd) (fun w' hw => by have := (Y.out.after hw).cell 0 rfl; simp [go_sem, this]) ?_
    simp only [Act.put, List.setIfInBounds_toArray, List.set_cons_zero, List.set_cons_succ]
    refine wpQ_run rfl (.bool true) (fun w' hw => by simp [go_sem]) ?_
    simp only [Act.put, List.setIfInBounds_toArray, List.set_cons_zero, List.set_cons_succ]
    refine wpQ_run rfl (.bool true) (fun w' hw => by simp [go_sem]) ?_
    simp only [Act.put, List.setIfInBounds_toArray, List.set_cons_zero, List.set_cons_succ]
    refine wpQ_run rfl (.pointer (some ⟨w.heap.size, 4, none⟩)) (fun w' hw => by simp [go_sem]) ?_
    simp only [Act.put, List.setIfInBounds_toArray, List.set_cons_zero, List.set_cons_succ]
    refine wpQ_run rfl (.int .i64 vk) (fun w' hw => by have := (X.out.after hw).cell 4 rfl; simp [go_sem, this]) ?_
    simp only [Act.put, List.setIfInBounds_toArray, List.set_cons_zero, List.set_cons_succ]
    refine wpQ_run rfl (.pointer (some ⟨(w.heap.size + 1), 4, none⟩)) (fun w' hw => by simp [go_sem]) ?_
    simp only [Act.put, List.setIfInBounds_toArray, List.set_cons_zero, List.set_cons_succ]
    refine wpQ_run rfl (.int .i64 vk) (fun w' hw => by have := (Y.out.after hw).cell 4 rfl; simp [go_sem, this]) ?_
    simp only [Act.put, List.setIfInBounds_toArray, List.set_cons_zero, List.set_cons_succ]
    refine wpQ_run rfl (.bool true) (fun w' hw => by simp [go_sem]) ?_
    simp only [Act.put, List.setIfInBounds_toArray, List.set_cons_zero, List.set_cons_succ]
    refine wpQ_run rfl (.bool true) (fun w' hw => by simp [go_sem]) ?_
    simp only [Act.put, List.setIfInBounds_toArray, List.set_cons_zero, List.set_cons_succ]
    refine wpQ_run rfl (.bool true) (fun w' hw => by simp [go_sem]) ?_
    simp only [Act.put, List.setIfInBounds_toArray, List.set_cons_zero, List.set_cons_succ]
    refine wpQ_run rfl (.pointer (some ⟨w.heap.size, 1, none⟩)) (fun w' hw => by simp [go_sem]) ?_
    simp only [Act.put, List.setIfInBounds_toArray, List.set_cons_zero, List.set_cons_succ]
    refine wpQ_load_mid rfl 24 _ rfl _ 1 rfl [.bool vs, .slice va1 vn1 vc1] _ (Box.mid X.out 1 _ (mid2 rfl rfl)) X.out.lt Tryd.underlying24 rfl (by kernel_rfl) ?_
    simp only [Act.put, List.setIfInBounds_toArray, List.set_cons_zero, List.set_cons_succ]
    refine wpQ_run rfl (.pointer (some ⟨(w.heap.size + 1), 1, none⟩)) (fun w' hw => by simp [go_sem]) ?_
    simp only [Act.put, List.setIfInBounds_toArray, List.set_cons_zero, List.set_cons_succ]
    refine wpQ_load_mid rfl 24 _ rfl _ 1 rfl [.bool us, .slice ua1 un1 uc1] _ (Box.mid Y.out 1 _ (mid2 rfl rfl)) Y.out.lt Tryd.underlying24 rfl (by kernel_rfl) ?_
    simp only [Act.put, List.setIfInBounds_toArray, List.set_cons_zero, List.set_cons_succ]
    refine wpQ_callS rfl 19 #[.agg #[.bool vs, .slice va1 vn1 vc1], .agg #[.bool us, .slice ua1 un1 uc1]] (fun w' => by simp [go_sem]) (.bool false) (Nat.le_refl _) (fun w' hw => C3.out w' (B.trans (hw.mono B.size))) ?_
    simp only [Act.put, List.setIfInBounds_toArray, List.set_cons_zero, List.set_cons_succ]
    refine wpQ_run rfl (.bool false) (fun w' hw => by simp [go_sem]) ?_
    simp only [Act.put, List.setIfInBounds_toArray, List.set_cons_zero, List.set_cons_succ]
    refine wpQ_run rfl (.bool false) (fun w' hw => by simp [go_sem]) ?_
    simp only [Act.put, List.setIfInBounds_toArray, List.set_cons_zero, List.set_cons_succ]
    refine wpQ_skip rfl ?_
    simp only [Act.put, List.setIfInBounds_toArray, List.set_cons_zero, List.set_cons_succ]
    refine wpQ_skip rfl ?_
    simp only [Act.put, List.setIfInBounds_toArray, List.set_cons_zero, List.set_cons_succ]
    refine wpQ_skip rfl ?_
    simp only [Act.put, List.setIfInBounds_toArray, List.set_cons_zero, List.set_cons_succ]
    refine wpQ_skip rfl ?_
    simp only [Act.put, List.setIfInBounds_toArray, List.set_cons_zero, List.set_cons_succ]
    refine wpQ_skip rfl ?_
    simp only [Act.put, List.setIfInBounds_toArray, List.set_cons_zero, List.set_cons_succ]
    refine wpQ_run rfl (.bool false) (fun w' hw => by simp [go_sem]) ?_
    simp only [Act.put, List.setIfInBounds_toArray, List.set_cons_zero, List.set_cons_succ]
    refine wpQ_run rfl (.bool false) (fun w' hw => by simp [go_sem]) ?_
    simp only [Act.put, List.setIfInBounds_toArray, List.set_cons_zero, List.set_cons_succ]
    refine wpQ_skip rfl ?_
    simp only [Act.put, List.setIfInBounds_toArray, List.set_cons_zero, List.set_cons_succ]
    refine wpQ_skip rfl ?_
    simp only [Act.put, List.setIfInBounds_toArray, List.set_cons_zero, List.set_cons_succ]
    refine wpQ_skip rfl ?_
    simp only [Act.put, List.setIfInBounds_toArray, List.set_cons_zero, List.set_cons_succ]
    refine wpQ_skip rfl ?_
    simp only [Act.put, List.setIfInBounds_toArray, List.set_cons_zero, List.set_cons_succ]
    refine wpQ_skip rfl ?_
    simp only [Act.put, List.setIfInBounds_toArray, List.set_cons_zero, List.set_cons_succ]
    refine wpQ_run rfl (.bool false) (fun w' hw => by simp [go_sem]) ?_
    simp only [Act.put, List.setIfInBounds_toArray, List.set_cons_zero, List.set_cons_succ]
    intro y1 hb1
    replace B := B.trans (hb1.mono B.size)
    clear hb1
    go_wp2_with fail
    go_ret
    exact ⟨by rw [HF.out]; rfl, B⟩
  | true =>
    cases r4 with
    | false =>
      have HF : Hid (R = false) := Lib.hid (by rw [HD.out]; simp)
      go_step
      refine wpList_made 33 x0.heap.size x0 (Below.refl _ _) ?_
      simp only [List.take_succ_cons, List.take_zero, List.drop_succ_cons, List.drop_zero]
      refine wpQ_run rfl (.pointer (some ⟨w.heap.size, 0, none⟩)) (fun w' hw => by simp [go_sem]) ?_
      simp only [Act.put, List.setIfInBounds_toArray, List.set_cons_zero, List.set_cons_succ]
      refine wpQ_run rfl (.int .u8 vkd) (fun w' hw => by have := (X.out.after hw).cell 0 rfl; simp [go_sem, this]) ?_
      simp only [Act.put, List.setIfInBounds_toArray, List.set_cons_zero, List.set_cons_succ]
      refine wpQ_run rfl (.pointer (some ⟨(w.heap.size + 1), 0, none⟩)) (fun w' hw => by simp [go_sem]) ?_
      simp only [Act.put, List.setIfInBounds_toArray, List.set_cons_zero, List.set_cons_succ]
      refine wpQ_run rfl (.int .u8 vkd) (fun w' hw => by have := (Y.out.after hw).cell 0 rfl; simp [go_sem, this]) ?_
      simp only [Act.put, List.setIfInBounds_toArray, List.set_cons_zero, List.set_cons_succ]
      refine wpQ_run rfl (.bool true) (fun w' hw => by simp [go_sem]) ?_
      simp only [Act.put, List.setIfInBounds_toArray, List.set_cons_zero, List.set_cons_succ]
      refine wpQ_run rfl (.bool true) (fun w' hw => by simp [go_sem]) ?_
      simp only [Act.put, List.setIfInBounds_toArray, List.set_cons_zero, List.set_cons_succ]
      refine wpQ_run rfl (.pointer (some ⟨w.heap.size, 4, none⟩)) (fun w' hw => by simp [go_sem]) ?_
      simp only [Act.put, List.setIfInBounds_toArray, List.set_cons_zero, List.set_cons_succ]
      refine wpQ_run rfl (.int .i64 vk) (fun w' hw => by have := (X.out.after hw).cell 4 rfl; simp [go_sem, this]) ?_
      simp only [Act.put, List.setIfInBounds_toArray, List.set_cons_zero, List.set_cons_succ]
      refine wpQ_run rfl (.pointer (some ⟨(w.heap.size + 1), 4, none⟩)) (fun w' hw => by simp [go_sem]) ?_
      simp only [Act.put, List.setIfInBounds_toArray, List.set_cons_zero, List.set_cons_succ]
      refine wpQ_run rfl (.int .i64 vk) (fun w' hw => by have := (Y.out.after hw).cell 4 rfl; simp [go_sem, this]) ?_
      simp only [Act.put, List.setIfInBounds_toArray, List.set_cons_zero, List.set_cons_succ]
      refine wpQ_run rfl (.bool true) (fun w' hw => by simp [go_sem]) ?_
      simp only [Act.put, List.setIfInBounds_toArray, List.set_cons_zero, List.set_cons_succ]
      refine wpQ_run rfl (.bool true) (fun w' hw => by simp [go_sem]) ?_
      simp only [Act.put, List.setIfInBounds_toArray, List.set_cons_zero, List.set_cons_succ]
      refine wpQ_run rfl (.bool true) (fun w' hw => by simp [go_sem]) ?_
      simp only [Act.put, List.setIfInBounds_toArray, List.set_cons_zero, List.set_cons_succ]
      refine wpQ_run rfl (.pointer (some ⟨w.heap.size, 1, none⟩)) (fun w' hw => by simp [go_sem]) ?_
      simp only [Act.put, List.setIfInBounds_toArray, List.set_cons_zero, List.set_cons_succ]
      refine wpQ_load_mid rfl 24 _ rfl _ 1 rfl [.bool vs, .slice va1 vn1 vc1] _ (Box.mid X.out 1 _ (mid2 rfl rfl)) X.out.lt Tryd.underlying24 rfl (by kernel_rfl) ?_
      simp only [Act.put, List.setIfInBounds_toArray, List.set_cons_zero, List.set_cons_succ]
      refine wpQ_run rfl (.pointer (some ⟨(w.heap.size + 1), 1, none⟩)) (fun w' hw => by simp [go_sem]) ?_
      simp only [Act.put, List.setIfInBounds_toArray, List.set_cons_zero, List.set_cons_succ]
      refine wpQ_load_mid rfl 24 _ rfl _ 1 rfl [.bool us, .slice ua1 un1 uc1] _ (Box.mid Y.out 1 _ (mid2 rfl rfl)) Y.out.lt Tryd.underlying24 rfl (by kernel_rfl) ?_
      simp only [Act.put, List.setIfInBounds_toArray, List.set_cons_zero, List.set_cons_succ]
      refine wpQ_callS rfl 19 #[.agg #[.bool vs, .slice va1 vn1 vc1], .agg #[.bool us, .slice ua1 un1 uc1]] (fun w' => by simp [go_sem]) (.bool true) (Nat.le_refl _) (fun w' hw => C3.out w' (B.trans (hw.mono B.size))) ?_
      simp only [Act.put, List.setIfInBounds_toArray, List.set_cons_zero, List.set_cons_succ]
      refine wpQ_run rfl (.bool true) (fun w' hw => by simp [go_sem]) ?_
      simp only [Act.put, List.setIfInBounds_toArray, List.set_cons_zero, List.set_cons_succ]
      refine wpQ_run rfl (.bool true) (fun w' hw => by simp [go_sem]) ?_
      simp only [Act.put, List.setIfInBounds_toArray, List.set_cons_zero, List.set_cons_succ]
      refine wpQ_run rfl (.pointer (some ⟨w.heap.size, 3, none⟩)) (fun w' hw => by simp [go_sem]) ?_
      simp only [Act.put, List.setIfInBounds_toArray, List.set_cons_zero, List.set_cons_succ]
      refine wpQ_run rfl (.slice va2 vn2 vc2) (fun w' hw => by have := (X.out.after hw).cell 3 rfl; simp [go_sem, this]) ?_
      simp only [Act.put, List.setIfInBounds_toArray, List.set_cons_zero, List.set_cons_succ]
      refine wpQ_run rfl (.pointer (some ⟨(w.heap.size + 1), 3, none⟩)) (fun w' hw => by simp [go_sem]) ?_
      simp only [Act.put, List.setIfInBounds_toArray, List.set_cons_zero, List.set_cons_succ]
      refine wpQ_run rfl (.slice ua2 un2 uc2) (fun w' hw => by have := (Y.out.after hw).cell 3 rfl; simp [go_sem, this]) ?_
      simp only [Act.put, List.setIfInBounds_toArray, List.set_cons_zero, List.set_cons_succ]
      refine wpQ_callS rfl 20 #[.slice va2 vn2 vc2, .slice ua2 un2 uc2, .func (.func 21) #[] #[]] (fun w' => by simp [go_sem]) (.bool false) (Nat.le_refl _) (fun w' hw => C4.out w' (B.trans (hw.mono B.size))) ?_
      simp only [Act.put, List.setIfInBounds_toArray, List.set_cons_zero, List.set_cons_succ]
      refine wpQ_run rfl (.bool false) (fun w' hw => by simp [go_sem]) ?_
      simp only [Act.put, List.setIfInBounds_toArray, List.set_cons_zero, List.set_cons_succ]
      refine wpQ_run rfl (.bool false) (fun w' hw => by simp [go_sem]) ?_
      simp only [Act.put, List.setIfInBounds_toArray, List.set_cons_zero, List.set_cons_succ]
      refine wpQ_skip rfl ?_
      simp only [Act.put, List.setIfInBounds_toArray, List.set_cons_zero, List.set_cons_succ]
      refine wpQ_skip rfl ?_
      simp only [Act.put, List.setIfInBounds_toArray, List.set_cons_zero, List.set_cons_succ]
      refine wpQ_skip rfl ?_
      simp only [Act.put, List.setIfInBounds_toArray, List.set_cons_zero, List.set_cons_succ]
      refine wpQ_skip rfl ?_
      simp only [Act.put, List.setIfInBounds_toArray, List.set_cons_zero, List.set_cons_succ]
      refine wpQ_skip rfl ?_
      simp only [Act.put, List.setIfInBounds_toArray, List.set_cons_zero, List.set_cons_succ]
      refine wpQ_run rfl (.bool false) (fun w' hw => by simp [go_sem]) ?_
      simp only [Act.put, List.setIfInBounds_toArray, List.set_cons_zero, List.set_cons_succ]
      intro y1 hb1
      replace B := B.trans (hb1.mono B.size)
      clear hb1
      go_wp2_with fail
      go_ret
      exact ⟨by rw [HF.out]; rfl, B⟩
    | true =>
      have HF : Hid (R = r5) := Lib.hid (by rw [HD.out]; simp)
      go_step
      refine wpList_made 33 x0.heap.size x0 (Below.refl _ _) ?_
      simp only [List.take_succ_cons, List.take_zero, List.drop_succ_cons, List.drop_zero]
      refine wpQ_run rfl (.pointer (some ⟨w.heap.size, 0, none⟩)) (fun w' hw => by simp [go_sem]) ?_
      simp only [Act.put, List.setIfInBounds_toArray, List.set_cons_zero, List.set_cons_succ]
      refine wpQ_run rfl (.int .u8 vkd) (fun w' hw => by have := (X.out.after hw).cell 0 rfl; simp [go_sem, this]) ?_
      simp only [Act.put, List.setIfInBounds_toArray, List.set_cons_zero, List.set_cons_succ]
      refine wpQ_run rfl (.pointer (some ⟨(w.heap.size + 1), 0, none⟩)) (fun w' hw => by simp [go_sem]) ?_
      simp only [Act.put, List.setIfInBounds_toArray, List.set_cons_zero, List.set_cons_succ]
      refine wpQ_run rfl (.int .u8 vkd) (fun w' hw => by have := (Y.out.after hw).cell 0 rfl; simp [go_sem, this]) ?_
      simp only [Act.put, List.setIfInBounds_toArray, List.set_cons_zero, List.set_cons_succ]
      refine wpQ_run rfl (.bool true) (fun w' hw => by simp [go_sem]) ?_
      simp only [Act.put, List.setIfInBounds_toArray, List.set_cons_zero, List.set_cons_succ]
      refine wpQ_run rfl (.bool true) (fun w' hw => by simp [go_sem]) ?_
      simp only [Act.put, List.setIfInBounds_toArray, List.set_cons_zero, List.set_cons_succ]
      refine wpQ_run rfl (.pointer (some ⟨w.heap.size, 4, none⟩)) (fun w' hw => by simp [go_sem]) ?_
      simp only [Act.put, List.setIfInBounds_toArray, List.set_cons_zero, List.set_cons_succ]
      refine wpQ_run rfl (.int .i64 vk) (fun w' hw => by have := (X.out.after hw).cell 4 rfl; simp [go_sem, this]) ?_
      simp only [Act.put, List.setIfInBounds_toArray, List.set_cons_zero, List.set_cons_succ]
      refine wpQ_run rfl (.pointer (some ⟨(w.heap.size + 1), 4, none⟩)) (fun w' hw => by simp [go_sem]) ?_
      simp only [Act.put, List.setIfInBounds_toArray, List.set_cons_zero, List.set_cons_succ]
      refine wpQ_run rfl (.int .i64 vk) (fun w' hw => by have := (Y.out.after hw).cell 4 rfl; simp [go_sem, this]) ?_
      simp only [Act.put, List.setIfInBounds_toArray, List.set_cons_zero, List.set_cons_succ]
      refine wpQ_run rfl (.bool true) (fun w' hw => by simp [go_sem]) ?_
      simp only [Act.put, List.setIfInBounds_toArray, List.set_cons_zero, List.set_cons_succ]
      refine wpQ_run rfl (.bool true) (fun w' hw => by simp [go_sem]) ?_
      simp only [Act.put, List.setIfInBounds_toArray, List.set_cons_zero, List.set_cons_succ]
      refine wpQ_run rfl (.bool true) (fun w' hw => by simp [go_sem]) ?_
      simp only [Act.put, List.setIfInBounds_toArray, List.set_cons_zero, List.set_cons_succ]
      refine wpQ_run rfl (.pointer (some ⟨w.heap.size, 1, none⟩)) (fun w' hw => by simp [go_sem]) ?_
      simp only [Act.put, List.setIfInBounds_toArray, List.set_cons_zero, List.set_cons_succ]
      refine wpQ_load_mid rfl 24 _ rfl _ 1 rfl [.bool vs, .slice va1 vn1 vc1] _ (Box.mid X.out 1 _ (mid2 rfl rfl)) X.out.lt Tryd.underlying24 rfl (by kernel_rfl) ?_
      simp only [Act.put, List.setIfInBounds_toArray, List.set_cons_zero, List.set_cons_succ]
      refine wpQ_run rfl (.pointer (some ⟨(w.heap.size + 1), 1, none⟩)) (fun w' hw => by simp [go_sem]) ?_
      simp only [Act.put, List.setIfInBounds_toArray, List.set_cons_zero, List.set_cons_succ]
      refine wpQ_load_mid rfl 24 _ rfl _ 1 rfl [.bool us, .slice ua1 un1 uc1] _ (Box.mid Y.out 1 _ (mid2 rfl rfl)) Y.out.lt Tryd.underlying24 rfl (by kernel_rfl) ?_
      simp only [Act.put, List.setIfInBounds_toArray, List.set_cons_zero, List.set_cons_succ]
      refine wpQ_callS rfl 19 #[.agg #[.bool vs, .slice va1 vn1 vc1], .agg #[.bool us, .slice ua1 un1 uc1]] (fun w' => by simp [go_sem]) (.bool true) (Nat.le_refl _) (fun w' hw => C3.out w' (B.trans (hw.mono B.size))) ?_
      simp only [Act.put, List.setIfInBounds_toArray, List.set_cons_zero, List.set_cons_succ]
      refine wpQ_run rfl (.bool true) (fun w' hw => by simp [go_sem]) ?_
      simp only [Act.put, List.setIfInBounds_toArray, List.set_cons_zero, List.set_cons_succ]
      refine wpQ_run rfl (.bool true) (fun w' hw => by simp [go_sem]) ?_
      simp only [Act.put, List.setIfInBounds_toArray, List.set_cons_zero, List.set_cons_succ]
      refine wpQ_run rfl (.pointer (some ⟨w.heap.size, 3, none⟩)) (fun w' hw => by simp [go_sem]) ?_
      simp only [Act.put, List.setIfInBounds_toArray, List.set_cons_zero, List.set_cons_succ]
      refine wpQ_run rfl (.slice va2 vn2 vc2) (fun w' hw => by have := (X.out.after hw).cell 3 rfl; simp [go_sem, this]) ?_
      simp only [Act.put, List.setIfInBounds_toArray, List.set_cons_zero, List.set_cons_succ]
      refine wpQ_run rfl (.pointer (some ⟨(w.heap.size + 1), 3, none⟩)) (fun w' hw => by simp [go_sem]) ?_
      simp only [Act.put, List.setIfInBounds_toArray, List.set_cons_zero, List.set_cons_succ]
      refine wpQ_run rfl (.slice ua2 un2 uc2) (fun w' hw => by have := (Y.out.after hw).cell 3 rfl; simp [go_sem, this]) ?_
      simp only [Act.put, List.setIfInBounds_toArray, List.set_cons_zero, List.set_cons_succ]
      refine wpQ_callS rfl 20 #[.slice va2 vn2 vc2, .slice ua2 un2 uc2, .func (.func 21) #[] #[]] (fun w' => by simp [go_sem]) (.bool true) (Nat.le_refl _) (fun w' hw => C4.out w' (B.trans (hw.mono B.size))) ?_
      simp only [Act.put, List.setIfInBounds_toArray, List.set_cons_zero, List.set_cons_succ]
      refine wpQ_run rfl (.bool true) (fun w' hw => by simp [go_sem]) ?_
      simp only [Act.put, List.setIfInBounds_toArray, List.set_cons_zero, List.set_cons_succ]
      refine wpQ_run rfl (.bool true) (fun w' hw => by simp [go_sem]) ?_
      simp only [Act.put, List.setIfInBounds_toArray, List.set_cons_zero, List.set_cons_succ]
      refine wpQ_run rfl (.pointer (some ⟨w.heap.size, 5, none⟩)) (fun w' hw => by simp [go_sem]) ?_
      simp only [Act.put, List.setIfInBounds_toArray, List.set_cons_zero, List.set_cons_succ]
      refine wpQ_run rfl (.slice va3 vn3 vc3) (fun w' hw => by have := (X.out.after hw).cell 5 rfl; simp [go_sem, this]) ?_
      simp only [Act.put, List.setIfInBounds_toArray, List.set_cons_zero, List.set_cons_succ]
      refine wpQ_run rfl (.pointer (some ⟨(w.heap.size + 1), 5, none⟩)) (fun w' hw => by simp [go_sem]) ?_
      simp only [Act.put, List.setIfInBounds_toArray, List.set_cons_zero, List.set_cons_succ]
      refine wpQ_run rfl (.slice ua3 un3 uc3) (fun w' hw => by have := (Y.out.after hw).cell 5 rfl; simp [go_sem, this]) ?_
      simp only [Act.put, List.setIfInBounds_toArray, List.set_cons_zero, List.set_cons_succ]
      refine wpQ_callS rfl 22 #[.slice va3 vn3 vc3, .slice ua3 un3 uc3, .func (.func 9) #[] #[]] (fun w' => by simp [go_sem]) (.bool r5) (Nat.le_refl _) (fun w' hw => C5.out w' (B.trans (hw.mono B.size))) ?_
      simp only [Act.put, List.setIfInBounds_toArray, List.set_cons_zero, List.set_cons_succ]
      refine wpQ_run rfl (.bool r5) (fun w' hw => by simp [go_sem]) ?_
      simp only [Act.put, List.setIfInBounds_toArray, List.set_cons_zero, List.set_cons_succ]
      intro y1 hb1
      replace B := B.trans (hb1.mono B.size)
      clear hb1
      go_wp2_with fail
      go_ret
      exact ⟨by rw [HF.out]; rfl, B⟩

end Go.Proofs.YthmigigclmogiaaDoor

/- The document's Print. -/
import Derived.Test.YtkbblhioncecmaaDoorNx1
namespace Go.Proofs.YtkbblhioncecmaaDoor
open Go.RowKit
set_option linter.unusedSimpArgs false
set_option linter.unusedVariables false

def StrP (l : List UInt8) (w : World) (e : Ending) (w' : World) : Prop := ∃ t : ByteArray, e = .returned (.string t) ∧ t.data.toList = l ∧ Below w.heap.size w w'
theorem size_of {t : ByteArray} {l : List UInt8} (h : t.data.toList = l) : t.size = l.length := by rw [← h]; simp
theorem plain_le {l : List UInt8} (h : l.length ≤ 1000000) : (plainL l).length ≤ 2000006 := by have := plainL_len l; omega
set_option maxHeartbeats 16000000 in
set_option maxRecDepth 100000 in
theorem rprint_any (s : Sx) : ∀ (v : SV) (w : World), Rd w v s → s.form.length ≤ 400000 → Calls Tryd.prog 19 #[v.val] w (StrP s.adv w) := by
  induction s using Sx.ind with
  | h l hh hi da ks ih =>
    intro v w hr hf
    obtain ⟨e1, e2, s1, s2, hn, hnc, hcm, K, hrow, hk⟩ := hr.parts
    obtain ⟨vl, vh, va1, vn1, vc1, va2, vn2, vc2, va3, vn3, vc3⟩ := v
    obtain rfl : vl = l := e1
    obtain rfl : vh = hh := e2
    have HS1 : Hid (Sl w va1 vn1 vc1 hi) := Lib.hid s1
    have HS2 : Hid (Sl w va2 vn2 vc2 da) := Lib.hid s2
    have HRW := Lib.hid hrow
    have HK := Lib.hid hk
    clear s1 s2 hr hrow hk
    cases vl with
    | false =>
      have hti := textL_ge hi
      have htd := textL_ge da
      clear ih hn hnc hcm HRW HK
      cases vh with
      | false =>
        have HA : Hid ((Sx.mk false false hi da ks).adv = plainL da) := Lib.hid (by simp [Sx.adv])
        have HFM : Hid (da.length + 1 ≤ 400000) := Lib.hid (by rw [form_def] at hf; simp at hf; omega)
        clear hf hti htd
        show Calls _ _ #[.agg #[.bool false, .bool false, .slice va1 vn1 vc1, .slice va2 vn2 vc2, .slice va3 vn3 vc3]] _ _
        have V := Lib.hid (Box.new w 26 #[.bool false, .bool false, .slice va1 vn1 vc1, .slice va2 vn2 vc2, .slice va3 vn3 vc3])
        have B0 : Below w.heap.size w (w.alloc (.cells #[.bool false, .bool false, .slice va1 vn1 vc1, .slice va2 vn2 vc2, .slice va3 vn3 vc3] 26)) := (Below.refl _ _).alloc (Nat.le_refl _) _
        go_enter Tryd.func19, Tryd.ntmps19
        go_upto_region 1 with fail
        change Code.wp _ _ _ _ (w.alloc (.cells #[.bool false, .bool false, .slice va1 vn1 vc1, .slice va2 vn2 vc2, .slice va3 vn3 vc3] 26))
        generalize (w.alloc (.cells #[.bool false, .bool false, .slice va1 vn1 vc1, .slice va2 vn2 vc2, .slice va3 vn3 vc3] 26)) = x0 at *
        have v0 := V.out.cell 0 rfl
        have v1 := V.out.cell 1 rfl
        have v2 := V.out.cell 2 rfl
        have v3 := V.out.cell 3 rfl
        have v4 := V.out.cell 4 rfl
        go_wp2_with fail
        refine (rbytes_any va2 vn2 vc2 da _ (HS2.out.after B0) (by have := HFM.out; have := HS2.out.1; omega)).mono ?_
        rintro e w1 ⟨rfl, b1⟩
        have B1 := B0.trans (b1.mono B0.size)
        clear v0 v1 v2 v3 v4
        go_wp2_with fail
        go_ret
        exact ⟨_, rfl, by rw [HA.out], B1⟩
      | true =>
        have HA : Hid ((Sx.mk false true hi da ks).adv = [91] ++ plainL hi ++ [93] ++ plainL da) := Lib.hid (by simp [Sx.adv])
        have HFM : Hid (da.length + hi.length + 1 ≤ 400000) := Lib.hid (by rw [form_def] at hf; simp at hf; omega)
        clear hf hti htd
        have hp1 := plain_le (l := hi) (by have := HFM.out; omega)
        have hp2 := plain_le (l := da) (by have := HFM.out; omega)
        show Calls _ _ #[.agg #[.bool false, .bool true, .slice va1 vn1 vc1, .slice va2 vn2 vc2, .slice va3 vn3 vc3]] _ _
        have V := Lib.hid (Box.new w 26 #[.bool false, .bool true, .slice va1 vn1 vc1, .slice va2 vn2 vc2, .slice va3 vn3 vc3])
        have B0 : Below w.heap.size w (w.alloc (.cells #[.bool false, .bool true, .slice va1 vn1 vc1, .slice va2 vn2 vc2, .slice va3 vn3 vc3] 26)) := (Below.refl _ _).alloc (Nat.le_refl _) _
        go_enter Tryd.func19, Tryd.ntmps19
        go_upto_region 1 with fail
        change Code.wp _ _ _ _ (w.alloc (.cells #[.bool false, .bool true, .slice va1 vn1 vc1, .slice va2 vn2 vc2, .slice va3 vn3 vc3] 26))
        generalize (w.alloc (.cells #[.bool false, .bool true, .slice va1 vn1 vc1, .slice va2 vn2 vc2, .slice va3 vn3 vc3] 26)) = x0 at *
        have v0 := V.out.cell 0 rfl
        have v1 := V.out.cell 1 rfl
        have v2 := V.out.cell 2 rfl
        have v3 := V.out.cell 3 rfl
        have v4 := V.out.cell 4 rfl
        go_upto_region 12 with fail
        clear v0 v1 v2 v3 v4
        refine wp_region_made x0.heap.size x0 rfl (by kernel_rfl) (Below.refl _ _) ?_
        refine wpQ_run rfl (.pointer (some ⟨w.heap.size, 2, none⟩)) (fun w' hw => by simp [go_sem]) ?_
        simp only [Act.put, List.setIfInBounds_toArray, List.set_cons_zero, List.set_cons_succ]
        refine wpQ_run rfl (.slice va1 vn1 vc1) (fun w' hw => by have := (V.out.after hw).cell 2 rfl; simp [go_sem, this]) ?_
        simp only [Act.put, List.setIfInBounds_toArray, List.set_cons_zero, List.set_cons_succ]
        refine wpQ_callS rfl 38 #[.slice va1 vn1 vc1] (fun w' => by simp [go_sem]) (.string ⟨(plainL hi).toArray⟩) (Nat.le_refl _) (fun w' hw => rbytes_any va1 vn1 vc1 hi w' (HS1.out.after (B0.trans (hw.mono B0.size))) (by have := HFM.out; have := HS1.out.1; omega)) ?_
        simp only [Act.put, List.setIfInBounds_toArray, List.set_cons_zero, List.set_cons_succ]
        refine wpQ_run rfl (.string (⟨#[91]⟩ ++ ⟨(plainL hi).toArray⟩)) (fun w' hw => by simp [go_sem, ByteArray.size_append] <;> (try simp [ByteArray.size]) <;> omega) ?_
        simp only [Act.put, List.setIfInBounds_toArray, List.set_cons_zero, List.set_cons_succ]
        refine wpQ_run rfl (.string ((⟨#[91]⟩ ++ ⟨(plainL hi).toArray⟩) ++ ⟨#[93]⟩)) (fun w' hw => by simp [go_sem, ByteArray.size_append] <;> (try simp [ByteArray.size]) <;> omega) ?_
        simp only [Act.put, List.setIfInBounds_toArray, List.set_cons_zero, List.set_cons_succ]
        refine wpQ_run rfl (.pointer (some ⟨w.heap.size, 3, none⟩)) (fun w' hw => by simp [go_sem]) ?_
        simp only [Act.put, List.setIfInBounds_toArray, List.set_cons_zero, List.set_cons_succ]
        refine wpQ_run rfl (.slice va2 vn2 vc2) (fun w' hw => by have := (V.out.after hw).cell 3 rfl; simp [go_sem, this]) ?_
        simp only [Act.put, List.setIfInBounds_toArray, List.set_cons_zero, List.set_cons_succ]
        refine wpQ_callS rfl 38 #[.slice va2 vn2 vc2] (fun w' => by simp [go_sem]) (.string ⟨(plainL da).toArray⟩) (Nat.le_refl _) (fun w' hw => rbytes_any va2 vn2 vc2 da w' (HS2.out.after (B0.trans (hw.mono B0.size))) (by have := HFM.out; have := HS2.out.1; omega)) ?_
        simp only [Act.put, List.setIfInBounds_toArray, List.set_cons_zero, List.set_cons_succ]
        refine wpQ_run rfl (.string (((⟨#[91]⟩ ++ ⟨(plainL hi).toArray⟩) ++ ⟨#[93]⟩) ++ ⟨(plainL da).toArray⟩)) (fun w' hw => by simp [go_sem, ByteArray.size_append] <;> (try simp [ByteArray.size]) <;> omega) ?_
        simp only [Act.put, List.setIfInBounds_toArray, List.set_cons_zero, List.set_cons_succ]
        refine wpQ_run rfl (.string (((⟨#[91]⟩ ++ ⟨(plainL hi).toArray⟩) ++ ⟨#[93]⟩) ++ ⟨(plainL da).toArray⟩)) (fun w' hw => by simp [go_sem]) ?_
        simp only [Act.put, List.setIfInBounds_toArray, List.set_cons_zero, List.set_cons_succ]
        intro y50 hb50
        go_wp2_with fail
        go_ret
        exact ⟨_, rfl, by rw [HA.out]; simp [ByteArray.data_append], B0.trans (hb50.mono B0.size)⟩
    | true =>
      have HA : Hid ((Sx.mk true vh hi da ks).adv = [40] ++ Sx.advL ks ++ [41]) := Lib.hid (by simp [Sx.adv])
      have HFM : Hid ((Sx.formL ks).length + 2 ≤ 400000) := Lib.hid (by rw [form_def] at hf; simp at hf; omega)
      have IH := Lib.hid ih
      obtain rfl : vn3 = ks.length := hn
      replace hnc : ks.length ≤ vc3 := hnc
      unfold maxLen at hcm
      have hkl : ks.length ≤ 9223372036854775807 := by
        have h : vc3 ≤ 2 ^ 63 - 1 := hcm
        omega
      clear hf ih hcm hnc
      show Calls _ _ #[.agg #[.bool true, .bool vh, .slice va1 vn1 vc1, .slice va2 vn2 vc2, .slice va3 ks.length vc3]] _ _
      have V := Lib.hid (Box.new w 26 #[.bool true, .bool vh, .slice va1 vn1 vc1, .slice va2 vn2 vc2, .slice va3 ks.length vc3])
      have B0 : Below w.heap.size w (w.alloc (.cells #[.bool true, .bool vh, .slice va1 vn1 vc1, .slice va2 vn2 vc2, .slice va3 ks.length vc3] 26)) := (Below.refl _ _).alloc (Nat.le_refl _) _
      go_enter Tryd.func19, Tryd.ntmps19
      go_upto_region 1 with fail
      change Code.wp _ _ _ _ (w.alloc (.cells #[.bool true, .bool vh, .slice va1 vn1 vc1, .slice va2 vn2 vc2, .slice va3 ks.length vc3] 26))
      generalize (w.alloc (.cells #[.bool true, .bool vh, .slice va1 vn1 vc1, .slice va2 vn2 vc2, .slice va3 ks.length vc3] 26)) = x0 at *
      have v0 := V.out.cell 0 rfl
      have v1 := V.out.cell 1 rfl
      have v2 := V.out.cell 2 rfl
      have v3 := V.out.cell 3 rfl
      have v4 := V.out.cell 4 rfl
      go_wp2_with fail
      clear v0 v1 v2 v3 v4
      go_loopw [3, 10] (fun sv i wr => ∃ (n : Nat) (S : ByteArray), n ≤ ks.length ∧ sv = .string S ∧ i = .int .i64 n ∧ Hid (S.data.toList = [40] ++ Sx.advL (ks.take n)) ∧ Hid (Box wr w.heap.size 26 #[.bool true, .bool vh, .slice va1 vn1 vc1, .slice va2 vn2 vc2, .slice va3 ks.length vc3]) ∧ Below w.heap.size w wr) (fun _ i _ => ks.length - (intOf i).toNat)
      case atStart => exact ⟨0, _, Nat.zero_le _, rfl, rfl, Lib.hid (by simp [Sx.advL]), V, B0⟩
      case round =>
        obtain ⟨n, S, hnl, rfl, rfl, HS, V2, B⟩ := hrel
        clear V B0
        have V := V2
        clear V2
        have hal : (Sx.advL (ks.take n)).length ≤ 3200000 := by
          have e1 := advL_len (ks.take n) (fun k hk => adv_len k)
          have e2 := Sx.formL_take ks n
          have := HFM.out
          omega
        have hSz : S.size ≤ 3200001 := by rw [size_of HS.out]; simp only [List.length_append, List.length_cons, List.length_nil]; omega
        by_cases hlt : n < ks.length
        · obtain ⟨b3, o3, ea, hld⟩ := (HRW.out.after B).range hlt
          subst ea
          have HL := Lib.hid hld
          obtain ⟨kid, hkid⟩ : ∃ kid, kid = ks[n] := ⟨_, rfl⟩
          have hkf : kid.form.length ≤ 400000 := by
            have e2 := Sx.formL_snoc ks n hlt
            have e3 := Sx.formL_take ks (n + 1)
            rw [e2, List.length_append, ← hkid] at e3
            have := HFM.out
            omega
          have HKN : Hid (∀ w', Below w.heap.size w w' → Rd w' (K n) kid) := Lib.hid (fun w' hb => by rw [hkid]; exact (HK.out n hlt).after hb)
          have IH2 : Hid (∀ w', Below w.heap.size w w' → Calls Tryd.prog 19 #[(K n).val] w' (StrP kid.adv w')) := Lib.hid (fun w' hb => IH.out kid (hkid ▸ List.getElem_mem hlt) (K n) w' (HKN.out w' hb) hkf)
          have HNX : Hid ([40] ++ Sx.advL (ks.take (n + 1)) = [40] ++ Sx.advL (ks.take n) ++ (if 0 < n then [32] else []) ++ kid.adv) := Lib.hid (by rw [Sx.advL_snoc ks n hlt, ← hkid]; simp)
          have hka := adv_len kid
          have v4 := V.out.cell 4 rfl
          clear hld hkid
          by_cases hn0 : 0 < n
          · have hn0' : (0 : Int) < (n : Int) := by omega
            go_wp2_with (refine wpList_load_sv rfl _ rfl b3 _ rfl _ HL.out ?_)
            refine (IH2.out _ B).mono ?_
            rintro e w3 ⟨t, rfl, ht, b3_⟩
            have V' := Lib.hid (V.out.after b3_)
            have B' := B.trans (b3_.mono B.size)
            have htz : t.size ≤ 3200000 := by rw [size_of ht]; omega
            have HTT := Lib.hid ht
            clear V B b3_ ht v4
            go_wp2_with fail
            go_roundw
            case rel => exact ⟨n + 1, (S ++ ⟨#[32]⟩) ++ t, by omega, rfl, by go_num, Lib.hid (by rw [HNX.out, if_pos hn0, ← HS.out, ← HTT.out]; simp [ByteArray.data_append]), V', B'⟩
            case measure => simp [intOf]; omega
          · have hn0' : ¬ (0 : Int) < (n : Int) := by omega
            go_wp2_with (refine wpList_load_sv rfl _ rfl b3 _ rfl _ HL.out ?_)
            refine (IH2.out _ B).mono ?_
            rintro e w3 ⟨t, rfl, ht, b3_⟩
            have V' := Lib.hid (V.out.after b3_)
            have B' := B.trans (b3_.mono B.size)
            have htz : t.size ≤ 3200000 := by rw [size_of ht]; omega
            have HTT := Lib.hid ht
            clear V B b3_ ht v4
            go_wp2_with fail
            go_roundw
            case rel => exact ⟨n + 1, S ++ t, by omega, rfl, by go_num, Lib.hid (by rw [HNX.out, if_neg hn0, ← HS.out, ← HTT.out]; simp [ByteArray.data_append]), V', B'⟩
            case measure => simp [intOf]; omega
        · have hlt' : ¬ (n : Int) < (ks.length : Int) := by omega
          have hte : ks.take n = ks := List.take_of_length_le (by omega)
          rw [hte] at HS
          clear hte
          go_wp2_with fail
          go_ret
          exact ⟨_, rfl, by rw [HA.out, ByteArray.data_append, Array.toList_append, HS.out], B⟩
end Go.Proofs.YtkbblhioncecmaaDoor

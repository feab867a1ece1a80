/- OctetReads: the bytes of any text, as digits and as Base64, or the error, are the document's; Base64 that is read is written as it stood: the walk. -/
import Derived.Test.YtpdkbbenoipohaaOctAwake
import Derived.Test.YtpdkbbenoipohaaOctUnb
import Derived.Test.YtpdkbbenoipohaaOctRefUnb2
namespace Go.Proofs.Ytpdkbbenoipohaa
open Go.RowKit

set_option maxHeartbeats 4000000 in
theorem OctetReads_walk (s : ByteArray) (_w0 : s.size ≤ maxLen) (w : World) :
    Calls Try.prog 5 #[.string s] w fun e w' => e = .returned (.bool true) ∧ Below w.heap.size w w' := by
  by_cases h0 : (1000 : Int) < s.size
  · go_enter Try.func5, Try.ntmps5
    go_wp2_with fail
    refine (awake_any _).mono ?_
    rintro e w1 ⟨rfl, hb⟩
    go_wp2_with fail
    go_ret
    exact ⟨rfl, hb⟩
  · replace h0 : (s.size : Int) ≤ 1000 := by omega
    obtain ⟨U, hU⟩ : ∃ U, U = unhex s.data.toList := ⟨_, rfl⟩
    obtain ⟨V, hV⟩ : ∃ V, V = unb64 s.data.toList := ⟨_, rfl⟩
    have HU := Lib.hid hU
    have HV := Lib.hid hV
    have HSL := Lib.hid (show s.toList = s.data.toList from Lib.toList_data s)
    clear hU hV
    have hcase : (U.isSome = true ∧ errForm U = 0 ∨ U.isSome = false ∧ errForm U = 3) ∧ (V.isSome = true ∧ errForm V = 0 ∨ V.isSome = false ∧ errForm V = 3) := by
      constructor
      · cases U <;> simp [errForm]
      · cases V <;> simp [errForm]
    have HB := Lib.hid (show V.isSome = true → b64 (V.getD []) = s.toList by
      rw [HV.out, HSL.out]
      unfold unb64
      split
      · intro _; assumption
      · intro h; cases h)
    have HL := Lib.hid (show (V.getD []).length ≤ 10000 by
      cases hv : V.isSome with
      | false => cases V with
        | none => simp
        | some x => simp at hv
      | true =>
        have := HB.out hv
        have h2 := congrArg List.length this
        rw [HSL.out] at h2
        have h3 : s.data.toList.length ≤ 1000 := by simp; omega
        obtain ⟨x, hx⟩ := Option.isSome_iff_exists.1 hv
        subst hx
        simp only [Option.getD_some] at h2 ⊢
        have h4 : x.length ≤ (b64 x).length := by
          clear h2 h3 this hv hcase HV HB
          induction x using b64.induct <;> simp [b64, quad] <;> omega
        omega)
    obtain ⟨hcU, hcV⟩ := hcase
    have HCV := Lib.hid hcV
    have HCU := Lib.hid hcU
    clear hcU hcV
    go_enter Try.func5, Try.ntmps5
    go_wp2_with fail
    refine (unhex_any s _ (by omega)).mono ?_
    rw [← HU.out]
    rintro e w1 ⟨a1, n1, c1, rfl, hS1, hb1⟩
    go_wp2_with fail
    refine (unb_any s _ (by omega)).mono ?_
    rw [← HV.out]
    rintro e w2 ⟨a2, n2, c2, rfl, hS2, hb2⟩
    have hW2 := hb1.trans (hb2.mono hb1.size)
    go_wp2_with fail
    refine (refUnhex_any s _ (by omega)).mono ?_
    rw [← HU.out]
    rintro e w3 ⟨a3, n3, c3, rfl, hS3, hb3⟩
    have hW3 := hW2.trans (hb3.mono hW2.size)
    go_wp2_with fail
    refine (refUnb_any s _ (by omega)).mono ?_
    rw [← HV.out]
    rintro e w4 ⟨a4, n4, c4, rfl, hS4, hb4⟩
    have hW4 := hW3.trans (hb4.mono hW3.size)
    have q1 := conv_sl (hS1.after (hb2.trans ((hb3.mono hb2.size).trans (hb4.mono (Nat.le_trans hb2.size hb3.size)))))
    have hs2 := hS2.after (hb3.trans (hb4.mono hb3.size))
    have q2 := conv_sl hs2
    have q3 := conv_sl (hS3.after hb4)
    have q4 := conv_sl hS4
    obtain ⟨E1, hE1⟩ : ∃ x, x = U.getD [] := ⟨_, rfl⟩
    obtain ⟨E2, hE2⟩ : ∃ x, x = V.getD [] := ⟨_, rfl⟩
    rw [← hE1] at q1 q3
    rw [← hE2] at q2 q4 hs2
    have HE2 := Lib.hid hE2
    clear hE1 hE2 hS1 hS2 hS3 hS4
    rcases HCU.out with ⟨u1, u2⟩ | ⟨u1, u2⟩
    all_goals
      rcases HCV.out with ⟨v1, v2⟩ | ⟨v1, v2⟩
      all_goals
        go_wp2_with fail
    · refine (base64_any _ _ _ _ _ hs2 (by rw [HE2.out]; have := HL.out; omega)).mono ?_
      rw [show b64 E2 = s.toList by rw [HE2.out]; exact HB.out v1]
      rintro e w5 ⟨rfl, hb5⟩
      have hW5 := hW4.trans (hb5.mono hW4.size)
      go_wp2_with fail
      refine (awake_any _).mono ?_
      rintro e w6 ⟨rfl, hb6⟩
      go_wp2_with fail
      go_ret
      exact ⟨rfl, hW5.trans (hb6.mono hW5.size)⟩
    · refine (awake_any _).mono ?_
      rintro e w6 ⟨rfl, hb6⟩
      go_wp2_with fail
      go_ret
      exact ⟨rfl, hW4.trans (hb6.mono hW4.size)⟩
    · refine (base64_any _ _ _ _ _ hs2 (by rw [HE2.out]; have := HL.out; omega)).mono ?_
      rw [show b64 E2 = s.toList by rw [HE2.out]; exact HB.out v1]
      rintro e w5 ⟨rfl, hb5⟩
      have hW5 := hW4.trans (hb5.mono hW4.size)
      go_wp2_with fail
      refine (awake_any _).mono ?_
      rintro e w6 ⟨rfl, hb6⟩
      go_wp2_with fail
      go_ret
      exact ⟨rfl, hW5.trans (hb6.mono hW5.size)⟩
    · refine (awake_any _).mono ?_
      rintro e w6 ⟨rfl, hb6⟩
      go_wp2_with fail
      go_ret
      exact ⟨rfl, hW4.trans (hb6.mono hW4.size)⟩
end Go.Proofs.Ytpdkbbenoipohaa

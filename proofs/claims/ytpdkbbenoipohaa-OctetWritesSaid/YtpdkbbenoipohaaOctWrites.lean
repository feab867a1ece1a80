/- OctetWrites: any bytes as digits, and as Base64, are the document's, and read back: the walk. -/
import Derived.Test.YtpdkbbenoipohaaOctAwake
import Derived.Test.YtpdkbbenoipohaaOctCase
import Derived.Test.YtpdkbbenoipohaaOctUnb
import Derived.Test.YtpdkbbenoipohaaOctRefB64
namespace Go.Proofs.Ytpdkbbenoipohaa
open Go.RowKit

set_option maxHeartbeats 2000000 in
theorem OctetWrites_walk (a0 : Option Addr) (len0 cap0 : Nat) (z0 : List Int) (w : World) (w0 : IsRow .u8 w a0 len0 cap0 z0) :
    Calls Try.prog 6 #[.slice a0 len0 cap0] w fun e w' => e = .returned (.bool true) ∧ Below w.heap.size w w' := by
  obtain ⟨l0, s0⟩ := w0.sl
  clear w0
  by_cases h0 : (1000 : Int) < len0
  · go_enter Try.func6, Try.ntmps6
    go_wp2_with fail
    refine (awake_any _).mono ?_
    rintro e w1 ⟨rfl, hb⟩
    go_wp2_with fail
    go_ret
    exact ⟨rfl, hb⟩
  · replace h0 : (len0 : Int) ≤ 1000 := by omega
    have hlen0 := Lib.hid s0.1
    have hl0 : l0.length ≤ 1000 := by have := hlen0.out; omega
    have hh := hexL_len l0
    have hb64 := b64_len l0
    have HHL := Lib.hid hh
    clear hh
    go_enter Try.func6, Try.ntmps6
    go_wp2_with fail
    refine (hex_any _ _ _ _ _ s0 (by omega)).mono ?_
    rintro e w1 ⟨rfl, hb1⟩
    go_wp2_with fail
    refine (base64_any _ _ _ _ _ (s0.after hb1) (by omega)).mono ?_
    rintro e w2 ⟨rfl, hb2⟩
    have hW2 := hb1.trans (hb2.mono hb1.size)
    go_wp2_with fail
    refine (unhex_any ⟨(hexL l0).toArray⟩ _ (by have := HHL.out; simp [ByteArray.size]; omega)).mono ?_
    rintro e w3 ⟨a3, n3, c3, rfl, hS3, hb3⟩
    have hU : unhex (hexL l0) = some l0 := unhex_hexL l0
    simp only [hU, errForm, Option.getD_some] at hS3 ⊢
    have hW3 := hW2.trans (hb3.mono hW2.size)
    clear hU
    go_wp2_with fail
    refine (unb_any ⟨(b64 l0).toArray⟩ _ (by simp [ByteArray.size]; omega)).mono ?_
    rintro e w4 ⟨a4, n4, c4, rfl, hS4, hb4⟩
    have hU : unb64 (b64 l0) = some l0 := by rw [unb64, unb_b64, if_pos rfl]
    simp only [hU, errForm, Option.getD_some] at hS4 ⊢
    have hW4 := hW3.trans (hb4.mono hW3.size)
    clear hU
    go_wp2_with fail
    refine (refHex_any _ _ _ _ _ (s0.after hW4) (by omega)).mono ?_
    rintro e w5 ⟨rfl, hb5⟩
    have hW5 := hW4.trans (hb5.mono hW4.size)
    go_wp2_with fail
    refine (refB64_any _ _ _ _ _ (s0.after hW5) (by omega)).mono ?_
    rintro e w6 ⟨rfl, hb6⟩
    have hW6 := hW5.trans (hb6.mono hW5.size)
    have hX := hS3.after (hb4.trans ((hb5.mono hb4.size).trans (hb6.mono (Nat.le_trans hb4.size hb5.size))))
    have hY := hS4.after (hb5.trans (hb6.mono hb5.size))
    have q1 := conv_sl hX
    have q2 := conv_sl hY
    have q3 := conv_sl (s0.after hW6)
    go_wp2_with fail
    refine (awake_any _).mono ?_
    rintro e w7 ⟨rfl, hb7⟩
    go_wp2_with fail
    go_ret
    exact ⟨rfl, hW6.trans (hb7.mono hW6.size)⟩
end Go.Proofs.Ytpdkbbenoipohaa

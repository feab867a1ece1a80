/- OctetThirds: Base64 of three times so many bytes, and others behind them, is both, one behind the other: the walk. -/
import Derived.Test.YtpdkbbenoipohaaOctAwake
import Derived.WalkLawsBesides
import Derived.WalkSpells
import Derived.BigQuiet
import Derived.Lib.SlBytesConst
namespace Go.Proofs.Ytpdkbbenoipohaa
open Go.RowKit

theorem b64_append (x y : List UInt8) (h : x.length % 3 = 0) : b64 (x ++ y) = b64 x ++ b64 y := by
  induction x using b64.induct with
  | case1 => simp [b64]
  | case2 a => simp at h
  | case3 a b => simp at h
  | case4 a b c t ih =>
    have := ih (by simp at h; omega)
    simp [b64, this]

set_option maxHeartbeats 1000000 in
theorem OctetThirds_walk (a0 : Option Addr) (len0 cap0 : Nat) (z0 : List Int) (a1 : Option Addr) (len1 cap1 : Nat) (z1 : List Int) (w : World) (w0 : IsRow .u8 w a0 len0 cap0 z0) (w1 : IsRow .u8 w a1 len1 cap1 z1) :
    Calls Try.prog 3 #[.slice a0 len0 cap0, .slice a1 len1 cap1] w fun e w' => e = .returned (.bool true) ∧ Below w.heap.size w w' := by
  obtain ⟨l0, s0⟩ := w0.sl
  obtain ⟨l1, s1⟩ := w1.sl
  clear w0 w1
  by_cases h0 : (1000 : Int) < len0
  · go_enter Try.func3, Try.ntmps3
    go_wp2_with fail
    refine (awake_any _).mono ?_
    rintro e w1 ⟨rfl, hb⟩
    go_wp2_with fail
    go_ret
    exact ⟨rfl, hb⟩
  · replace h0 : (len0 : Int) ≤ 1000 := by omega
    by_cases h1 : (1000 : Int) < len1
    · go_enter Try.func3, Try.ntmps3
      go_wp2_with fail
      refine (awake_any _).mono ?_
      rintro e w1 ⟨rfl, hb⟩
      go_wp2_with fail
      go_ret
      exact ⟨rfl, hb⟩
    · replace h1 : (len1 : Int) ≤ 1000 := by omega
      have hlen0 := Lib.hid s0.1
      have hlen1 := Lib.hid s1.1
      obtain ⟨i0, hi, hz0, hz1, hz2⟩ := info_parts bldInfo5
      have hown : (w.alloc (.cells #[] 5)).ownsRow w.heap.size 5 1 (.slice (some ⟨w.heap.size, 0, none⟩) 0 0) 0 (Lib.byteCells []) := World.ownsRow_lit w #[] 0 (Nat.le_refl _) (Nat.zero_le _) rfl
      have hW : Below w.heap.size w (w.alloc (.cells #[] 5)) := (Below.refl _ _).alloc (Nat.le_refl _) _
      have hlc := s0.2.1
      go_enter Try.func3, Try.ntmps3
      go_wp2_with (first
        | (at_builtin; refine wpList_append_sl rfl (.tmp 22) (.tmp 23) 22 rfl w.heap.size 5 i0 Try.underlying22 hi hz0 hz1 hz2 (.slice (some ⟨w.heap.size, 0, none⟩) 0 0) 0 [] rfl hown a0 (len0 - len0 % 3) cap0 (l0.take (len0 - len0 % 3)) rfl (((s0.take _ (Nat.sub_le _ _)).after hW)) (by omega) (by simp) ?_; intro v1 w1 hown1 hg1)
        | (at_builtin; refine wpList_append_sl rfl (.tmp 24) (.tmp 25) 22 rfl w.heap.size 5 i0 Try.underlying22 hi hz0 hz1 hz2 v1 _ _ rfl hown1 a1 len1 cap1 l1 rfl (s1.after (hW.grown hg1 hW.size (by intro k hk; cases hk; exact Nat.le_refl _))) (by omega) (hW.grown hg1 hW.size (by intro k hk; cases hk; exact Nat.le_refl _)).size ?_; intro v2 w2 hown2 hg2)
        | fail)
      have hW1 := hW.grown hg1 hW.size (by intro k hk; cases hk; exact Nat.le_refl _)
      have hW2 := hW1.grown hg2 hW1.size (fun k hk => (hown1.lt k hk).1)
      obtain ⟨a2, c2, hv2, s2⟩ := Sl.ofOwns hown2
      subst hv2
      simp only [List.nil_append, Nat.zero_add] at s2
      have hl0 : l0.length ≤ 1000 := by have := hlen0.out; omega
      have hl1 : l1.length ≤ 1000 := by have := hlen1.out; omega
      simp only [Nat.zero_add]
      refine (base64_any _ _ _ _ _ s2 (by simp; omega)).mono ?_
      rintro e w3 ⟨rfl, hb3⟩
      have hW3 := hW2.trans (hb3.mono hW2.size)
      go_wp2_with fail
      refine (base64_any _ _ _ _ _ ((s0.take _ (Nat.sub_le _ _)).after hW3) (by simp; omega)).mono ?_
      rintro e w4 ⟨rfl, hb4⟩
      have hW4 := hW3.trans (hb4.mono hW3.size)
      go_wp2_with fail
      refine (base64_any _ _ _ _ _ (s1.after hW4) (by omega)).mono ?_
      rintro e w5 ⟨rfl, hb5⟩
      have hW5 := hW4.trans (hb5.mono hW4.size)
      have hcat : (⟨(b64 (l0.take (len0 - len0 % 3))).toArray⟩ ++ ⟨(b64 l1).toArray⟩ : ByteArray) = ⟨(b64 (l0.take (len0 - len0 % 3) ++ l1)).toArray⟩ := by
        rw [b64_append _ _ (by have := hlen0.out; simp; omega)]
        apply ByteArray.ext
        simp
      have hb0 : (b64 (l0.take (len0 - len0 % 3))).length ≤ 3000 := by have := b64_len (l0.take (len0 - len0 % 3)); simp at this; omega
      have hb1 : (b64 l1).length ≤ 3000 := by have := b64_len l1; omega
      go_wp2_with fail
      refine (awake_any _).mono ?_
      rintro e w6 ⟨rfl, hb6⟩
      go_wp2_with fail
      go_ret
      exact ⟨rfl, hW5.trans (hb6.mono hW5.size)⟩
end Go.Proofs.Ytpdkbbenoipohaa

/- OctetLens: the walk. -/
import Derived.Test.YtpdkbbenoipohaaDoorGetLen
import Derived.Test.YtpdkbbenoipohaaDoorOctAwake
namespace Go.Proofs.YtpdkbbenoipohaaDoor
open Go.RowKit

set_option maxHeartbeats 4000000 in
theorem OctetLens_walk (n : Int) (a1 : Option Addr) (len1 cap1 : Nat) (z1 : List Int) (at' most : Int) (w : World) (htab : Tab w) (w0 : (Lit.int .i64 n).wf = true) (w1 : IsRow .u8 w a1 len1 cap1 z1) (w2 : (Lit.int .i64 at').wf = true) (w3 : (Lit.int .i64 most).wf = true) :
    Calls Tryd.prog 3 #[.int .i64 n, .slice a1 len1 cap1, .int .i64 at', .int .i64 most] w fun e w' => e = .returned (.bool true) ∧ Below w.heap.size w w' := by
  obtain ⟨l1, s1⟩ := w1.sl
  have hn : -9223372036854775808 ≤ n ∧ n ≤ 9223372036854775807 := by simpa [Lit.wf, IntKind.min, IntKind.max, IntKind.bits, IntKind.signed] using w0
  have ha : -9223372036854775808 ≤ at' ∧ at' ≤ 9223372036854775807 := by simpa [Lit.wf, IntKind.min, IntKind.max, IntKind.bits, IntKind.signed] using w2
  have hm : -9223372036854775808 ≤ most ∧ most ≤ 9223372036854775807 := by simpa [Lit.wf, IntKind.min, IntKind.max, IntKind.bits, IntKind.signed] using w3
  obtain ⟨hn1, hn2⟩ := hn
  obtain ⟨ha1, ha2⟩ := ha
  obtain ⟨hm1, hm2⟩ := hm
  clear w0 w1 w2 w3
  have HTab := Lib.hid htab
  clear htab
  by_cases h0 : (1000 : Int) < len1
  · go_enter Tryd.func3, Tryd.ntmps3
    go_wp2_with fail
    refine (awake_any _).mono ?_
    rintro e w1 ⟨rfl, hb⟩
    go_wp2_with fail
    go_ret
    exact ⟨rfl, hb⟩
  · replace h0 : (len1 : Int) ≤ 1000 := by omega
    obtain ⟨L, hL⟩ : ∃ L, L = numL n := ⟨_, rfl⟩
    have HDec := Lib.hid (fun w : World => dec_any n.toNat n (Nat.le_refl _) hn2 w)
    have HPut := Lib.hid (fun (w : World) (h : Tab w) => putLen_any n hn1 hn2 w h)
    rw [← hL] at HDec HPut
    clear hL
    have eL : (L == L) = true := by simp
    have HG := Lib.hid (fun w s => getLen_any a1 len1 cap1 l1 at' most most.toNat w s (by omega) ha1 ha2 (by omega) (by omega))
    by_cases hbig : (1000000000000000 : Int) < most
    · have HR := Lib.hid (fun w s => refLen_any a1 len1 cap1 l1 at' (min most 1000000000000000) 1000000000000000 w s (by omega) ha1 ha2 (by omega) (by omega))
      go_enter Tryd.func3, Tryd.ntmps3
      go_wp2_with fail
      refine (HG.out _ s1).mono ?_
      rintro e w1 ⟨rfl, hW1⟩
      go_wp2_with fail
      refine (HR.out _ (s1.after hW1)).mono ?_
      rintro e w2 ⟨rfl, hb2⟩
      have hW2 := hW1.trans (hb2.mono hW1.size)
      go_wp2_with fail
      refine (HPut.out _ (HTab.out.after hW2)).mono ?_
      rintro e w3 ⟨rfl, hb3⟩
      have hW3 := hW2.trans (hb3.mono hW2.size)
      go_wp2_with fail
      refine (HDec.out _).mono ?_
      rintro e w4 ⟨rfl, hb4⟩
      have hW4 := hW3.trans (hb4.mono hW3.size)
      go_wp2_with fail
      refine (awake_any _).mono ?_
      rintro e w5 ⟨rfl, hb⟩
      go_wp2_with fail
      go_ret
      exact ⟨rfl, hW4.trans (hb.mono hW4.size)⟩
    · replace hbig : most ≤ 1000000000000000 := by omega
      have HR := Lib.hid (fun w s => refLen_any a1 len1 cap1 l1 at' (min most 1000000000000000) most.toNat w s (by omega) ha1 ha2 (by omega) (by omega))
      obtain ⟨r, hr⟩ : ∃ r, r = lenR l1 at' most.toNat := ⟨_, rfl⟩
      rw [← hr] at HR HG
      obtain ⟨x, y, z⟩ := r
      clear hr
      have ex : (x == x) = true := by simp
      have ey : (y == y) = true := by simp
      have ez : (z == z) = true := by simp
      go_enter Tryd.func3, Tryd.ntmps3
      go_wp2_with fail
      refine (HG.out _ s1).mono ?_
      rintro e w1 ⟨rfl, hW1⟩
      go_wp2_with fail
      refine (HR.out _ (s1.after hW1)).mono ?_
      rintro e w2 ⟨rfl, hb2⟩
      have hW2 := hW1.trans (hb2.mono hW1.size)
      go_wp2_with fail
      refine (HPut.out _ (HTab.out.after hW2)).mono ?_
      rintro e w3 ⟨rfl, hb3⟩
      have hW3 := hW2.trans (hb3.mono hW2.size)
      go_wp2_with fail
      refine (HDec.out _).mono ?_
      rintro e w4 ⟨rfl, hb4⟩
      have hW4 := hW3.trans (hb4.mono hW3.size)
      go_wp2_with fail
      refine (awake_any _).mono ?_
      rintro e w5 ⟨rfl, hb⟩
      go_wp2_with fail
      go_ret
      exact ⟨rfl, hW4.trans (hb.mono hW4.size)⟩
end Go.Proofs.YtpdkbbenoipohaaDoor

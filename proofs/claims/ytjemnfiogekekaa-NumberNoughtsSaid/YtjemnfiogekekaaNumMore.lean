/- NumberMinus, NumberNoughts: the walks. -/
import Derived.Test.YtjemnfiogekekaaNumLaws
import Derived.Laws.AppendOwn
import Derived.OwnWalk
namespace Go.Proofs.Ytjemnfiogekekaa
open Go.RowKit

theorem numInfo5 : (Try.prog.info? 5).map (fun i => (i.zero, i.size, i.bytes)) = some (some (.int .u8 0), 1, 1) := by kernel_rfl

theorem getO_nil : getO [] = none := by decide

set_option maxHeartbeats 4000000 in
set_option maxRecDepth 100000 in
theorem NumberMinus_walk (a0 : Option Addr) (len0 cap0 : Nat) (z0 : List Int) (w : World) (w0 : IsRow .u8 w a0 len0 cap0 z0) :
    Calls Try.prog 5 #[.slice a0 len0 cap0] w fun e w' => e = .returned (.bool true) ∧ Below w.heap.size w w' := by
  obtain ⟨l0, s0⟩ := w0.sl
  clear w0
  by_cases h0 : (100 : Int) < len0
  · go_enter Try.func5, Try.ntmps5
    go_wp2_with fail
    refine (awake_any _).mono ?_
    rintro e w1 ⟨rfl, hb⟩
    go_wp2_with fail
    go_ret
    exact ⟨rfl, hb⟩
  · replace h0 : (len0 : Int) ≤ 100 := by omega
    obtain ⟨i0, hi, hz0, hz1, hz2⟩ := info_parts numInfo5
    go_enter Try.func5, Try.ntmps5
    go_wp2_with fail
    refine (get_any _ _ _ _ _ s0 (by omega)).mono ?_
    rintro e w1 ⟨rfl, hW1⟩
    have s1 := Lib.hid (s0.after hW1)
    have hW1b : Below w.heap.size w (w1.alloc (.cells #[.int .u8 45] 5)) := hW1.alloc (by have := hW1.size; omega) _
    have hb11 : Below w1.heap.size w1 (w1.alloc (.cells #[.int .u8 45] 5)) := (Below.refl _ _).alloc (Nat.le_refl _) _
    have hown : (w1.alloc (.cells #[.int .u8 45] 5)).ownsRow w1.heap.size 5 1 (.slice (some ⟨w1.heap.size, 0, none⟩) 1 1) 1 (Lib.byteCells [45]) := World.ownsRow_lit w1 #[.int .u8 45] 1 (Nat.le_refl _) (by unfold maxLen; omega) rfl
    go_wp2_with (first
      | (at_builtin; refine wpList_append_sl rfl (.tmp 17) (.tmp 18) 22 rfl w1.heap.size 5 i0 Try.underlying22 hi hz0 hz1 hz2 _ 1 [45] rfl hown a0 len0 cap0 l0 rfl (s1.out.after hb11) (by omega) (by simp) ?_; intro v2 w2 hown2 hg2)
      | fail)
    have hW2 := hW1b.grown hg2 (by have := hW1.size; simp; omega) (fun k hk => Nat.le_trans hW1.size (hown.lt k hk).1)
    obtain ⟨a2, c2, rfl, s2⟩ := Sl.ofOwns hown2
    clear hown hown2 hg2 hi hz0 hz1 hz2 hW1b hb11 s1 hW1
    refine (get_any _ _ _ _ _ s2 (by omega)).mono ?_
    rintro e w3 ⟨rfl, hb3⟩
    have hW3 := hW2.trans (hb3.mono hW2.size)
    have s3 := Lib.hid (s0.after hW3)
    clear hb3 hW2 s2
    rw [List.singleton_append]
    have HL := Lib.hid s0.1
    by_cases hbad : getO l0 = none ∨ dash l0 = true ∨ isNan ((getO l0).getD 0) = true
    · have HB := Lib.hid (minus_bad hbad)
      rw [HB.out]
      cases ho : getO l0 with
      | none =>
        clear hbad ho s0
        go_wp2_with fail
        refine (awake_any _).mono ?_
        rintro e w1 ⟨rfl, hb⟩
        go_wp2_with fail
        go_ret
        exact ⟨rfl, hW3.trans (hb.mono hW3.size)⟩
      | some q =>
        rw [ho] at hbad
        have hl0 : 1 ≤ len0 := by
          rcases Nat.eq_zero_or_pos len0 with h | h
          · have : l0 = [] := List.eq_nil_of_length_eq_zero (by have := HL.out; omega)
            rw [this] at ho; cases ho
          · exact h
        obtain ⟨b, o, rfl, hcc, _⟩ := s3.out.some hl0
        obtain ⟨x, hx⟩ : ∃ x, x = l0.getD 0 0 := ⟨_, rfl⟩
        have c0 : w3.cell? ⟨b, o, none⟩ = some (.int .u8 (x.toNat : Int)) := by have := hcc 0 hl0; rw [← hx] at this; exact this
        have hl1 : (0 : Int) < len0 := by omega
        have hq := ord_neqs q
        have hdx : ((x.toNat : Int) == 45) = dash l0 := by
          cases l0 with
          | nil => have := HL.out; simp at this; omega
          | cons y t =>
            simp at hx
            subst hx
            by_cases e : x = 45
            · subst e; rfl
            · have : x.toNat ≠ 45 := fun h => e (UInt8.toNat_inj.1 h)
              have h1 : dash (x :: t) = false := by simp [dash, e]
              rw [h1]; simp; omega
        clear hcc hx ho s0
        cases hd : dash l0
        · have hn : isNan q = true := by rcases hbad with h | h | h; cases h; rw [hd] at h; cases h; exact h
          rw [hd] at hdx
          rw [hn] at hq
          clear hd hbad hn
          go_wp2_with fail
          refine (awake_any _).mono ?_
          rintro e w1 ⟨rfl, hb⟩
          go_wp2_with fail
          go_ret
          exact ⟨rfl, hW3.trans (hb.mono hW3.size)⟩
        · rw [hd] at hdx
          clear hd hbad hq
          go_wp2_with fail
          refine (awake_any _).mono ?_
          rintro e w1 ⟨rfl, hb⟩
          go_wp2_with fail
          go_ret
          exact ⟨rfl, hW3.trans (hb.mono hW3.size)⟩
    · cases ho : getO l0 with
      | none => exact absurd (.inl ho) hbad
      | some q =>
        have hd : dash l0 = false := by cases h : dash l0 with | true => exact absurd (.inr (.inl h)) hbad | false => rfl
        have hn : isNan q = false := by cases h : isNan q with | true => exact absurd (.inr (.inr (by rw [ho]; exact h))) hbad | false => rfl
        obtain ⟨hq1, hq2⟩ := minus_ok ho hd hn
        have HQ := Lib.hid hq2
        have HB := Lib.hid hq1
        have hl0 : 1 ≤ len0 := by
          rcases Nat.eq_zero_or_pos len0 with h | h
          · have : l0 = [] := List.eq_nil_of_length_eq_zero (by have := HL.out; omega)
            rw [this] at ho; cases ho
          · exact h
        obtain ⟨b, o, rfl, hcc, _⟩ := s3.out.some hl0
        obtain ⟨x, hx⟩ : ∃ x, x = l0.getD 0 0 := ⟨_, rfl⟩
        have c0 : w3.cell? ⟨b, o, none⟩ = some (.int .u8 (x.toNat : Int)) := by have := hcc 0 hl0; rw [← hx] at this; exact this
        have hl1 : (0 : Int) < len0 := by omega
        have hq := ord_neqs q
        rw [hn] at hq
        have hdx : ((x.toNat : Int) == 45) = false := by
          cases l0 with
          | nil => have := HL.out; simp at this; omega
          | cons y t =>
            simp at hx
            subst hx
            have e : x ≠ 45 := by rintro rfl; simp [dash] at hd
            have : x.toNat ≠ 45 := fun h => e (UInt8.toNat_inj.1 h)
            simp; omega
        rw [HQ.out]
        obtain ⟨Q2, hQ2⟩ : ∃ Q2, Q2 = q + 2 ^ 63 := ⟨_, rfl⟩
        have hneg : Op.unary .neg (.float .f64 q) = pure (.float .f64 Q2) := by rw [hQ2, ← neg_top _ hq1]; rfl
        have hag := Lib.hid (show Agree Q2 Q2 from .inr ⟨by rw [hQ2]; exact nan_neg _ hq1, rfl⟩)
        simp only [Option.getD_some, Option.isSome_some]
        rw [← hQ2]
        clear hcc hx ho s0 hbad hd hn hq1 hq2 hQ2
        go_wp2_with fail
        refine (same_any _ _ hag.out _).mono ?_
        rintro e w4 ⟨rfl, rfl⟩
        go_wp2_with fail
        refine (awake_any _).mono ?_
        rintro e w1 ⟨rfl, hb⟩
        go_wp2_with fail
        go_ret
        exact ⟨rfl, hW3.trans (hb.mono hW3.size)⟩
end Go.Proofs.Ytjemnfiogekekaa

/- the document's Clock and Get: what they compute. -/
import Derived.Test.YtoadpeigomkgiaaDoorODateRef
namespace Go.Proofs.YtoadpeigomkgiaaDoor
open Go.RowKit

theorem clockOk_len (l : List UInt8) (h : l.length ≠ 8) : clockOk l = false := by
  unfold clockOk
  split
  · simp at h
  · rfl
theorem dateOk_len (l : List UInt8) (h : l.length ≠ 19) : dateOk l = false := by
  unfold dateOk
  split
  · rename_i t
    rw [clockOk_len t (by intro ht; apply h; simp [ht])]
    simp
  · rfl
theorem twoV_le (a b : UInt8) : 0 ≤ twoV a b ∧ twoV a b ≤ 99 := by
  unfold twoV
  cases h : twoB a b with
  | false => simp
  | true =>
    rw [if_pos rfl]
    have h1 : isD a = true ∧ isD b = true := by simpa [twoB] using h
    have := two2_lt a b h1.1 h1.2
    omega
theorem twoV_true (a b : UInt8) (h : twoB a b = true) : twoV a b = (two2 a b : Nat) := by unfold twoV; rw [if_pos h]

set_option maxHeartbeats 4000000 in
theorem refClock_any (a : Option Addr) (len cap : Nat) (l : List UInt8) (w : World) (hs : Sl w a len cap l) (hl : l.length ≤ 9223372036854775807) :
    Calls Tryd.prog 28 #[.slice a len cap] w fun e w' => e = .returned (.tuple #[.int .i64 (clockV l), .bool (clockOk l)]) ∧ Below w.heap.size w w' := by
  obtain ⟨R, hR⟩ : ∃ R, R = clockOk l := ⟨_, rfl⟩
  obtain ⟨V, hV⟩ : ∃ V, V = clockV l := ⟨_, rfl⟩
  rw [← hR, ← hV]
  have HR := Lib.hid hR
  have HV := Lib.hid hV
  have fin : Hid (R = false → V = 0) := Lib.hid (by intro h; rw [hV, clockV, ← hR, h]; rfl)
  clear hR hV
  by_cases hlen : len = 8
  · subst hlen
    have hll : l.length = 8 := hs.1.symm
    obtain ⟨b, o, rfl, hcc, _⟩ := hs.some (by omega)
    have hcap : 8 ≤ cap := hs.2.1
    match l, hll with
    | [c1, c2, p, c3, c4, q, c5, c6], _ =>
    have kp := hcc 2 (by omega)
    have kq := hcc 5 (by omega)
    simp only [List.getD_cons_succ, List.getD_cons_zero] at kp kq
    have HS := Lib.hid hs
    have bp := p.toNat_lt
    have bq := q.toNat_lt
    clear hcc hs hl
    by_cases hp : p.toNat = 58
    · have hp' : p = 58 := UInt8.toNat_inj.1 (by simpa using hp)
      subst hp'
      by_cases hq : q.toNat = 58
      · have hq' : q = 58 := UInt8.toNat_inj.1 (by simpa using hq)
        subst hq'
        clear hp hq bp bq
        have HK := Lib.hid (show R = (twoB c1 c2 && twoB c3 c4 && twoB c5 c6 && decide (two2 c1 c2 ≤ 23 ∧ two2 c3 c4 ≤ 59 ∧ two2 c5 c6 ≤ 59)) by rw [HR.out]; simp [clockOk, twoB, Bool.and_assoc])
        have HN := Lib.hid (show R = true → V = 3600 * (two2 c1 c2 : Nat) + 60 * (two2 c3 c4 : Nat) + (two2 c5 c6 : Nat) by intro h; rw [HV.out, clockV, ← HR.out, h, if_pos rfl]; rfl)
        clear HR HV
        have v1 := twoV_le c1 c2
        have v2 := twoV_le c3 c4
        have v3 := twoV_le c5 c6
        have t1 := Lib.hid (twoV_true c1 c2)
        have t2 := Lib.hid (twoV_true c3 c4)
        have t3 := Lib.hid (twoV_true c5 c6)
        obtain ⟨B1, hB1⟩ : ∃ x, x = twoB c1 c2 := ⟨_, rfl⟩
        obtain ⟨B2, hB2⟩ : ∃ x, x = twoB c3 c4 := ⟨_, rfl⟩
        obtain ⟨B3, hB3⟩ : ∃ x, x = twoB c5 c6 := ⟨_, rfl⟩
        obtain ⟨H, hH⟩ : ∃ x, x = twoV c1 c2 := ⟨_, rfl⟩
        obtain ⟨M, hM⟩ : ∃ x, x = twoV c3 c4 := ⟨_, rfl⟩
        obtain ⟨S, hS⟩ : ∃ x, x = twoV c5 c6 := ⟨_, rfl⟩
        rw [← hH] at v1 t1
        rw [← hM] at v2 t2
        rw [← hS] at v3 t3
        rw [← hB1] at t1 HK
        rw [← hB2] at t2 HK
        rw [← hB3] at t3 HK
        have W1 := Lib.hid (And.intro hB1 hH)
        have W2 := Lib.hid (And.intro hB2 hM)
        have W3 := Lib.hid (And.intro hB3 hS)
        clear hB1 hB2 hB3 hH hM hS
        go_enter Tryd.func28, Tryd.ntmps28
        go_wp2_with fail
        refine (two_any _ _ _ _ _ c1 c2 _ HS.out (by omega) (by omega) (by omega) rfl rfl).mono ?_
        rintro e w1 ⟨rfl, hb1⟩
        rw [← W1.out.1, ← W1.out.2]
        go_wp2_with fail
        refine (two_any _ _ _ _ _ c3 c4 _ (HS.out.after hb1) (by omega) (by omega) (by omega) rfl rfl).mono ?_
        rintro e w2 ⟨rfl, hb2⟩
        rw [← W2.out.1, ← W2.out.2]
        have hW2 := hb1.trans (hb2.mono hb1.size)
        go_wp2_with fail
        refine (two_any _ _ _ _ _ c5 c6 _ (HS.out.after hW2) (by omega) (by omega) (by omega) rfl rfl).mono ?_
        rintro e w3 ⟨rfl, hb3⟩
        rw [← W3.out.1, ← W3.out.2]
        have hW3 := hW2.trans (hb3.mono hW2.size)
        clear W1 W2 W3
        cases e1 : B1 with
        | false =>
          have HE := Lib.hid (show R = false by rw [HK.out, e1]; simp)
          have HZ := Lib.hid (fin.out HE.out)
          go_wp2_with fail
          go_ret2
          exact ⟨by rw [HE.out, HZ.out]; rfl, hW3⟩
        | true =>
          cases e2 : B2 with
          | false =>
            have HE := Lib.hid (show R = false by rw [HK.out, e2]; simp)
            have HZ := Lib.hid (fin.out HE.out)
            go_wp2_with fail
            go_ret2
            exact ⟨by rw [HE.out, HZ.out]; rfl, hW3⟩
          | true =>
            cases e3 : B3 with
            | false =>
              have HE := Lib.hid (show R = false by rw [HK.out, e3]; simp)
              have HZ := Lib.hid (fin.out HE.out)
              go_wp2_with fail
              go_ret2
              exact ⟨by rw [HE.out, HZ.out]; rfl, hW3⟩
            | true =>
              have T1 := Lib.hid (t1.out e1)
              have T2 := Lib.hid (t2.out e2)
              have T3 := Lib.hid (t3.out e3)
              replace HK := Lib.hid (show R = decide (H ≤ 23 ∧ M ≤ 59 ∧ S ≤ 59) by
                have hiff : (two2 c1 c2 ≤ 23 ∧ two2 c3 c4 ≤ 59 ∧ two2 c5 c6 ≤ 59) ↔ (H ≤ 23 ∧ M ≤ 59 ∧ S ≤ 59) := by rw [T1.out, T2.out, T3.out]; omega
                rw [HK.out, e1, e2, e3]
                simp [hiff])
              clear t1 t2 t3
              by_cases x1 : H ≤ 23
              ·
                by_cases x2 : M ≤ 59
                ·
                  by_cases x3 : S ≤ 59
                  ·
                    have HE := Lib.hid (show R = true by rw [HK.out]; simp [x1, x2, x3])
                    have HZ := Lib.hid (show V = 3600 * H + 60 * M + S by rw [HN.out HE.out, ← T1.out, ← T2.out, ← T3.out])
                    go_wp2_with fail
                    go_ret2
                    exact ⟨by rw [HE.out, HZ.out]; rfl, hW3⟩
                  ·
                    have HE := Lib.hid (show R = false by rw [HK.out]; simp [x3])
                    have HZ := Lib.hid (fin.out HE.out)
                    replace x3 : (59 : Int) < S := by omega
                    go_wp2_with fail
                    go_ret2
                    exact ⟨by rw [HE.out, HZ.out]; rfl, hW3⟩
                ·
                  have HE := Lib.hid (show R = false by rw [HK.out]; simp [x2])
                  have HZ := Lib.hid (fin.out HE.out)
                  replace x2 : (59 : Int) < M := by omega
                  go_wp2_with fail
                  go_ret2
                  exact ⟨by rw [HE.out, HZ.out]; rfl, hW3⟩
              ·
                have HE := Lib.hid (show R = false by rw [HK.out]; simp [x1])
                have HZ := Lib.hid (fin.out HE.out)
                replace x1 : (23 : Int) < H := by omega
                go_wp2_with fail
                go_ret2
                exact ⟨by rw [HE.out, HZ.out]; rfl, hW3⟩
      ·
        have HE := Lib.hid (show R = false by
          have hqf : (q == 58) = false := by simpa [← UInt8.toNat_inj] using hq
          rw [HR.out]; simp [clockOk, hqf])
        have HZ := Lib.hid (fin.out HE.out)
        have qq : ((q.toNat : Int) != 58) = true := by rw [bne_iff_ne]; omega
        go_enter Tryd.func28, Tryd.ntmps28
        go_wp2_with fail
        go_ret2
        exact ⟨by rw [HE.out, HZ.out]; rfl, Below.refl _ _⟩
    ·
      have HE := Lib.hid (show R = false by
        have hpf : (p == 58) = false := by simpa [← UInt8.toNat_inj] using hp
        rw [HR.out]; simp [clockOk, hpf])
      have HZ := Lib.hid (fin.out HE.out)
      have qq : ((p.toNat : Int) != 58) = true := by rw [bne_iff_ne]; omega
      go_enter Tryd.func28, Tryd.ntmps28
      go_wp2_with fail
      go_ret2
      exact ⟨by rw [HE.out, HZ.out]; rfl, Below.refl _ _⟩
  ·
    have HE := Lib.hid (show R = false by
      rw [HR.out]; exact clockOk_len l (by rw [← hs.1]; exact hlen))
    have HZ := Lib.hid (fin.out HE.out)
    have qq : ((len : Int) != 8) = true := by rw [bne_iff_ne]; omega
    go_enter Tryd.func28, Tryd.ntmps28
    go_wp2_with fail
    go_ret2
    exact ⟨by rw [HE.out, HZ.out]; rfl, Below.refl _ _⟩
end Go.Proofs.YtoadpeigomkgiaaDoor

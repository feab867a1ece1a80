/- OctetCase: small and great digits are the same bytes: the walk. -/
import Derived.Test.YtpdkbbenoipohaaOctAwake
import Derived.Test.YtpdkbbenoipohaaOctUnhex
import Derived.Test.YtpdkbbenoipohaaConv
namespace Go.Proofs.Ytpdkbbenoipohaa
open Go.RowKit

def hv (l : List UInt8) : List (Option Nat) := l.map fun c => hval c.toNat
theorem unhex_hv (l m : List UInt8) (h : hv l = hv m) : unhex l = unhex m := by
  induction l using unhex.induct generalizing m with
  | case1 => cases m <;> simp_all [hv]
  | case2 a =>
    match m with
    | [] => simp [hv] at h
    | [b] => rfl
    | b :: c :: t => simp [hv] at h
  | case3 a b t x y hx hy ih =>
    match m, h with
    | [], h => simp [hv] at h
    | [_], h => simp [hv] at h
    | a' :: b' :: t', h =>
      simp only [hv, List.map_cons, List.cons.injEq] at h
      obtain ⟨h1, h2, h3⟩ := h
      have := ih t' h3
      simp [unhex, hx, hy, ← h1, ← h2, this]
  | case4 a b t hn =>
    match m, h with
    | [], h => simp [hv] at h
    | [_], h => simp [hv] at h
    | a' :: b' :: t', h =>
      simp only [hv, List.map_cons, List.cons.injEq] at h
      obtain ⟨h1, h2, h3⟩ := h
      have e1 : unhex (a :: b :: t) = none := by simp only [unhex]
      rw [e1]
      simp only [unhex]
      rw [← h1, ← h2]
      split
      · rename_i x y hx hy; exact (hn x y hx hy).elim
      · rfl
theorem hval_hxd : ∀ k : Fin 16, hval (hxd k.val).toNat = some k.val := by decide
theorem unhex_hexL (l : List UInt8) : unhex (hexL l) = some l := by
  induction l with
  | nil => rfl
  | cons c t ih =>
    have hc := c.toNat_lt
    have h1 := hval_hxd ⟨c.toNat / 16, by omega⟩
    have h2 := hval_hxd ⟨c.toNat % 16, by omega⟩
    have : hexL (c :: t) = hxd (c.toNat / 16) :: hxd (c.toNat % 16) :: hexL t := rfl
    rw [this]
    simp only [unhex, h1, h2, ih, Option.map_some]
    have e : 16 * (c.toNat / 16) + c.toNat % 16 = c.toNat := by omega
    rw [e, UInt8.ofNat_toNat]
theorem hval_up (n : Nat) (h1 : 97 ≤ n) (h2 : n ≤ 102) : hval (n - 32) = hval n := by
  unfold hval; repeat' split
  all_goals first | omega | rfl | (congr 1; omega)

set_option maxHeartbeats 2000000 in
theorem OctetCase_walk (a0 : Option Addr) (len0 cap0 : Nat) (z0 : List Int) (a1 : Int) (w : World) (w0 : IsRow .u8 w a0 len0 cap0 z0) (_w1 : (Lit.int .u64 a1).wf = true) :
    Calls Try.prog 4 #[.slice a0 len0 cap0, .int .u64 a1] w fun e w' => e = .returned (.bool true) ∧ Below w.heap.size w w' := by
  obtain ⟨l0, s0⟩ := w0.sl
  clear w0
  by_cases h0 : (1000 : Int) < len0
  · go_enter Try.func4, Try.ntmps4
    go_wp2_with fail
    refine (awake_any _).mono ?_
    rintro e w1 ⟨rfl, hb⟩
    go_wp2_with fail
    go_ret
    exact ⟨rfl, hb⟩
  · replace h0 : (len0 : Int) ≤ 1000 := by omega
    have hlen0 := Lib.hid s0.1
    have hl0 : l0.length ≤ 1000 := by have := hlen0.out; omega
    go_enter Try.func4, Try.ntmps4
    go_wp2_with fail
    refine (hex_any _ _ _ _ _ s0 (by omega)).mono ?_
    rintro e w1 ⟨rfl, hb1⟩
    obtain ⟨c, w2, hrun, hB2, hc1, hc2, hb2⟩ := conv_str w1 ⟨(hexL l0).toArray⟩ (by have := hexL_len l0; simp [ByteArray.size]; omega)
    have hW2 := hb1.trans (hb2.mono hb1.size)
    have hg : w.heap.size ≤ w1.heap.size := hb1.size
    obtain ⟨g, hgE⟩ : ∃ g, g = w1.heap.size := ⟨_, rfl⟩
    obtain ⟨n, hnE⟩ : ∃ n, n = ByteArray.size ⟨(hexL l0).toArray⟩ := ⟨_, rfl⟩
    rw [← hgE] at hrun hB2 hg
    rw [← hnE] at hrun hc1
    have hn : n ≤ 2000 := by have := hexL_len l0; rw [hnE]; simp [ByteArray.size]; omega
    have hN := Lib.hid (show n = (hexL l0).length by rw [hnE]; simp [ByteArray.size])
    replace hB2 : Blk w2 g (hexL l0) := hB2
    clear hgE hnE
    go_wp2_with fail
    clear hrun
    go_loopw [6] (fun i wr => ∃ (k : Nat) (m : List UInt8), k ≤ n ∧ i = .int .i64 k ∧ Blk wr g m ∧ Hid (m.length = n) ∧ Hid (hv m = hv (hexL l0)) ∧ Below w.heap.size w wr) (fun i _ => n - (intOf i).toNat)
    case atStart => exact ⟨0, hexL l0, Nat.zero_le _, rfl, hB2, Lib.hid hN.out.symm, Lib.hid rfl, hW2⟩
    case round =>
      obtain ⟨k, m, hk, rfl, hB, HM, HV, hW⟩ := hrel
      by_cases hlt : k < n
      · have cK := hB.cell k (by rw [HM.out]; exact hlt)
        have fK := hB.frozen k (by rw [HM.out]; exact hlt)
        obtain ⟨x, hx⟩ : ∃ x, x = m.getD k 0 := ⟨_, rfl⟩
        rw [← hx] at cK
        have HX := Lib.hid hx
        have hx8 := x.toNat_lt
        clear hx
        by_cases h1 : (97 : Int) ≤ (x.toNat : Int)
        · by_cases h2 : (x.toNat : Int) ≤ 102
          · go_wp2_with fail
            · have hset := hB.set k (UInt8.ofNat (x.toNat - 32)) (by rw [HM.out]; exact hlt)
              have ex : (x.toNat : Int) - 97 + 65 = ((UInt8.ofNat (x.toNat - 32)).toNat : Int) := by simp; omega
              have hv' := Lib.hid (show hv (m.set k (UInt8.ofNat (x.toNat - 32))) = hv (hexL l0) by
                rw [← HV.out]
                unfold hv
                rw [List.map_set]
                have hkl : k < m.length := by rw [HM.out]; exact hlt
                have e2 : hval (UInt8.ofNat (x.toNat - 32)).toNat = hval x.toNat := by
                  rw [show (UInt8.ofNat (x.toNat - 32)).toNat = x.toNat - 32 by simp; omega]
                  exact hval_up _ (by omega) (by omega)
                rw [e2, HX.out]
                apply List.ext_getElem (by simp)
                intro i h1 h2
                by_cases e : k = i
                · subst e; simp [List.getD_eq_getElem?_getD, hkl]
                · simp [List.getElem_set_ne e])
              go_roundw
              case rel => exact ⟨k + 1, m.set k (UInt8.ofNat (x.toNat - 32)), by omega, by go_num, by rw [ex]; exact hset, Lib.hid (by simpa using HM.out), hv', hW.setCell (p := ⟨g, k, none⟩) hg _⟩
              case measure => simp [intOf]; omega
            · go_roundw
              case rel => exact ⟨k + 1, m, by omega, by go_num, hB, HM, HV, hW⟩
              case measure => simp [intOf]; omega
          · replace h2 : (102 : Int) < (x.toNat : Int) := by omega
            go_wp2_with fail
            go_roundw
            case rel => exact ⟨k + 1, m, by omega, by go_num, hB, HM, HV, hW⟩
            case measure => simp [intOf]; omega
        · replace h1 : (x.toNat : Int) < 97 := by omega
          go_wp2_with fail
          go_roundw
          case rel => exact ⟨k + 1, m, by omega, by go_num, hB, HM, HV, hW⟩
          case measure => simp [intOf]; omega
      · obtain rfl : k = n := by omega
        have hS := hB.sl c (by rw [HM.out]; omega) hc2
        rw [HM.out] at hS
        have hc := conv_sl hS
        go_wp2_with fail
        refine (unhex_any ⟨m.toArray⟩ _ (by have := HM.out; simp [ByteArray.size]; omega)).mono ?_
        rintro e w4 ⟨a4, n4, c4, rfl, hS4, hb4⟩
        have hU : unhex m = some l0 := by rw [unhex_hv _ _ HV.out, unhex_hexL]
        simp only [hU, errForm, Option.getD_some] at hS4 ⊢
        have hW4 := hW.trans (hb4.mono hW.size)
        have hc4 := conv_sl hS4
        have hc0 := conv_sl (s0.after hW4)
        clear hc hU
        go_wp2_with fail
        refine (awake_any _).mono ?_
        rintro e w5 ⟨rfl, hb5⟩
        go_wp2_with fail
        go_ret
        exact ⟨rfl, hW4.trans (hb5.mono hW4.size)⟩
end Go.Proofs.Ytpdkbbenoipohaa

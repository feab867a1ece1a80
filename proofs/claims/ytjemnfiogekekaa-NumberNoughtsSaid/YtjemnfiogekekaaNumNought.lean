/- NumberNoughts: the walk. -/
import Derived.Test.YtjemnfiogekekaaNumMore
namespace Go.Proofs.Ytjemnfiogekekaa
open Go.RowKit

theorem stop_snoc (l : List UInt8) (i : Nat) (h : i < l.length) : hasStop (l.take (i + 1)) = (hasStop (l.take i) || (l.getD i 0 == 46)) := by
  rw [List.take_succ_eq_append_getElem h]
  unfold hasStop
  rw [List.any_append]
  simp [List.getD_eq_getElem?_getD, h]
theorem cnt_snoc (l : List UInt8) (i : Nat) (h : i < l.length) : cnt (l.take (i + 1)) = cnt (l.take i) + if 48 ≤ (l.getD i 0).toNat ∧ (l.getD i 0).toNat ≤ 57 then 1 else 0 := by
  rw [List.take_succ_eq_append_getElem h, cnt_app]
  have e : l.getD i 0 = l[i] := by simp [List.getD_eq_getElem?_getD, h]
  rw [e]
  by_cases hd : 48 ≤ (l[i]).toNat ∧ (l[i]).toNat ≤ 57
  · rw [if_pos hd]; unfold cnt; rw [List.countP_cons_of_pos (by simp [isDig, hd])]; rfl
  · rw [if_neg hd]; unfold cnt; rw [List.countP_cons_of_neg (by simp [isDig]; omega)]; rfl

set_option maxHeartbeats 8000000 in
set_option maxRecDepth 100000 in
theorem NumberNoughts_walk (a0 : Option Addr) (len0 cap0 : Nat) (z0 : List Int) (n : Int) (w : World) (w0 : IsRow .u8 w a0 len0 cap0 z0) (w1 : (Lit.int .u8 n).wf = true) :
    Calls Try.prog 4 #[.slice a0 len0 cap0, .int .u8 n] w fun e w' => e = .returned (.bool true) ∧ Below w.heap.size w w' := by
  obtain ⟨l0, s0⟩ := w0.sl
  have hn : 0 ≤ n ∧ n < 256 := by simp [Lit.wf, IntKind.min, IntKind.max, IntKind.bits, IntKind.signed] at w1; omega
  obtain ⟨hn0, hn1⟩ := hn
  clear w0 w1
  by_cases h0 : (100 : Int) < len0
  · go_enter Try.func4, Try.ntmps4
    go_wp2_with fail
    refine (awake_any _).mono ?_
    rintro e w1 ⟨rfl, hb⟩
    go_wp2_with fail
    go_ret
    exact ⟨rfl, hb⟩
  · replace h0 : (len0 : Int) ≤ 100 := by omega
    obtain ⟨m, hm⟩ : ∃ m : Nat, n % 10 = (m : Int) := ⟨(n % 10).toNat, by omega⟩
    have hm9 : m ≤ 9 := by omega
    obtain ⟨i0, hi, hz0, hz1, hz2⟩ := info_parts numInfo5
    have HL := Lib.hid s0.1
    go_enter Try.func4, Try.ntmps4
    go_wp2_with fail
    refine (get_any _ _ _ _ _ s0 (by omega)).mono ?_
    rintro e wb ⟨rfl, hW⟩
    have s1 := Lib.hid (s0.after hW)
    have HS0 := Lib.hid s0
    clear s0
    obtain ⟨O, hO⟩ : ∃ O, O = getO l0 := ⟨_, rfl⟩
    rw [← hO]
    have HO := Lib.hid hO
    clear hO
    go_wp2_with fail
    go_loop [7, 8, 9] (fun t' c' i' => ∃ (st : Bool) (ct i : Nat), i ≤ len0 ∧ ct ≤ i ∧ t' = .bool st ∧ c' = .int .i64 ct ∧ i' = .int .i64 i ∧ Hid (st = hasStop (l0.take i)) ∧ Hid (ct = cnt (l0.take i))) (fun _ _ i' => len0 - (intOf i').toNat)
    case atStart => exact ⟨false, 0, 0, Nat.zero_le _, Nat.le_refl _, rfl, rfl, rfl, Lib.hid rfl, Lib.hid rfl⟩
    case round =>
      obtain ⟨st, ct, i, hil, hci, rfl, rfl, rfl, HT, HC⟩ := hrel
      by_cases hlt : i < len0
      · obtain ⟨b, o, rfl, hcc, _⟩ := s1.out.some (by omega)
        have c0 := hcc i hlt
        have hl : i < l0.length := by have := HL.out; omega
        have K1 := stop_snoc l0 i hl
        have K2 := cnt_snoc l0 i hl
        obtain ⟨x, hx⟩ : ∃ x, x = l0.getD i 0 := ⟨_, rfl⟩
        rw [← hx] at c0 K1 K2
        rw [← HT.out] at K1
        rw [← HC.out] at K2
        have K1' := Lib.hid K1
        have K2' := Lib.hid K2
        have hx255 := x.toNat_lt
        have t1 : ((x.toNat : Int) == 46) = (x == 46) := by
          by_cases e : x = 46
          · subst e; rfl
          · have : x.toNat ≠ 46 := fun h => e (UInt8.toNat_inj.1 h)
            have h2 : (x == 46) = false := by simp [e]
            rw [h2]; simp; omega
        obtain ⟨s4, hs4⟩ : ∃ s4, s4 = (x == 46) := ⟨_, rfl⟩
        rw [← hs4] at t1 K1'
        clear hcc hl hx K1 K2 hs4
        by_cases d1 : (48 : Int) ≤ x.toNat
        · by_cases d2 : (x.toNat : Int) ≤ 57
          · have E2 := Lib.hid (K2'.out.trans (by rw [if_pos (by omega)]))
            cases st
            all_goals
              go_wp2_with fail
              go_round
              case rel => exact ⟨_, ct + 1, i + 1, by omega, by omega, rfl, by go_num, by go_num, Lib.hid (by rw [K1'.out]; rfl), Lib.hid E2.out.symm⟩
              case measure => simp [intOf]; omega
          · have d2' : (57 : Int) < x.toNat := by omega
            have E2 := Lib.hid (K2'.out.trans (by rw [if_neg (by omega)]))
            clear d2
            cases st
            all_goals
              go_wp2_with fail
              go_round
              case rel => exact ⟨_, ct, i + 1, by omega, by omega, rfl, rfl, by go_num, Lib.hid (by rw [K1'.out]; rfl), Lib.hid E2.out.symm⟩
              case measure => simp [intOf]; omega
        · have d1' : (x.toNat : Int) < 48 := by omega
          have E2 := Lib.hid (K2'.out.trans (by rw [if_neg (by omega)]))
          clear d1
          cases st
          all_goals
            go_wp2_with fail
            go_round
            case rel => exact ⟨_, ct, i + 1, by omega, by omega, rfl, rfl, by go_num, Lib.hid (by rw [K1'.out]; rfl), Lib.hid E2.out.symm⟩
            case measure => simp [intOf]; omega
      · obtain rfl : i = len0 := by omega
        have hT : st = hasStop l0 := by have := HT.out; rw [List.take_of_length_le (by have := HL.out; omega)] at this; exact this
        have hC : ct = cnt l0 := by have := HC.out; rw [List.take_of_length_le (by have := HL.out; omega)] at this; exact this
        have HT2 := Lib.hid hT
        have HC2 := Lib.hid hC
        clear hT hC HT HC
        cases O with
        | none =>
          go_wp2_with fail
          refine (awake_any _).mono ?_
          rintro e w1 ⟨rfl, hb⟩
          go_wp2_with fail
          go_ret
          exact ⟨rfl, hW.trans (hb.mono hW.size)⟩
        | some q =>
          cases st with
          | false =>
            go_wp2_with fail
            refine (awake_any _).mono ?_
            rintro e w1 ⟨rfl, hb⟩
            go_wp2_with fail
            go_ret
            exact ⟨rfl, hW.trans (hb.mono hW.size)⟩
          | true =>
            by_cases h15 : (15 : Int) < ct + m
            · go_wp2_with fail
              refine (awake_any _).mono ?_
              rintro e w1 ⟨rfl, hb⟩
              go_wp2_with fail
              go_ret
              exact ⟨rfl, hW.trans (hb.mono hW.size)⟩
            · replace h15 : (ct : Int) + m ≤ 15 := by omega
              have HQ := Lib.hid (noughts_ok HO.out.symm HT2.out.symm (show cnt l0 + m ≤ 15 by rw [← HC2.out]; omega))
              have hown : (wb.alloc (.cells #[] 5)).ownsRow wb.heap.size 5 1 (.slice (some ⟨wb.heap.size, 0, none⟩) 0 0) 0 (Lib.byteCells []) := World.ownsRow_lit wb #[] 0 (Nat.le_refl _) (Nat.zero_le _) rfl
              have hWa : Below wb.heap.size wb (wb.alloc (.cells #[] 5)) := (Below.refl _ _).alloc (Nat.le_refl _) _
              go_wp2_with (first
                | (at_builtin; refine wpList_append_sl rfl (.tmp 66) (.tmp 67) 22 rfl wb.heap.size 5 i0 Try.underlying22 hi hz0 hz1 hz2 _ 0 [] rfl hown a0 i cap0 l0 rfl (s1.out.after hWa) (by omega) (by simp) ?_; intro v2 w2 hown2 hg2)
                | fail)
              have hW2 := hWa.grown hg2 (by simp) (fun k hk => (hown.lt k hk).1)
              simp only [List.nil_append, Nat.zero_add] at hown2
              clear hown hg2 hWa
              have hWW := hW.trans (hW2.mono hW.size)
              go_wp2_with fail
              go_loopw [10, 11] (fun out j' wr => ∃ j : Nat, j ≤ m ∧ j' = .int .i64 j ∧ wr.ownsRow wb.heap.size 5 1 out (i + j) (Lib.byteCells (l0 ++ List.replicate j 48)) ∧ Below wb.heap.size wb wr) (fun _ j' _ => m - (intOf j').toNat)
              case atStart => exact ⟨0, Nat.zero_le _, rfl, by simpa using hown2, hW2⟩
              case round =>
                obtain ⟨wa, rfl⟩ : ∃ wa : World, wa = wr := ⟨_, rfl⟩
                obtain ⟨j, hj, rfl, hown3, hW3⟩ := hrel
                by_cases hlt : j < m
                · have s48 : Sl (wa.alloc (.cells #[.int .u8 48] 5)) (some ⟨wa.heap.size, 0, none⟩) 1 1 [48] := sl_lit wa [48] (0, 0) (by decide)
                  have hs := hW3.size
                  go_wp2_with (first
                    | (at_builtin; refine wpList_append_sl rfl (.tmp 76) (.tmp 77) 22 rfl wb.heap.size 5 i0 Try.underlying22 hi hz0 hz1 hz2 _ (i + j) _ rfl (hown3.alloc _) (some ⟨wa.heap.size, 0, none⟩) 1 1 [48] rfl s48 (by omega) (by simp; omega) ?_; intro v4 w4 hown4 hg4)
                    | fail)
                  have hW4 := (hW3.alloc (by omega) (.cells #[.int .u8 48] 5)).grown hg4 (by simp; omega) (fun k hk => (hown3.lt k hk).1)
                  go_wp2_with fail
                  go_roundw
                  case rel => exact ⟨j + 1, by omega, by go_num, by rw [List.append_assoc, ← List.replicate_succ'] at hown4; exact hown4, hW4⟩
                  case measure => simp [intOf]; omega
                · obtain rfl : j = m := by omega
                  obtain ⟨a4, c4, rfl, s4⟩ := Sl.ofOwns hown3
                  have hWW3 := hW.trans (hW3.mono hW.size)
                  clear hown3
                  go_wp2_with fail
                  refine (get_any _ _ _ _ _ s4 (by omega)).mono ?_
                  rintro e w5 ⟨rfl, hb5⟩
                  rw [HQ.out]
                  have hag := Lib.hid (show Agree q q by
                    cases hx : isNan q
                    · exact .inr ⟨hx, rfl⟩
                    · exact .inl ⟨hx, hx⟩)
                  have hW5 := hWW3.trans (hb5.mono hWW3.size)
                  go_wp2_with fail
                  refine (same_any _ _ hag.out _).mono ?_
                  rintro e w6 ⟨rfl, rfl⟩
                  go_wp2_with fail
                  refine (awake_any _).mono ?_
                  rintro e w7 ⟨rfl, hb⟩
                  go_wp2_with fail
                  go_ret
                  exact ⟨rfl, hW5.trans (hb.mono hW5.size)⟩
end Go.Proofs.Ytjemnfiogekekaa

/- the document's Unhex, Unbase64: what it computes, and that what it hands back is its own. -/
import Derived.Test.YtkbblhioncecmaaDoorNtO1
namespace Go.Proofs.YtkbblhioncecmaaDoor
open Go.RowKit
set_option linter.unusedSimpArgs false
set_option linter.unusedVariables false

set_option maxHeartbeats 2000000 in
set_option maxRecDepth 100000 in
theorem refUnhexO_any (s : ByteArray) (w : World) (hs : s.size ≤ 1000000000) :
    Calls Tryd.prog 93 #[.string s] w (GaveO (unhex s.data.toList) (.bool (unhex s.data.toList).isSome) w.heap.size w) := by
  obtain ⟨R, hR⟩ : ∃ R, R = unhex s.data.toList := ⟨_, rfl⟩
  rw [← hR]
  have HR := Lib.hid hR
  clear hR
  obtain ⟨i0, hi, hz0, hz1, hz2⟩ := info_parts bldInfo5
  have hown0 : (w.alloc (.cells #[] 5)).ownsRow w.heap.size 5 1 (.slice (some ⟨w.heap.size, 0, none⟩) 0 0) 0 (Lib.byteCells []) := World.ownsRow_lit w #[] 0 (Nat.le_refl _) (Nat.zero_le _) rfl
  have hW0 : Below w.heap.size w (w.alloc (.cells #[] 5)) := (Below.refl _ _).alloc (Nat.le_refl _) _
  have hempty : ∀ (w : World), Sl (w.alloc (.cells #[] 5)) (some ⟨w.heap.size, 0, none⟩) 0 0 [] := fun w => ⟨rfl, Nat.le_refl _, Nat.zero_le _, (fun h => by cases h), .inl rfl⟩
  by_cases ho : s.size % 2 = 1
  · have hodd : R = none := by rw [HR.out]; exact unhex_odd _ (by simpa using ho)
    subst hodd
    have h1 : (1 : Int) ≤ (s.size : Int) % 2 := by omega
    have h1' : (s.size : Int) % 2 ≤ 1 := by omega
    go_enter Tryd.func93, Tryd.ntmps93
    go_wp2_with fail
    go_ret2
    exact ⟨_, 0, 0, rfl, hempty w, .inl rfl, hW0⟩
  · have h1 : (((s.size : Int) % 2) == 1) = false := by simp; omega
    have H2 := Lib.hid (show s.size % 2 = 0 by omega)
    clear ho
    go_enter Tryd.func93, Tryd.ntmps93
    go_wp2_with fail
    clear h1
    go_loopw [4, 5] (fun out i wr => ∃ (k : Nat) (d : List UInt8), k ≤ s.size ∧ Hid (k % 2 = 0) ∧ i = .int .i64 k ∧ wr.ownsRow w.heap.size 5 1 out d.length (Lib.byteCells d) ∧ Hid (R = (unhex (s.data.toList.drop k)).map (d ++ ·)) ∧ d.length ≤ k ∧ Below w.heap.size w wr)
      (fun _ i _ => s.size - (intOf i).toNat)
    case atStart => exact ⟨0, [], Nat.zero_le _, Lib.hid rfl, rfl, hown0, Lib.hid (by rw [HR.out]; simp), Nat.le_refl _, hW0⟩
    case round =>
      obtain ⟨k, d, hk, HK, rfl, hown, HD, hdl, hW⟩ := hrel
      clear hown0 hW0
      by_cases hlt : k < s.size
      · have hk1 : k + 1 < s.size := by have := HK.out; have := H2.out; omega
        obtain ⟨c1, hc1⟩ : ∃ c1, c1 = s[k]'hlt := ⟨_, rfl⟩
        obtain ⟨c2, hc2⟩ : ∃ c2, c2 = s[k + 1]'hk1 := ⟨_, rfl⟩
        have HF := Lib.hid (refUnhex_fall s k hk1 R d HD.out)
        have HS := Lib.hid (refUnhex_step s k hk1 R d HD.out)
        rw [← hc1, ← hc2] at HF HS
        have e1 := hc1.symm
        have e2 := hc2.symm
        clear hc1 hc2
        cases h1 : hval c1.toNat with
        | none =>
          have HV := Lib.hid (HF.out (.inl h1))
          have q1 : isB (hval c1.toNat) = false := by rw [h1]; rfl
          clear h1 HF HS HD
          go_wp2_with fail
          refine (refValue_any _ _).mono ?_
          rintro e wx ⟨rfl, rfl⟩
          go_wp2_with fail
          refine (refValue_any _ _).mono ?_
          rintro e wx ⟨rfl, rfl⟩
          go_wp2_with fail
          go_ret2
          exact ⟨_, 0, 0, by rw [HV.out]; rfl, by rw [HV.out]; exact hempty _, .inl rfl, hW.alloc hW.size _⟩
        | some x =>
          cases h2 : hval c2.toNat with
          | none =>
            have HV := Lib.hid (HF.out (.inr h2))
            have q1 : isB (hval c1.toNat) = true := by rw [h1]; rfl
            have q2 : isB (hval c2.toNat) = false := by rw [h2]; rfl
            clear h1 h2 HF HS HD
            go_wp2_with fail
            refine (refValue_any _ _).mono ?_
            rintro e wx ⟨rfl, rfl⟩
            go_wp2_with fail
            refine (refValue_any _ _).mono ?_
            rintro e wx ⟨rfl, rfl⟩
            go_wp2_with fail
            go_ret2
            exact ⟨_, 0, 0, by rw [HV.out]; rfl, by rw [HV.out]; exact hempty _, .inl rfl, hW.alloc hW.size _⟩
          | some y =>
            have q1 : isB (hval c1.toNat) = true := by rw [h1]; rfl
            have q2 : isB (hval c2.toNat) = true := by rw [h2]; rfl
            have q1' : valOf (hval c1.toNat) = (x : Int) := by rw [h1]; rfl
            have q2' : valOf (hval c2.toNat) = (y : Int) := by rw [h2]; rfl
            have lx := hval_lt _ _ h1
            have ly := hval_lt _ _ h2
            have HV := Lib.hid (HS.out x y h1 h2)
            obtain ⟨z, hz⟩ : ∃ z : Nat, z = 16 * x + y := ⟨_, rfl⟩
            rw [← hz] at HV
            have q3 : 16 * (x : Int) + (y : Int) = (z : Int) := by omega
            have lz : z < 256 := by omega
            clear h1 h2 HF HS HD hz
            go_wp2_with fail
            refine (refValue_any _ _).mono ?_
            rintro e wx ⟨rfl, rfl⟩
            go_wp2_with fail
            refine (refValue_any _ _).mono ?_
            rintro e wx ⟨rfl, rfl⟩
            go_wp2_with (at_builtin; go_loud (refine wpList_append_sl rfl (.tmp 44) (.tmp 49) 23 rfl w.heap.size 5 i0 Tryd.underlying23 hi hz0 hz1 hz2 _ d.length d rfl (hown.alloc _) (some ⟨World.heap _ |>.size, 0, none⟩) 1 1 [UInt8.ofNat z] rfl (sl_cell_nat _ _ z lz (cell_new _ _ _ rfl)) (by omega) (by have := hW.size; simp; omega) ?_); intro v1 w1 hown1 hg1)
            have hW1 := (hW.alloc hW.size _).grown hg1 (by have := hW.size; simp; omega) (fun k hk => (hown.lt k hk).1)
            go_wp2_with fail
            go_roundw
            case rel => exact ⟨k + 2, d ++ [UInt8.ofNat z], by omega, Lib.hid (by have := HK.out; omega), by go_num, by simpa using hown1, HV, by simp; omega, hW1⟩
            case measure => simp [intOf]; omega
      · obtain rfl : k = s.size := by omega
        have HV := Lib.hid (show R = some d by
          have := HD.out; rw [List.drop_of_length_le (by simp)] at this; simpa [unhex] using this)
        clear HD
        go_wp2_with fail
        obtain ⟨a, c, rfl, hsl⟩ := Sl.ofOwns hown
        go_ret2
        exact ⟨a, d.length, c, by rw [HV.out]; rfl, by rw [HV.out]; exact hsl, .inr (fun b o s e => (hown.lt b (by rw [e]; rfl)).1), hW⟩
set_option maxHeartbeats 8000000 in
set_option maxRecDepth 100000 in
theorem refUnbO_any (s : ByteArray) (w : World) (hs : s.size ≤ 100000) :
    Calls Tryd.prog 94 #[.string s] w (GaveO (unb64 s.data.toList) (.bool (unb64 s.data.toList).isSome) w.heap.size w) := by
  obtain ⟨R, hR⟩ : ∃ R, R = unb64 s.data.toList := ⟨_, rfl⟩
  rw [← hR]
  have HR := Lib.hid hR
  have HSL := Lib.hid (show s.toList = s.data.toList from Lib.toList_data s)
  clear hR
  obtain ⟨i0, hi, hz0, hz1, hz2⟩ := info_parts bldInfo5
  have hown0 : (w.alloc (.cells #[] 5)).ownsRow w.heap.size 5 1 (.slice (some ⟨w.heap.size, 0, none⟩) 0 0) 0 (Lib.byteCells []) := World.ownsRow_lit w #[] 0 (Nat.le_refl _) (Nat.zero_le _) rfl
  have hW0 : Below w.heap.size w (w.alloc (.cells #[] 5)) := (Below.refl _ _).alloc (Nat.le_refl _) _
  have hempty : ∀ (w : World), Sl (w.alloc (.cells #[] 5)) (some ⟨w.heap.size, 0, none⟩) 0 0 [] := fun w => ⟨rfl, Nat.le_refl _, Nat.zero_le _, (fun h => by cases h), .inl rfl⟩
  go_enter Tryd.func94, Tryd.ntmps94
  go_wp2_with fail
  go_loopw [4, 5] (fun bits i wr => ∃ (j : Nat) (bN : List Nat), j ≤ s.size ∧ i = .int .i64 j ∧ wr.ownsRow w.heap.size 5 1 bits bN.length (Lib.byteCells (bN.map UInt8.ofNat)) ∧ Hid (∀ x ∈ bN, x < 2) ∧ Hid (bitsOf s.data.toList = bN ++ bitsOf (s.data.toList.drop j)) ∧ bN.length ≤ 6 * j ∧ Below w.heap.size w wr) (fun _ i _ => s.size - (intOf i).toNat)
  case atStart => exact ⟨0, [], Nat.zero_le _, rfl, hown0, Lib.hid (by simp), Lib.hid (by simp), by simp, hW0⟩
  case round =>
    obtain ⟨wa, rfl⟩ : ∃ wa : World, wa = wr := ⟨_, rfl⟩
    obtain ⟨j, bN, hj, rfl, hown, hN, HB, hnl, hW⟩ := hrel
    clear hown0 hW0
    by_cases hlt : j < s.size
    · obtain ⟨c, hc⟩ : ∃ c, c = s[j]'hlt := ⟨_, rfl⟩
      have HD := Lib.hid (bitsOf_drop s j hlt)
      rw [← hc] at HD
      have e1 := hc.symm
      clear hc
      go_wp2_with fail
      refine (refsign_any _ _).mono ?_
      rintro e wx ⟨v, rfl, hv, rfl⟩
      have HV := Lib.hid hv
      have hl8 := sval_lt ⟨c.toNat, c.toNat_lt⟩
      have HL8 := Lib.hid hl8
      clear hv hl8
      cases hsv : sval c.toNat with
      | none =>
        replace HB := Lib.hid (show bitsOf s.data.toList = bN by rw [HB.out, HD.out, hsv]; simp)
        clear hsv HD HV HL8
        go_wp2_with fail
        obtain ⟨m, hm⟩ : ∃ m, m = bN.length := ⟨_, rfl⟩
        have HM := Lib.hid hm
        rw [← hm] at hnl hown
        clear hm
        obtain ⟨ab, cb, rfl, hSb⟩ := Sl.ofOwns hown
        have hown2 : (wa.alloc (.cells #[] 5)).ownsRow wa.heap.size 5 1 (.slice (some ⟨wa.heap.size, 0, none⟩) 0 0) 0 (Lib.byteCells []) := World.ownsRow_lit wa #[] 0 (Nat.le_refl _) (Nat.zero_le _) rfl
        have hW2 : Below wa.heap.size wa (wa.alloc (.cells #[] 5)) := (Below.refl _ _).alloc (Nat.le_refl _) _
        clear hown
        go_loopw [9, 10] (fun out i wq => ∃ j : Nat, 8 * j ≤ m ∧ i = .int .i64 (8 * (j : Int)) ∧ wq.ownsRow wa.heap.size 5 1 out j (Lib.byteCells (packTo bN j)) ∧ Below wa.heap.size wa wq) (fun _ i _ => m + 8 - (intOf i).toNat)
        case atStart => exact ⟨0, by omega, rfl, hown2, hW2⟩
        case round =>
          obtain ⟨wq, rfl⟩ : ∃ wq : World, wq = wr := ⟨_, rfl⟩
          obtain ⟨j, hj, rfl, hownq, hWq⟩ := hrel
          clear hown2 hW2
          by_cases hlt : 8 * j + 8 ≤ m
          · have hlt' : 8 * (j : Int) + 8 ≤ (m : Int) := by omega
            have hSq := Lib.hid (hSb.after hWq)
            go_wp2_with fail
            go_loopw [11, 12] (fun s t wz => ∃ k : Nat, k ≤ 8 ∧ t = .int .i64 k ∧ s = .int .u8 (hor bN (8 * j) k : Nat) ∧ wq = wz) (fun _ t _ => 8 - (intOf t).toNat)
            case atStart => exact ⟨0, by omega, rfl, rfl, rfl⟩
            case round =>
              obtain ⟨k, hk, rfl, rfl, rfl⟩ := hrel
              by_cases hk8 : k < 8
              · obtain ⟨b', o', rfl, hcc⟩ : ∃ b o, ab = some ⟨b, o, none⟩ ∧ ∀ i, i < m → wq.cell? ⟨b, o + i, none⟩ = some (.int .u8 (((bN.map UInt8.ofNat).getD i 0).toNat : Int)) := by
                  rcases hSq.out.2.2.2.2 with hc | hc
                  · omega
                  · exact hc
                have c0 := hcc (8 * j + k) (by omega)
                have hbit : ((bN.map UInt8.ofNat).getD (8 * j + k) 0).toNat = bN.getD (8 * j + k) 0 := map_getD bN hN.out _
                rw [hbit] at c0
                have hgk := hor_lt bN hN.out (8 * j) k
                have hgk2 : hor bN (8 * j) k < 128 := Nat.lt_of_lt_of_le hgk (Nat.pow_le_pow_right (n := 2) (by omega) (show k ≤ 7 by omega))
                have hb := getD_lt bN hN.out (8 * j + k)
                obtain ⟨x, hx⟩ : ∃ x, x = hor bN (8 * j) k := ⟨_, rfl⟩
                obtain ⟨y, hy⟩ : ∃ y, y = bN.getD (8 * j + k) 0 := ⟨_, rfl⟩
                have HG := Lib.hid (show hor bN (8 * j) (k + 1) = 2 * x + y by rw [hx, hy]; rfl)
                rw [← hx]
                rw [← hx] at hgk2
                rw [← hy] at hb c0
                clear hgk hx hy hbit hcc
                go_wp2_with fail
                go_roundw
                case rel => exact ⟨k + 1, by omega, by go_num, by rw [HG.out]; go_num, trivial⟩
                case measure => simp [intOf]; omega
              · obtain rfl : k = 8 := by omega
                have hg : hor bN (8 * j) 8 < 256 := hor_lt bN hN.out (8 * j) 8
                obtain ⟨x, hx⟩ : ∃ x, x = hor bN (8 * j) 8 := ⟨_, rfl⟩
                have HX := Lib.hid (show packTo bN (j + 1) = packTo bN j ++ [UInt8.ofNat x] by rw [hx, packTo_succ])
                rw [← hx]
                rw [← hx] at hg
                clear hx
                go_wp2_with (at_builtin; go_loud (refine wpList_append_sl rfl (.tmp 62) (.tmp 64) 23 rfl wa.heap.size 5 i0 Tryd.underlying23 hi hz0 hz1 hz2 _ j (packTo bN j) rfl (hownq.alloc _) _ 1 1 [UInt8.ofNat x] rfl (sl_cell_nat _ _ x hg (cell_new _ _ _ rfl)) (by omega) (by have := hWq.size; simp; omega) ?_); intro v1 w1 hown1 hg1)
                have hW1 := (hWq.alloc hWq.size _).grown hg1 (by have := hWq.size; simp; omega) (fun t ht => (hownq.lt t ht).1)
                rw [← HX.out] at hown1
                go_wp2_with fail
                go_roundw
                case rel => exact ⟨j + 1, by omega, by go_num, hown1, hW1⟩
                case measure => simp [intOf]; omega
          · have hlt' : (m : Int) < 8 * (j : Int) + 8 := by omega
            obtain rfl : j = m / 8 := by omega
            have HP := Lib.hid (packTo_all bN)
            rw [← HM.out] at HP
            obtain ⟨X, hX⟩ : ∃ X, X = packTo bN (m / 8) := ⟨_, rfl⟩
            rw [← hX] at hownq HP
            obtain ⟨jj, hjj⟩ : ∃ jj, jj = m / 8 := ⟨_, rfl⟩
            rw [← hjj] at hownq
            have hjl : X.length ≤ 1000000 := by
              have := hownq.1
              simp [Lib.byteCells] at this
              omega
            clear hX hjj
            obtain ⟨aq, cq, rfl, hSq⟩ := Sl.ofOwns hownq
            have HOWN : Hid (∀ n, InB (fun k => w.heap.size ≤ k) aq n) := Lib.hid (fun n => .inr (fun b o s e => Nat.le_trans hW.size (hownq.lt b (by rw [e]; rfl)).1))
            have hWW := hW.trans (hWq.mono hW.size)
            go_wp2_with fail
            refine (refB64_any _ _ _ _ _ hSq hjl).mono ?_
            rintro e wz ⟨rfl, hbz⟩
            have hWz := hWW.trans (hbz.mono hWW.size)
            by_cases hq : b64 X = s.toList
            · have HR2 := Lib.hid (show R = some X by rw [HR.out, unb64_both, HB.out, ← HP.out, if_pos (by rw [hq]; exact HSL.out)])
              go_wp2_with fail
              go_ret2
              exact ⟨aq, _, cq, by rw [HR2.out]; rfl, by rw [HR2.out]; exact hSq.after hbz, HOWN.out _, hWz⟩
            · have HR2 := Lib.hid (show R = none by rw [HR.out, unb64_both, HB.out, ← HP.out, if_neg (by intro hh; exact hq (hh.trans HSL.out.symm))])
              replace hq : (b64 X == s.toList) = false := by simpa using hq
              go_wp2_with fail
              go_ret2
              exact ⟨_, 0, 0, by rw [HR2.out]; rfl, by rw [HR2.out]; exact hempty _, .inl rfl, hWz.alloc hWz.size _⟩
      | some n =>
        obtain rfl := HV.out n hsv
        have hn := HL8.out n hsv
        have HB' := Lib.hid (show bitsOf s.data.toList = (bN ++ [n / 32 % 2, n / 16 % 2, n / 8 % 2, n / 4 % 2, n / 2 % 2, n % 2]) ++ bitsOf (s.data.toList.drop (j + 1)) by rw [HB.out, HD.out, hsv]; simp)
        clear hsv HD HV HL8 HB
        go_wp2_with fail
        refine wp_loop_rounds 7 ?_
        rw [rounds_succ]
        go_wp2_with (at_builtin; go_loud (refine wpList_append_sl rfl (.tmp 33) (.tmp 39) 23 rfl w.heap.size 5 i0 Tryd.underlying23 hi hz0 hz1 hz2 _ (bN.length) (bN.map UInt8.ofNat) rfl (hown.alloc _) _ 1 1 [UInt8.ofNat (n / 32 % 2)] rfl (sl_cell_nat _ _ (n / 32 % 2) (by omega) (cell_new wa _ _ rfl)) (by omega) (by have := hW.size; simp; omega) ?_); intro v1 w1 hown1 hg1)
        have hW1 := (hW.alloc hW.size _).grown hg1 (by have := hW.size; simp; omega) (fun t ht => (hown.lt t ht).1)
        rw [rounds_succ]
        go_wp2_with (at_builtin; go_loud (refine wpList_append_sl rfl (.tmp 33) (.tmp 39) 23 rfl w.heap.size 5 i0 Tryd.underlying23 hi hz0 hz1 hz2 _ (bN.length + 1) (bN.map UInt8.ofNat ++ [UInt8.ofNat (n / 32 % 2)]) rfl (hown1.alloc _) _ 1 1 [UInt8.ofNat (n / 16 % 2)] rfl (sl_cell_nat _ _ (n / 16 % 2) (by omega) (cell_new w1 _ _ rfl)) (by omega) (by have := hW1.size; simp; omega) ?_); intro v2 w2 hown2 hg2)
        have hW2 := (hW1.alloc hW1.size _).grown hg2 (by have := hW1.size; simp; omega) (fun t ht => (hown1.lt t ht).1)
        rw [rounds_succ]
        go_wp2_with (at_builtin; go_loud (refine wpList_append_sl rfl (.tmp 33) (.tmp 39) 23 rfl w.heap.size 5 i0 Tryd.underlying23 hi hz0 hz1 hz2 _ (bN.length + 1 + 1) (bN.map UInt8.ofNat ++ [UInt8.ofNat (n / 32 % 2)] ++ [UInt8.ofNat (n / 16 % 2)]) rfl (hown2.alloc _) _ 1 1 [UInt8.ofNat (n / 8 % 2)] rfl (sl_cell_nat _ _ (n / 8 % 2) (by omega) (cell_new w2 _ _ rfl)) (by omega) (by have := hW2.size; simp; omega) ?_); intro v3 w3 hown3 hg3)
        have hW3 := (hW2.alloc hW2.size _).grown hg3 (by have := hW2.size; simp; omega) (fun t ht => (hown2.lt t ht).1)
        rw [rounds_succ]
        go_wp2_with (at_builtin; go_loud (refine wpList_append_sl rfl (.tmp 33) (.tmp 39) 23 rfl w.heap.size 5 i0 Tryd.underlying23 hi hz0 hz1 hz2 _ (bN.length + 1 + 1 + 1) (bN.map UInt8.ofNat ++ [UInt8.ofNat (n / 32 % 2)] ++ [UInt8.ofNat (n / 16 % 2)] ++ [UInt8.ofNat (n / 8 % 2)]) rfl (hown3.alloc _) _ 1 1 [UInt8.ofNat (n / 4 % 2)] rfl (sl_cell_nat _ _ (n / 4 % 2) (by omega) (cell_new w3 _ _ rfl)) (by omega) (by have := hW3.size; simp; omega) ?_); intro v4 w4 hown4 hg4)
        have hW4 := (hW3.alloc hW3.size _).grown hg4 (by have := hW3.size; simp; omega) (fun t ht => (hown3.lt t ht).1)
        rw [rounds_succ]
        go_wp2_with (at_builtin; go_loud (refine wpList_append_sl rfl (.tmp 33) (.tmp 39) 23 rfl w.heap.size 5 i0 Tryd.underlying23 hi hz0 hz1 hz2 _ (bN.length + 1 + 1 + 1 + 1) (bN.map UInt8.ofNat ++ [UInt8.ofNat (n / 32 % 2)] ++ [UInt8.ofNat (n / 16 % 2)] ++ [UInt8.ofNat (n / 8 % 2)] ++ [UInt8.ofNat (n / 4 % 2)]) rfl (hown4.alloc _) _ 1 1 [UInt8.ofNat (n / 2 % 2)] rfl (sl_cell_nat _ _ (n / 2 % 2) (by omega) (cell_new w4 _ _ rfl)) (by omega) (by have := hW4.size; simp; omega) ?_); intro v5 w5 hown5 hg5)
        have hW5 := (hW4.alloc hW4.size _).grown hg5 (by have := hW4.size; simp; omega) (fun t ht => (hown4.lt t ht).1)
        rw [rounds_succ]
        go_wp2_with (at_builtin; go_loud (refine wpList_append_sl rfl (.tmp 33) (.tmp 39) 23 rfl w.heap.size 5 i0 Tryd.underlying23 hi hz0 hz1 hz2 _ (bN.length + 1 + 1 + 1 + 1 + 1) (bN.map UInt8.ofNat ++ [UInt8.ofNat (n / 32 % 2)] ++ [UInt8.ofNat (n / 16 % 2)] ++ [UInt8.ofNat (n / 8 % 2)] ++ [UInt8.ofNat (n / 4 % 2)] ++ [UInt8.ofNat (n / 2 % 2)]) rfl (hown5.alloc _) _ 1 1 [UInt8.ofNat (n % 2)] rfl (sl_cell_nat _ _ (n % 2) (by omega) (cell_new w5 _ _ rfl)) (by omega) (by have := hW5.size; simp; omega) ?_); intro v6 w6 hown6 hg6)
        have hW6 := (hW5.alloc hW5.size _).grown hg6 (by have := hW5.size; simp; omega) (fun t ht => (hown5.lt t ht).1)
        rw [rounds_succ]
        go_wp2_with fail
        go_roundw
        case rel => exact ⟨j + 1, bN ++ [n / 32 % 2, n / 16 % 2, n / 8 % 2, n / 4 % 2, n / 2 % 2, n % 2], by omega, by go_num, by simpa using hown6, Lib.hid (by have := hN.out; intro x hx; simp at hx; rcases hx with hx | hx | hx | hx | hx | hx | hx <;> first | exact this x hx | omega), HB', by simp; omega, hW6⟩
        case measure => simp [intOf]; omega
    · obtain rfl : j = s.size := by omega
      replace HB := Lib.hid (show bitsOf s.data.toList = bN by rw [HB.out, List.drop_of_length_le (by simp)]; simp [bitsOf])
      go_wp2_with fail
      obtain ⟨m, hm⟩ : ∃ m, m = bN.length := ⟨_, rfl⟩
      have HM := Lib.hid hm
      rw [← hm] at hnl hown
      clear hm
      obtain ⟨ab, cb, rfl, hSb⟩ := Sl.ofOwns hown
      have hown2 : (wa.alloc (.cells #[] 5)).ownsRow wa.heap.size 5 1 (.slice (some ⟨wa.heap.size, 0, none⟩) 0 0) 0 (Lib.byteCells []) := World.ownsRow_lit wa #[] 0 (Nat.le_refl _) (Nat.zero_le _) rfl
      have hW2 : Below wa.heap.size wa (wa.alloc (.cells #[] 5)) := (Below.refl _ _).alloc (Nat.le_refl _) _
      clear hown
      go_loopw [9, 10] (fun out i wq => ∃ j : Nat, 8 * j ≤ m ∧ i = .int .i64 (8 * (j : Int)) ∧ wq.ownsRow wa.heap.size 5 1 out j (Lib.byteCells (packTo bN j)) ∧ Below wa.heap.size wa wq) (fun _ i _ => m + 8 - (intOf i).toNat)
      case atStart => exact ⟨0, by omega, rfl, hown2, hW2⟩
      case round =>
        obtain ⟨wq, rfl⟩ : ∃ wq : World, wq = wr := ⟨_, rfl⟩
        obtain ⟨j, hj, rfl, hownq, hWq⟩ := hrel
        clear hown2 hW2
        by_cases hlt : 8 * j + 8 ≤ m
        · have hlt' : 8 * (j : Int) + 8 ≤ (m : Int) := by omega
          have hSq := Lib.hid (hSb.after hWq)
          go_wp2_with fail
          go_loopw [11, 12] (fun s t wz => ∃ k : Nat, k ≤ 8 ∧ t = .int .i64 k ∧ s = .int .u8 (hor bN (8 * j) k : Nat) ∧ wq = wz) (fun _ t _ => 8 - (intOf t).toNat)
          case atStart => exact ⟨0, by omega, rfl, rfl, rfl⟩
          case round =>
            obtain ⟨k, hk, rfl, rfl, rfl⟩ := hrel
            by_cases hk8 : k < 8
            · obtain ⟨b', o', rfl, hcc⟩ : ∃ b o, ab = some ⟨b, o, none⟩ ∧ ∀ i, i < m → wq.cell? ⟨b, o + i, none⟩ = some (.int .u8 (((bN.map UInt8.ofNat).getD i 0).toNat : Int)) := by
                rcases hSq.out.2.2.2.2 with hc | hc
                · omega
                · exact hc
              have c0 := hcc (8 * j + k) (by omega)
              have hbit : ((bN.map UInt8.ofNat).getD (8 * j + k) 0).toNat = bN.getD (8 * j + k) 0 := map_getD bN hN.out _
              rw [hbit] at c0
              have hgk := hor_lt bN hN.out (8 * j) k
              have hgk2 : hor bN (8 * j) k < 128 := Nat.lt_of_lt_of_le hgk (Nat.pow_le_pow_right (n := 2) (by omega) (show k ≤ 7 by omega))
              have hb := getD_lt bN hN.out (8 * j + k)
              obtain ⟨x, hx⟩ : ∃ x, x = hor bN (8 * j) k := ⟨_, rfl⟩
              obtain ⟨y, hy⟩ : ∃ y, y = bN.getD (8 * j + k) 0 := ⟨_, rfl⟩
              have HG := Lib.hid (show hor bN (8 * j) (k + 1) = 2 * x + y by rw [hx, hy]; rfl)
              rw [← hx]
              rw [← hx] at hgk2
              rw [← hy] at hb c0
              clear hgk hx hy hbit hcc
              go_wp2_with fail
              go_roundw
              case rel => exact ⟨k + 1, by omega, by go_num, by rw [HG.out]; go_num, trivial⟩
              case measure => simp [intOf]; omega
            · obtain rfl : k = 8 := by omega
              have hg : hor bN (8 * j) 8 < 256 := hor_lt bN hN.out (8 * j) 8
              obtain ⟨x, hx⟩ : ∃ x, x = hor bN (8 * j) 8 := ⟨_, rfl⟩
              have HX := Lib.hid (show packTo bN (j + 1) = packTo bN j ++ [UInt8.ofNat x] by rw [hx, packTo_succ])
              rw [← hx]
              rw [← hx] at hg
              clear hx
              go_wp2_with (at_builtin; go_loud (refine wpList_append_sl rfl (.tmp 62) (.tmp 64) 23 rfl wa.heap.size 5 i0 Tryd.underlying23 hi hz0 hz1 hz2 _ j (packTo bN j) rfl (hownq.alloc _) _ 1 1 [UInt8.ofNat x] rfl (sl_cell_nat _ _ x hg (cell_new _ _ _ rfl)) (by omega) (by have := hWq.size; simp; omega) ?_); intro v1 w1 hown1 hg1)
              have hW1 := (hWq.alloc hWq.size _).grown hg1 (by have := hWq.size; simp; omega) (fun t ht => (hownq.lt t ht).1)
              rw [← HX.out] at hown1
              go_wp2_with fail
              go_roundw
              case rel => exact ⟨j + 1, by omega, by go_num, hown1, hW1⟩
              case measure => simp [intOf]; omega
        · have hlt' : (m : Int) < 8 * (j : Int) + 8 := by omega
          obtain rfl : j = m / 8 := by omega
          have HP := Lib.hid (packTo_all bN)
          rw [← HM.out] at HP
          obtain ⟨X, hX⟩ : ∃ X, X = packTo bN (m / 8) := ⟨_, rfl⟩
          rw [← hX] at hownq HP
          obtain ⟨jj, hjj⟩ : ∃ jj, jj = m / 8 := ⟨_, rfl⟩
          rw [← hjj] at hownq
          have hjl : X.length ≤ 1000000 := by
            have := hownq.1
            simp [Lib.byteCells] at this
            omega
          clear hX hjj
          obtain ⟨aq, cq, rfl, hSq⟩ := Sl.ofOwns hownq
          have HOWN : Hid (∀ n, InB (fun k => w.heap.size ≤ k) aq n) := Lib.hid (fun n => .inr (fun b o s e => Nat.le_trans hW.size (hownq.lt b (by rw [e]; rfl)).1))
          have hWW := hW.trans (hWq.mono hW.size)
          go_wp2_with fail
          refine (refB64_any _ _ _ _ _ hSq hjl).mono ?_
          rintro e wz ⟨rfl, hbz⟩
          have hWz := hWW.trans (hbz.mono hWW.size)
          by_cases hq : b64 X = s.toList
          · have HR2 := Lib.hid (show R = some X by rw [HR.out, unb64_both, HB.out, ← HP.out, if_pos (by rw [hq]; exact HSL.out)])
            go_wp2_with fail
            go_ret2
            exact ⟨aq, _, cq, by rw [HR2.out]; rfl, by rw [HR2.out]; exact hSq.after hbz, HOWN.out _, hWz⟩
          · have HR2 := Lib.hid (show R = none by rw [HR.out, unb64_both, HB.out, ← HP.out, if_neg (by intro hh; exact hq (hh.trans HSL.out.symm))])
            replace hq : (b64 X == s.toList) = false := by simpa using hq
            go_wp2_with fail
            go_ret2
            exact ⟨_, 0, 0, by rw [HR2.out]; rfl, by rw [HR2.out]; exact hempty _, .inl rfl, hWz.alloc hWz.size _⟩
end Go.Proofs.YtkbblhioncecmaaDoor

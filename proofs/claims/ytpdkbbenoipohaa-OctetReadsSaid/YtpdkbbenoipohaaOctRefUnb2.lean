/- the document's Unbase64: what it computes. -/
import Derived.Test.YtpdkbbenoipohaaOctRefUnb
import Derived.Lib.Strings
namespace Go.Proofs.Ytpdkbbenoipohaa
open Go.RowKit

def hor (b : List Nat) (i : Nat) : Nat → Nat
  | 0 => 0
  | k + 1 => 2 * hor b i k + b.getD (i + k) 0
def packTo (b : List Nat) (j : Nat) : List UInt8 := (List.range j).map fun t => UInt8.ofNat (hor b (8 * t) 8)
theorem packTo_succ (b : List Nat) (j : Nat) : packTo b (j + 1) = packTo b j ++ [UInt8.ofNat (hor b (8 * j) 8)] := by simp [packTo, List.range_succ]
theorem getD_lt (b : List Nat) (h : ∀ x ∈ b, x < 2) (i : Nat) : b.getD i 0 < 2 := by
  rw [List.getD_eq_getElem?_getD]
  cases e : b[i]? with
  | none => simp
  | some x => simp; exact h x (List.mem_of_getElem? e)
theorem hor_lt (b : List Nat) (h : ∀ x ∈ b, x < 2) (i k : Nat) : hor b i k < 2 ^ k := by
  induction k with
  | zero => simp [hor]
  | succ k ih => have := getD_lt b h (i + k); simp only [hor, Nat.pow_succ]; omega
theorem map_getD (b : List Nat) (h : ∀ x ∈ b, x < 2) (i : Nat) : ((b.map UInt8.ofNat).getD i 0).toNat = b.getD i 0 := by
  rw [List.getD_eq_getElem?_getD, List.getD_eq_getElem?_getD, List.getElem?_map]
  cases e : b[i]? with
  | none => simp
  | some x => have := h x (List.mem_of_getElem? e); simp; omega
theorem hor_cons (a b c d e f g h : Nat) (t : List Nat) (i : Nat) : ∀ k, hor (a :: b :: c :: d :: e :: f :: g :: h :: t) (8 + i) k = hor t i k := by
  intro k
  induction k with
  | zero => rfl
  | succ k ih => simp only [hor, ih]; rw [show 8 + i + k = i + k + 8 by omega]; rfl
theorem packTo_all (b : List Nat) : packTo b (b.length / 8) = pack b := by
  induction b using pack.induct with
  | case1 a b c d e f g h t ih =>
    rw [show (a :: b :: c :: d :: e :: f :: g :: h :: t).length / 8 = t.length / 8 + 1 by simp; omega]
    rw [pack, ← ih]
    unfold packTo
    rw [List.range_succ_eq_map]
    simp only [List.map_cons, List.map_map]
    refine List.cons_eq_cons.2 ⟨?_, ?_⟩
    · congr 1; simp [hor]; omega
    · apply List.map_congr_left
      intro i _
      simp only [Function.comp]
      rw [show 8 * Nat.succ i = 8 + 8 * i by omega, hor_cons]
  | case2 l hl =>
    have hlen : l.length < 8 := by
      match l, hl with
      | [], _ => simp
      | [_], _ => simp
      | [_, _], _ => simp
      | [_, _, _], _ => simp
      | [_, _, _, _], _ => simp
      | [_, _, _, _, _], _ => simp
      | [_, _, _, _, _, _], _ => simp
      | [_, _, _, _, _, _, _], _ => simp
      | a :: b :: c :: d :: e :: f :: g :: h :: t, hl => exact (hl a b c d e f g h t rfl).elim
    rw [Nat.div_eq_of_lt hlen]
    unfold pack
    split <;> first | rfl | exact (hl _ _ _ _ _ _ _ _ _ rfl).elim
theorem bitsOf_drop (s : ByteArray) (k : Nat) (hk : k < s.size) : bitsOf (s.data.toList.drop k) = match sval (s[k]'hk).toNat with
    | some n => [n / 32 % 2, n / 16 % 2, n / 8 % 2, n / 4 % 2, n / 2 % 2, n % 2] ++ bitsOf (s.data.toList.drop (k + 1))
    | none => [] := by
  have h1 : k < s.data.toList.length := by simpa using hk
  rw [List.drop_eq_getElem_cons h1]
  rfl

set_option maxHeartbeats 8000000 in
set_option maxRecDepth 100000 in
theorem refUnb_any (s : ByteArray) (w : World) (hs : s.size ≤ 100000) :
    Calls Try.prog 13 #[.string s] w (Gave (unb64 s.data.toList) (.bool (unb64 s.data.toList).isSome) w.heap.size w) := by
  obtain ⟨R, hR⟩ : ∃ R, R = unb64 s.data.toList := ⟨_, rfl⟩
  rw [← hR]
  have HR := Lib.hid hR
  have HSL := Lib.hid (show s.toList = s.data.toList from Lib.toList_data s)
  clear hR
  obtain ⟨i0, hi, hz0, hz1, hz2⟩ := info_parts bldInfo5
  have hown0 : (w.alloc (.cells #[] 5)).ownsRow w.heap.size 5 1 (.slice (some ⟨w.heap.size, 0, none⟩) 0 0) 0 (Lib.byteCells []) := World.ownsRow_lit w #[] 0 (Nat.le_refl _) (Nat.zero_le _) rfl
  have hW0 : Below w.heap.size w (w.alloc (.cells #[] 5)) := (Below.refl _ _).alloc (Nat.le_refl _) _
  have hempty : ∀ (w : World), Sl (w.alloc (.cells #[] 5)) (some ⟨w.heap.size, 0, none⟩) 0 0 [] := fun w => ⟨rfl, Nat.le_refl _, Nat.zero_le _, (fun h => by cases h), .inl rfl⟩
  go_enter Try.func13, Try.ntmps13
  go_wp2_with fail
  go_loopw [4, 5] (fun bits i wr => ∃ (j : Nat) (bN : List Nat), j ≤ s.size ∧ i = .int .i64 j ∧ wr.ownsRow w.heap.size 5 1 bits bN.length (Lib.byteCells (bN.map UInt8.ofNat)) ∧ Hid (∀ x ∈ bN, x < 2) ∧ Hid (bitsOf s.data.toList = bN ++ bitsOf (s.data.toList.drop j)) ∧ bN.length ≤ 6 * j ∧ Below w.heap.size w wr) (fun _ i _ => s.size - (intOf i).toNat)
  case atStart => exact ⟨0, [], Nat.zero_le _, rfl, hown0, Lib.hid (by simp), Lib.hid (by simp), by simp, hW0⟩
  case round =>
    obtain ⟨wa, rfl⟩ : ∃ wa : World, wa = wr := ⟨_, rfl⟩
    obtain ⟨j, bN, hj, rfl, hown, hN, HB, hnl, hW⟩ := hrel
    clear hown0 hW0
    by_cases hlt : j < s.size
    · obtain ⟨c, hc⟩ : ∃ c, c = s[j]'hlt := ⟨_, rfl⟩
      have HD := Lib.hid (bitsOf_drop s j hlt)
      rw [← hc] at HD
      have e1 := hc.symm
      clear hc
      go_wp2_with fail
      refine (refsign_any _ _).mono ?_
      rintro e wx ⟨v, rfl, hv, rfl⟩
      have HV := Lib.hid hv
      have hl8 := sval_lt ⟨c.toNat, c.toNat_lt⟩
      have HL8 := Lib.hid hl8
      clear hv hl8
      cases hsv : sval c.toNat with
      | none =>
        replace HB := Lib.hid (show bitsOf s.data.toList = bN by rw [HB.out, HD.out, hsv]; simp)
        clear hsv HD HV HL8
        go_wp2_with fail
        obtain ⟨m, hm⟩ : ∃ m, m = bN.length := ⟨_, rfl⟩
        have HM := Lib.hid hm
        rw [← hm] at hnl hown
        clear hm
        obtain ⟨ab, cb, rfl, hSb⟩ := Sl.ofOwns hown
        have hown2 : (wa.alloc (.cells #[] 5)).ownsRow wa.heap.size 5 1 (.slice (some ⟨wa.heap.size, 0, none⟩) 0 0) 0 (Lib.byteCells []) := World.ownsRow_lit wa #[] 0 (Nat.le_refl _) (Nat.zero_le _) rfl
        have hW2 : Below wa.heap.size wa (wa.alloc (.cells #[] 5)) := (Below.refl _ _).alloc (Nat.le_refl _) _
        clear hown
        go_loopw [9, 10] (fun out i wq => ∃ j : Nat, 8 * j ≤ m ∧ i = .int .i64 (8 * (j : Int)) ∧ wq.ownsRow wa.heap.size 5 1 out j (Lib.byteCells (packTo bN j)) ∧ Below wa.heap.size wa wq) (fun _ i _ => m + 8 - (intOf i).toNat)
        case atStart => exact ⟨0, by omega, rfl, hown2, hW2⟩
        case round =>
          obtain ⟨wq, rfl⟩ : ∃ wq : World, wq = wr := ⟨_, rfl⟩
          obtain ⟨j, hj, rfl, hownq, hWq⟩ := hrel
          clear hown2 hW2
          by_cases hlt : 8 * j + 8 ≤ m
          · have hlt' : 8 * (j : Int) + 8 ≤ (m : Int) := by omega
            have hSq := Lib.hid (hSb.after hWq)
            go_wp2_with fail
            go_loopw [11, 12] (fun s t wz => ∃ k : Nat, k ≤ 8 ∧ t = .int .i64 k ∧ s = .int .u8 (hor bN (8 * j) k : Nat) ∧ wq = wz) (fun _ t _ => 8 - (intOf t).toNat)
            case atStart => exact ⟨0, by omega, rfl, rfl, rfl⟩
            case round =>
              obtain ⟨k, hk, rfl, rfl, rfl⟩ := hrel
              by_cases hk8 : k < 8
              · obtain ⟨b', o', rfl, hcc⟩ : ∃ b o, ab = some ⟨b, o, none⟩ ∧ ∀ i, i < m → wq.cell? ⟨b, o + i, none⟩ = some (.int .u8 (((bN.map UInt8.ofNat).getD i 0).toNat : Int)) := by
                  rcases hSq.out.2.2.2.2 with hc | hc
                  · omega
                  · exact hc
                have c0 := hcc (8 * j + k) (by omega)
                have hbit : ((bN.map UInt8.ofNat).getD (8 * j + k) 0).toNat = bN.getD (8 * j + k) 0 := map_getD bN hN.out _
                rw [hbit] at c0
                have hgk := hor_lt bN hN.out (8 * j) k
                have hgk2 : hor bN (8 * j) k < 128 := Nat.lt_of_lt_of_le hgk (Nat.pow_le_pow_right (n := 2) (by omega) (show k ≤ 7 by omega))
                have hb := getD_lt bN hN.out (8 * j + k)
                obtain ⟨x, hx⟩ : ∃ x, x = hor bN (8 * j) k := ⟨_, rfl⟩
                obtain ⟨y, hy⟩ : ∃ y, y = bN.getD (8 * j + k) 0 := ⟨_, rfl⟩
                have HG := Lib.hid (show hor bN (8 * j) (k + 1) = 2 * x + y by rw [hx, hy]; rfl)
                rw [← hx]
                rw [← hx] at hgk2
                rw [← hy] at hb c0
                clear hgk hx hy hbit hcc
                go_wp2_with fail
                go_roundw
                case rel => exact ⟨k + 1, by omega, by go_num, by rw [HG.out]; go_num, trivial⟩
                case measure => simp [intOf]; omega
              · obtain rfl : k = 8 := by omega
                have hg : hor bN (8 * j) 8 < 256 := hor_lt bN hN.out (8 * j) 8
                obtain ⟨x, hx⟩ : ∃ x, x = hor bN (8 * j) 8 := ⟨_, rfl⟩
                have HX := Lib.hid (show packTo bN (j + 1) = packTo bN j ++ [UInt8.ofNat x] by rw [hx, packTo_succ])
                rw [← hx]
                rw [← hx] at hg
                clear hx
                go_wp2_with (at_builtin; go_loud (refine wpList_append_sl rfl (.tmp 62) (.tmp 64) 22 rfl wa.heap.size 5 i0 Try.underlying22 hi hz0 hz1 hz2 _ j (packTo bN j) rfl (hownq.alloc _) _ 1 1 [UInt8.ofNat x] rfl (sl_cell_nat _ _ x hg (cell_new _ _ _ rfl)) (by omega) (by have := hWq.size; simp; omega) ?_); intro v1 w1 hown1 hg1)
                have hW1 := (hWq.alloc hWq.size _).grown hg1 (by have := hWq.size; simp; omega) (fun t ht => (hownq.lt t ht).1)
                rw [← HX.out] at hown1
                go_wp2_with fail
                go_roundw
                case rel => exact ⟨j + 1, by omega, by go_num, hown1, hW1⟩
                case measure => simp [intOf]; omega
          · have hlt' : (m : Int) < 8 * (j : Int) + 8 := by omega
            obtain rfl : j = m / 8 := by omega
            have HP := Lib.hid (packTo_all bN)
            rw [← HM.out] at HP
            obtain ⟨X, hX⟩ : ∃ X, X = packTo bN (m / 8) := ⟨_, rfl⟩
            rw [← hX] at hownq HP
            obtain ⟨jj, hjj⟩ : ∃ jj, jj = m / 8 := ⟨_, rfl⟩
            rw [← hjj] at hownq
            have hjl : X.length ≤ 1000000 := by
              have := hownq.1
              simp [Lib.byteCells] at this
              omega
            clear hX hjj
            obtain ⟨aq, cq, rfl, hSq⟩ := Sl.ofOwns hownq
            have hWW := hW.trans (hWq.mono hW.size)
            go_wp2_with fail
            refine (refB64_any _ _ _ _ _ hSq hjl).mono ?_
            rintro e wz ⟨rfl, hbz⟩
            have hWz := hWW.trans (hbz.mono hWW.size)
            by_cases hq : b64 X = s.toList
            · have HR2 := Lib.hid (show R = some X by rw [HR.out, unb64_both, HB.out, ← HP.out, if_pos (by rw [hq]; exact HSL.out)])
              go_wp2_with fail
              go_ret2
              exact ⟨aq, _, cq, by rw [HR2.out]; rfl, by rw [HR2.out]; exact hSq.after hbz, hWz⟩
            · have HR2 := Lib.hid (show R = none by rw [HR.out, unb64_both, HB.out, ← HP.out, if_neg (by intro hh; exact hq (hh.trans HSL.out.symm))])
              replace hq : (b64 X == s.toList) = false := by simpa using hq
              go_wp2_with fail
              go_ret2
              exact ⟨_, 0, 0, by rw [HR2.out]; rfl, by rw [HR2.out]; exact hempty _, hWz.alloc hWz.size _⟩
      | some n =>
        obtain rfl := HV.out n hsv
        have hn := HL8.out n hsv
        have HB' := Lib.hid (show bitsOf s.data.toList = (bN ++ [n / 32 % 2, n / 16 % 2, n / 8 % 2, n / 4 % 2, n / 2 % 2, n % 2]) ++ bitsOf (s.data.toList.drop (j + 1)) by rw [HB.out, HD.out, hsv]; simp)
        clear hsv HD HV HL8 HB
        go_wp2_with fail
        refine wp_loop_rounds 7 ?_
        rw [rounds_succ]
        go_wp2_with (at_builtin; go_loud (refine wpList_append_sl rfl (.tmp 33) (.tmp 39) 22 rfl w.heap.size 5 i0 Try.underlying22 hi hz0 hz1 hz2 _ (bN.length) (bN.map UInt8.ofNat) rfl (hown.alloc _) _ 1 1 [UInt8.ofNat (n / 32 % 2)] rfl (sl_cell_nat _ _ (n / 32 % 2) (by omega) (cell_new wa _ _ rfl)) (by omega) (by have := hW.size; simp; omega) ?_); intro v1 w1 hown1 hg1)
        have hW1 := (hW.alloc hW.size _).grown hg1 (by have := hW.size; simp; omega) (fun t ht => (hown.lt t ht).1)
        rw [rounds_succ]
        go_wp2_with (at_builtin; go_loud (refine wpList_append_sl rfl (.tmp 33) (.tmp 39) 22 rfl w.heap.size 5 i0 Try.underlying22 hi hz0 hz1 hz2 _ (bN.length + 1) (bN.map UInt8.ofNat ++ [UInt8.ofNat (n / 32 % 2)]) rfl (hown1.alloc _) _ 1 1 [UInt8.ofNat (n / 16 % 2)] rfl (sl_cell_nat _ _ (n / 16 % 2) (by omega) (cell_new w1 _ _ rfl)) (by omega) (by have := hW1.size; simp; omega) ?_); intro v2 w2 hown2 hg2)
        have hW2 := (hW1.alloc hW1.size _).grown hg2 (by have := hW1.size; simp; omega) (fun t ht => (hown1.lt t ht).1)
        rw [rounds_succ]
        go_wp2_with (at_builtin; go_loud (refine wpList_append_sl rfl (.tmp 33) (.tmp 39) 22 rfl w.heap.size 5 i0 Try.underlying22 hi hz0 hz1 hz2 _ (bN.length + 1 + 1) (bN.map UInt8.ofNat ++ [UInt8.ofNat (n / 32 % 2)] ++ [UInt8.ofNat (n / 16 % 2)]) rfl (hown2.alloc _) _ 1 1 [UInt8.ofNat (n / 8 % 2)] rfl (sl_cell_nat _ _ (n / 8 % 2) (by omega) (cell_new w2 _ _ rfl)) (by omega) (by have := hW2.size; simp; omega) ?_); intro v3 w3 hown3 hg3)
        have hW3 := (hW2.alloc hW2.size _).grown hg3 (by have := hW2.size; simp; omega) (fun t ht => (hown2.lt t ht).1)
        rw [rounds_succ]
        go_wp2_with (at_builtin; go_loud (refine wpList_append_sl rfl (.tmp 33) (.tmp 39) 22 rfl w.heap.size 5 i0 Try.underlying22 hi hz0 hz1 hz2 _ (bN.length + 1 + 1 + 1) (bN.map UInt8.ofNat ++ [UInt8.ofNat (n / 32 % 2)] ++ [UInt8.ofNat (n / 16 % 2)] ++ [UInt8.ofNat (n / 8 % 2)]) rfl (hown3.alloc _) _ 1 1 [UInt8.ofNat (n / 4 % 2)] rfl (sl_cell_nat _ _ (n / 4 % 2) (by omega) (cell_new w3 _ _ rfl)) (by omega) (by have := hW3.size; simp; omega) ?_); intro v4 w4 hown4 hg4)
        have hW4 := (hW3.alloc hW3.size _).grown hg4 (by have := hW3.size; simp; omega) (fun t ht => (hown3.lt t ht).1)
        rw [rounds_succ]
        go_wp2_with (at_builtin; go_loud (refine wpList_append_sl rfl (.tmp 33) (.tmp 39) 22 rfl w.heap.size 5 i0 Try.underlying22 hi hz0 hz1 hz2 _ (bN.length + 1 + 1 + 1 + 1) (bN.map UInt8.ofNat ++ [UInt8.ofNat (n / 32 % 2)] ++ [UInt8.ofNat (n / 16 % 2)] ++ [UInt8.ofNat (n / 8 % 2)] ++ [UInt8.ofNat (n / 4 % 2)]) rfl (hown4.alloc _) _ 1 1 [UInt8.ofNat (n / 2 % 2)] rfl (sl_cell_nat _ _ (n / 2 % 2) (by omega) (cell_new w4 _ _ rfl)) (by omega) (by have := hW4.size; simp; omega) ?_); intro v5 w5 hown5 hg5)
        have hW5 := (hW4.alloc hW4.size _).grown hg5 (by have := hW4.size; simp; omega) (fun t ht => (hown4.lt t ht).1)
        rw [rounds_succ]
        go_wp2_with (at_builtin; go_loud (refine wpList_append_sl rfl (.tmp 33) (.tmp 39) 22 rfl w.heap.size 5 i0 Try.underlying22 hi hz0 hz1 hz2 _ (bN.length + 1 + 1 + 1 + 1 + 1) (bN.map UInt8.ofNat ++ [UInt8.ofNat (n / 32 % 2)] ++ [UInt8.ofNat (n / 16 % 2)] ++ [UInt8.ofNat (n / 8 % 2)] ++ [UInt8.ofNat (n / 4 % 2)] ++ [UInt8.ofNat (n / 2 % 2)]) rfl (hown5.alloc _) _ 1 1 [UInt8.ofNat (n % 2)] rfl (sl_cell_nat _ _ (n % 2) (by omega) (cell_new w5 _ _ rfl)) (by omega) (by have := hW5.size; simp; omega) ?_); intro v6 w6 hown6 hg6)
        have hW6 := (hW5.alloc hW5.size _).grown hg6 (by have := hW5.size; simp; omega) (fun t ht => (hown5.lt t ht).1)
        rw [rounds_succ]
        go_wp2_with fail
        go_roundw
        case rel => exact ⟨j + 1, bN ++ [n / 32 % 2, n / 16 % 2, n / 8 % 2, n / 4 % 2, n / 2 % 2, n % 2], by omega, by go_num, by simpa using hown6, Lib.hid (by have := hN.out; intro x hx; simp at hx; rcases hx with hx | hx | hx | hx | hx | hx | hx <;> first | exact this x hx | omega), HB', by simp; omega, hW6⟩
        case measure => simp [intOf]; omega
    · obtain rfl : j = s.size := by omega
      replace HB := Lib.hid (show bitsOf s.data.toList = bN by rw [HB.out, List.drop_of_length_le (by simp)]; simp [bitsOf])
      go_wp2_with fail
      obtain ⟨m, hm⟩ : ∃ m, m = bN.length := ⟨_, rfl⟩
      have HM := Lib.hid hm
      rw [← hm] at hnl hown
      clear hm
      obtain ⟨ab, cb, rfl, hSb⟩ := Sl.ofOwns hown
      have hown2 : (wa.alloc (.cells #[] 5)).ownsRow wa.heap.size 5 1 (.slice (some ⟨wa.heap.size, 0, none⟩) 0 0) 0 (Lib.byteCells []) := World.ownsRow_lit wa #[] 0 (Nat.le_refl _) (Nat.zero_le _) rfl
      have hW2 : Below wa.heap.size wa (wa.alloc (.cells #[] 5)) := (Below.refl _ _).alloc (Nat.le_refl _) _
      clear hown
      go_loopw [9, 10] (fun out i wq => ∃ j : Nat, 8 * j ≤ m ∧ i = .int .i64 (8 * (j : Int)) ∧ wq.ownsRow wa.heap.size 5 1 out j (Lib.byteCells (packTo bN j)) ∧ Below wa.heap.size wa wq) (fun _ i _ => m + 8 - (intOf i).toNat)
      case atStart => exact ⟨0, by omega, rfl, hown2, hW2⟩
      case round =>
        obtain ⟨wq, rfl⟩ : ∃ wq : World, wq = wr := ⟨_, rfl⟩
        obtain ⟨j, hj, rfl, hownq, hWq⟩ := hrel
        clear hown2 hW2
        by_cases hlt : 8 * j + 8 ≤ m
        · have hlt' : 8 * (j : Int) + 8 ≤ (m : Int) := by omega
          have hSq := Lib.hid (hSb.after hWq)
          go_wp2_with fail
          go_loopw [11, 12] (fun s t wz => ∃ k : Nat, k ≤ 8 ∧ t = .int .i64 k ∧ s = .int .u8 (hor bN (8 * j) k : Nat) ∧ wq = wz) (fun _ t _ => 8 - (intOf t).toNat)
          case atStart => exact ⟨0, by omega, rfl, rfl, rfl⟩
          case round =>
            obtain ⟨k, hk, rfl, rfl, rfl⟩ := hrel
            by_cases hk8 : k < 8
            · obtain ⟨b', o', rfl, hcc⟩ : ∃ b o, ab = some ⟨b, o, none⟩ ∧ ∀ i, i < m → wq.cell? ⟨b, o + i, none⟩ = some (.int .u8 (((bN.map UInt8.ofNat).getD i 0).toNat : Int)) := by
                rcases hSq.out.2.2.2.2 with hc | hc
                · omega
                · exact hc
              have c0 := hcc (8 * j + k) (by omega)
              have hbit : ((bN.map UInt8.ofNat).getD (8 * j + k) 0).toNat = bN.getD (8 * j + k) 0 := map_getD bN hN.out _
              rw [hbit] at c0
              have hgk := hor_lt bN hN.out (8 * j) k
              have hgk2 : hor bN (8 * j) k < 128 := Nat.lt_of_lt_of_le hgk (Nat.pow_le_pow_right (n := 2) (by omega) (show k ≤ 7 by omega))
              have hb := getD_lt bN hN.out (8 * j + k)
              obtain ⟨x, hx⟩ : ∃ x, x = hor bN (8 * j) k := ⟨_, rfl⟩
              obtain ⟨y, hy⟩ : ∃ y, y = bN.getD (8 * j + k) 0 := ⟨_, rfl⟩
              have HG := Lib.hid (show hor bN (8 * j) (k + 1) = 2 * x + y by rw [hx, hy]; rfl)
              rw [← hx]
              rw [← hx] at hgk2
              rw [← hy] at hb c0
              clear hgk hx hy hbit hcc
              go_wp2_with fail
              go_roundw
              case rel => exact ⟨k + 1, by omega, by go_num, by rw [HG.out]; go_num, trivial⟩
              case measure => simp [intOf]; omega
            · obtain rfl : k = 8 := by omega
              have hg : hor bN (8 * j) 8 < 256 := hor_lt bN hN.out (8 * j) 8
              obtain ⟨x, hx⟩ : ∃ x, x = hor bN (8 * j) 8 := ⟨_, rfl⟩
              have HX := Lib.hid (show packTo bN (j + 1) = packTo bN j ++ [UInt8.ofNat x] by rw [hx, packTo_succ])
              rw [← hx]
              rw [← hx] at hg
              clear hx
              go_wp2_with (at_builtin; go_loud (refine wpList_append_sl rfl (.tmp 62) (.tmp 64) 22 rfl wa.heap.size 5 i0 Try.underlying22 hi hz0 hz1 hz2 _ j (packTo bN j) rfl (hownq.alloc _) _ 1 1 [UInt8.ofNat x] rfl (sl_cell_nat _ _ x hg (cell_new _ _ _ rfl)) (by omega) (by have := hWq.size; simp; omega) ?_); intro v1 w1 hown1 hg1)
              have hW1 := (hWq.alloc hWq.size _).grown hg1 (by have := hWq.size; simp; omega) (fun t ht => (hownq.lt t ht).1)
              rw [← HX.out] at hown1
              go_wp2_with fail
              go_roundw
              case rel => exact ⟨j + 1, by omega, by go_num, hown1, hW1⟩
              case measure => simp [intOf]; omega
        · have hlt' : (m : Int) < 8 * (j : Int) + 8 := by omega
          obtain rfl : j = m / 8 := by omega
          have HP := Lib.hid (packTo_all bN)
          rw [← HM.out] at HP
          obtain ⟨X, hX⟩ : ∃ X, X = packTo bN (m / 8) := ⟨_, rfl⟩
          rw [← hX] at hownq HP
          obtain ⟨jj, hjj⟩ : ∃ jj, jj = m / 8 := ⟨_, rfl⟩
          rw [← hjj] at hownq
          have hjl : X.length ≤ 1000000 := by
            have := hownq.1
            simp [Lib.byteCells] at this
            omega
          clear hX hjj
          obtain ⟨aq, cq, rfl, hSq⟩ := Sl.ofOwns hownq
          have hWW := hW.trans (hWq.mono hW.size)
          go_wp2_with fail
          refine (refB64_any _ _ _ _ _ hSq hjl).mono ?_
          rintro e wz ⟨rfl, hbz⟩
          have hWz := hWW.trans (hbz.mono hWW.size)
          by_cases hq : b64 X = s.toList
          · have HR2 := Lib.hid (show R = some X by rw [HR.out, unb64_both, HB.out, ← HP.out, if_pos (by rw [hq]; exact HSL.out)])
            go_wp2_with fail
            go_ret2
            exact ⟨aq, _, cq, by rw [HR2.out]; rfl, by rw [HR2.out]; exact hSq.after hbz, hWz⟩
          · have HR2 := Lib.hid (show R = none by rw [HR.out, unb64_both, HB.out, ← HP.out, if_neg (by intro hh; exact hq (hh.trans HSL.out.symm))])
            replace hq : (b64 X == s.toList) = false := by simpa using hq
            go_wp2_with fail
            go_ret2
            exact ⟨_, 0, 0, by rw [HR2.out]; rfl, by rw [HR2.out]; exact hempty _, hWz.alloc hWz.size _⟩
end Go.Proofs.Ytpdkbbenoipohaa

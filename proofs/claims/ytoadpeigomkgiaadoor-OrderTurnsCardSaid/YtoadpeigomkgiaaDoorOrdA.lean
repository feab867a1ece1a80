/- The document's three, bare, Compare, Is: what they compute. -/
import Derived.Test.YtoadpeigomkgiaaDoorOrd7
import Derived.Test.YtoadpeigomkgiaaDoorONumRef2
import Derived.Test.YtoadpeigomkgiaaDoorODateRef3
namespace Go.Proofs.YtoadpeigomkgiaaDoor
open Go.RowKit

theorem three_neg (y : Bool) (w : World) : Calls Tryd.prog 25 #[.bool true, .bool y] w fun e w' => e = .returned (.int .i64 (-1)) ∧ w = w' := by
  go_enter Tryd.func25, Tryd.ntmps25
  go_wp2_with fail
  go_ret
  exact ⟨rfl, rfl⟩
theorem three_pos (w : World) : Calls Tryd.prog 25 #[.bool false, .bool true] w fun e w' => e = .returned (.int .i64 1) ∧ w = w' := by
  go_enter Tryd.func25, Tryd.ntmps25
  go_wp2_with fail
  go_ret
  exact ⟨rfl, rfl⟩
theorem three_nul (w : World) : Calls Tryd.prog 25 #[.bool false, .bool false] w fun e w' => e = .returned (.int .i64 0) ∧ w = w' := by
  go_enter Tryd.func25, Tryd.ntmps25
  go_wp2_with fail
  go_ret
  exact ⟨rfl, rfl⟩

theorem strip_drop (l : List UInt8) (k : Nat) (h : k < l.length) : strip (l.drop k) = if l.getD k 0 = 0 then strip (l.drop (k + 1)) else l.drop k := by
  rw [List.drop_eq_getElem_cons h]
  have e : l.getD k 0 = l[k] := by simp [List.getD_eq_getElem?_getD, h]
  rw [e, strip]

set_option maxHeartbeats 2000000 in
set_option maxRecDepth 100000 in
theorem bare_any (a : Option Addr) (n c : Nat) (l : List UInt8) (w : World) (hs : Sl w a n c l) (hn : n ≤ 200) :
    Calls Tryd.prog 29 #[.slice a n c] w fun e w' => e = .returned (.string ⟨(strip l).toArray⟩) ∧ w = w' := by
  obtain ⟨R, hR⟩ : ∃ R, R = strip l := ⟨_, rfl⟩
  have HR := Lib.hid hR
  have HL := Lib.hid hs.1
  have HS := Lib.hid hs
  have hcap := hs.2.1
  rw [← hR]
  clear hR hs
  go_enter Tryd.func29, Tryd.ntmps29
  go_wp2_with fail
  go_loop [3] (fun i => ∃ k : Nat, i = .int .i64 k ∧ k ≤ n ∧ Hid (R = strip (l.drop k))) (fun i => n - (intOf i).toNat)
  case atStart => exact ⟨0, rfl, Nat.zero_le _, HR⟩
  case round =>
    obtain ⟨k, rfl, hk, HD⟩ := hrel
    by_cases hlt : k < n
    · obtain ⟨b, o, rfl, hcc, _⟩ := HS.out.some (by omega)
      have c0 := hcc k hlt
      have hkl : k < l.length := by have := HL.out; omega
      have HT := Lib.hid (strip_drop l k hkl)
      obtain ⟨x, hx⟩ : ∃ x, x = l.getD k 0 := ⟨_, rfl⟩
      rw [← hx] at c0 HT
      clear hcc hx hkl
      by_cases h0 : x = 0
      · subst h0
        have HE := Lib.hid (show R = strip (l.drop (k + 1)) by rw [HD.out, HT.out]; rfl)
        go_wp2_with fail
        go_round
        case rel => exact ⟨k + 1, by go_num, by omega, HE⟩
        case measure => simp [intOf]; omega
      · have HE := Lib.hid (show R = l.drop k by rw [HD.out, HT.out, if_neg h0])
        have q : ((x.toNat : Int) == 0) = false := by
          rw [beq_eq_false_iff_ne]; intro h; exact h0 (UInt8.toNat_inj.1 (by simpa using h))
        have q1 := conv_sl (HS.out.drop k hk)
        have hck : ¬ c = k := by omega
        rw [if_neg hck] at q1
        clear h0
        go_wp2_with fail
        go_ret
        exact ⟨by rw [HE.out]; rfl, rfl⟩
    · obtain rfl : k = n := by omega
      have HE := Lib.hid (show R = [] by rw [HD.out, List.drop_of_length_le (by have := HL.out; omega)]; rfl)
      have HK := Lib.hid (List.drop_of_length_le (l := l) (i := k) (by have := HL.out; omega))
      cases a with
      | none =>
        have hc0 := HS.out.2.2.2.1 rfl
        have hk0 : k = 0 := by omega
        subst hk0 hc0
        have q1 : (convert 22 9 (.slice none 0 0)).run Tryd.prog w = .ok (.string ⟨#[]⟩) w :=
          conv_sl (l := []) ⟨rfl, Nat.le_refl _, Nat.zero_le _, fun _ => rfl, .inl rfl⟩
        go_wp2_with fail
        go_ret
        exact ⟨by rw [HE.out]; rfl, rfl⟩
      | some ad =>
        have q1 : ∀ ad' cc, cc ≤ maxLen → (convert 22 9 (.slice (some ad') 0 cc)).run Tryd.prog w = .ok (.string ⟨#[]⟩) w := fun ad' cc hc' =>
          conv_sl (l := []) ⟨rfl, Nat.zero_le _, hc', (fun h => by cases h), .inl rfl⟩
        have hm := HS.out.2.2.1
        have q2 : c - k ≤ maxLen := by omega
        have q3 := fun ad' => q1 ad' (c - k) q2
        by_cases hck : c = k
        · subst hck
          have q4 := fun ad' => q1 ad' 0 (Nat.zero_le _)
          go_wp2_with fail
          go_ret
          exact ⟨by rw [HE.out]; rfl, rfl⟩
        · go_wp2_with fail
          go_ret
          exact ⟨by rw [HE.out]; rfl, rfl⟩

theorem gtr_bytes (l k : List UInt8) : (!(Op.bytesLess l k || l == k)) = Op.bytesLess k l := by
  cases h : Op.bytesLess l k
  · cases h' : Op.bytesLess k l
    · have := bl_total l k h h'
      subst this; simp
    · have : l ≠ k := by rintro rfl; rw [h] at h'; cases h'
      simp [this]
  · rw [bl_asymm _ _ h]; rfl
theorem bcmp_cases (l k : List UInt8) : (Op.bytesLess l k = true ∧ l ≠ k ∧ bcmp l k = -1) ∨ (Op.bytesLess l k = false ∧ l ≠ k ∧ bcmp l k = 1) ∨ (l = k ∧ bcmp l k = 0) := by
  unfold bcmp
  cases h : Op.bytesLess l k
  · cases h' : Op.bytesLess k l
    · exact .inr (.inr ⟨bl_total _ _ h h', by simp⟩)
    · exact .inr (.inl ⟨rfl, (by rintro rfl; rw [h] at h'; cases h'), by simp⟩)
  · exact .inl ⟨rfl, (by rintro rfl; rw [bl_irrefl] at h; cases h), by simp⟩
theorem cmpZ_cases (x y : Int) : (x < y ∧ cmpZ x y = -1) ∨ (y < x ∧ cmpZ x y = 1) ∨ (x = y ∧ cmpZ x y = 0) := by
  unfold cmpZ
  rcases Int.lt_trichotomy x y with h | h | h
  · exact .inl ⟨h, by simp [h]⟩
  · exact .inr (.inr ⟨h, by simp [h]⟩)
  · exact .inr (.inl ⟨h, by rw [if_neg (by omega), if_pos h]⟩)

set_option maxHeartbeats 8000000 in
set_option maxRecDepth 100000 in
theorem rc1_any (a : Option Addr) (n c : Nat) (l : List UInt8) (b : Option Addr) (m d : Nat) (k : List UInt8) (w : World) (h1 : Sl w a n c l) (h2 : Sl w b m d k) :
    Calls Tryd.prog 10 #[.int .u8 1, .slice a n c, .slice b m d] w (CmpP 1 l k w) := by
  obtain ⟨q1, q2⟩ := okV_yes 1 l k (0, l) (0, k) rfl rfl
  rw [cmpK_txt] at q2
  unfold CmpP
  rw [q1, q2]
  have v1 := conv_sl h1
  have v2 := conv_sl h2
  clear q1 q2
  rcases bcmp_cases l k with ⟨x1, x2, x3⟩ | ⟨x1, x2, x3⟩ | ⟨rfl, x3⟩
  · rw [x3]
    clear x3
    go_enter Tryd.func10, Tryd.ntmps10
    go_wp2_with fail
    refine (three_neg _ _).mono ?_
    rintro e w1 ⟨rfl, rfl⟩
    go_wp2_with fail
    go_ret2
    exact ⟨rfl, Below.refl _ _⟩
  · rw [x3]
    have x4 : (l == k) = false := by simpa using x2
    clear x3 x2
    go_enter Tryd.func10, Tryd.ntmps10
    go_wp2_with fail
    refine (three_pos _).mono ?_
    rintro e w1 ⟨rfl, rfl⟩
    go_wp2_with fail
    go_ret2
    exact ⟨rfl, Below.refl _ _⟩
  · rw [x3]
    have x1 := bl_irrefl l
    clear x3
    go_enter Tryd.func10, Tryd.ntmps10
    go_wp2_with fail
    refine (three_nul _).mono ?_
    rintro e w1 ⟨rfl, rfl⟩
    go_wp2_with fail
    go_ret2
    exact ⟨rfl, Below.refl _ _⟩

theorem cmp_agree2 (x y x' y' : Nat) (h : Agree x x') (h' : Agree y y') : cmpV x y = cmpV x' y' ∧ cmpOk x y = cmpOk x' y' := by
  unfold cmpV cmpOk
  rcases h with ⟨a, b⟩ | ⟨_, rfl⟩ <;> rcases h' with ⟨c, d⟩ | ⟨_, rfl⟩ <;> simp_all
theorem ord2_cmp (l k : List UInt8) (x y : Nat) (hl : getO l = some x) (hk : getO k = some y) : cV 2 l k = cmpV x y ∧ okV 2 l k = cmpOk x y := by
  unfold cmpV cmpOk
  cases hx : isNan x
  · cases hy : isNan y
    · obtain ⟨q1, q2⟩ := okV_yes 2 l k _ _ (ordV2_yes l x hl hx) (ordV2_yes k y hk hy)
      rw [q1, q2, cmpK_num, ← cmpI_cmpZ]; exact ⟨rfl, rfl⟩
    · obtain ⟨q1, q2⟩ := okV_no2 2 l k (ordV2_nan k y hk hy)
      rw [q1, q2]; exact ⟨rfl, rfl⟩
  · obtain ⟨q1, q2⟩ := okV_no1 2 l k (ordV2_nan l x hl hx)
    rw [q1, q2]; exact ⟨rfl, rfl⟩

set_option maxHeartbeats 8000000 in
set_option maxRecDepth 100000 in
theorem rc2_any (a : Option Addr) (n c : Nat) (l : List UInt8) (b : Option Addr) (m d : Nat) (k : List UInt8) (w : World) (h1 : Sl w a n c l) (h2 : Sl w b m d k) (hn : n ≤ 200) (hm : m ≤ 200) :
    Calls Tryd.prog 10 #[.int .u8 2, .slice a n c, .slice b m d] w (CmpP 2 l k w) := by
  unfold CmpP
  cases hl : getO l with
  | none =>
    obtain ⟨q1, q2⟩ := okV_no1 2 l k (ordV2_no l hl)
    rw [q1, q2]
    have HL := Lib.hid hl
    clear q1 q2 hl
    go_enter Tryd.func10, Tryd.ntmps10
    go_wp2_with fail
    refine (refGet_any _ _ _ _ _ h1 (by omega)).mono ?_
    rintro e w1 ⟨x, rfl, ha, hb1⟩
    rw [HL.out]
    go_wp2_with fail
    refine (refGet_any _ _ _ _ _ (h2.after hb1) (by omega)).mono ?_
    rintro e w2 ⟨y, rfl, hc, hb2⟩
    clear ha hc
    have hW2 := hb1.trans (hb2.mono hb1.size)
    go_wp2_with fail
    go_ret2
    exact ⟨rfl, hW2⟩
  | some X => cases hk : getO k with
    | none =>
      obtain ⟨q1, q2⟩ := okV_no2 2 l k (ordV2_no k hk)
      rw [q1, q2]
      have HL := Lib.hid hl
      have HK := Lib.hid hk
      clear q1 q2 hl hk
      go_enter Tryd.func10, Tryd.ntmps10
      go_wp2_with fail
      refine (refGet_any _ _ _ _ _ h1 (by omega)).mono ?_
      rintro e w1 ⟨x, rfl, ha, hb1⟩
      rw [HL.out]
      go_wp2_with fail
      refine (refGet_any _ _ _ _ _ (h2.after hb1) (by omega)).mono ?_
      rintro e w2 ⟨y, rfl, hc, hb2⟩
      rw [HK.out]
      clear ha hc
      have hW2 := hb1.trans (hb2.mono hb1.size)
      go_wp2_with fail
      go_ret2
      exact ⟨rfl, hW2⟩
    | some Y =>
      obtain ⟨q1, q2⟩ := ord2_cmp l k X Y hl hk
      rw [q1, q2]
      have HL := Lib.hid hl
      have HK := Lib.hid hk
      clear q1 q2 hl hk
      obtain ⟨C, hC⟩ : ∃ C, C = cmpV X Y := ⟨_, rfl⟩
      obtain ⟨O, hO⟩ : ∃ O, O = cmpOk X Y := ⟨_, rfl⟩
      rw [← hC, ← hO]
      have HC := Lib.hid hC
      have HO := Lib.hid hO
      clear hC hO
      go_enter Tryd.func10, Tryd.ntmps10
      go_wp2_with fail
      refine (refGet_any _ _ _ _ _ h1 (by omega)).mono ?_
      rintro e w1 ⟨x, rfl, ha, hb1⟩
      rw [HL.out] at ha ⊢
      go_wp2_with fail
      refine (refGet_any _ _ _ _ _ (h2.after hb1) (by omega)).mono ?_
      rintro e w2 ⟨y, rfl, hc, hb2⟩
      rw [HK.out] at hc ⊢
      obtain ⟨p1, p2⟩ := cmp_agree2 _ _ _ _ ha hc
      simp only [Option.getD_some] at p1 p2
      rw [← HC.out] at p1
      rw [← HO.out] at p2
      clear ha hc
      have hW2 := hb1.trans (hb2.mono hb1.size)
      go_wp2_with fail
      refine (refCmp_any _ _ _).mono ?_
      rintro e w3 ⟨rfl, rfl⟩
      rw [p1, p2]
      go_wp2_with fail
      go_ret2
      exact ⟨rfl, hW2⟩

set_option maxHeartbeats 8000000 in
set_option maxRecDepth 100000 in
theorem rc3_any (a : Option Addr) (n c : Nat) (l : List UInt8) (b : Option Addr) (m d : Nat) (k : List UInt8) (w : World) (h1 : Sl w a n c l) (h2 : Sl w b m d k) :
    Calls Tryd.prog 10 #[.int .u8 3, .slice a n c, .slice b m d] w (CmpP 3 l k w) := by
  have hl1 := h1.len_le
  have hl2 := h2.len_le
  unfold CmpP
  obtain ⟨X, hX⟩ : ∃ X, X = clockV l := ⟨_, rfl⟩
  obtain ⟨Y, hY⟩ : ∃ Y, Y = clockV k := ⟨_, rfl⟩
  have HX := Lib.hid hX
  have HY := Lib.hid hY
  cases hl : clockOk l with
  | false =>
    obtain ⟨q1, q2⟩ := okV_no1 3 l k (ordV3_no l hl)
    rw [q1, q2]
    have HL := Lib.hid hl
    clear q1 q2 hl hX hY
    go_enter Tryd.func10, Tryd.ntmps10
    go_wp2_with fail
    refine (refClock_any _ _ _ _ _ h1 hl1).mono ?_
    rintro e w1 ⟨rfl, hb1⟩
    rw [HL.out, ← HX.out]
    go_wp2_with fail
    refine (refClock_any _ _ _ _ _ (h2.after hb1) hl2).mono ?_
    rintro e w2 ⟨rfl, hb2⟩
    rw [← HY.out]
    have hW2 := hb1.trans (hb2.mono hb1.size)
    go_wp2_with fail
    go_ret2
    exact ⟨rfl, hW2⟩
  | true => cases hk : clockOk k with
    | false =>
      obtain ⟨q1, q2⟩ := okV_no2 3 l k (ordV3_no k hk)
      rw [q1, q2]
      have HL := Lib.hid hl
      have HK := Lib.hid hk
      clear q1 q2 hl hk hX hY
      go_enter Tryd.func10, Tryd.ntmps10
      go_wp2_with fail
      refine (refClock_any _ _ _ _ _ h1 hl1).mono ?_
      rintro e w1 ⟨rfl, hb1⟩
      rw [HL.out, ← HX.out]
      go_wp2_with fail
      refine (refClock_any _ _ _ _ _ (h2.after hb1) hl2).mono ?_
      rintro e w2 ⟨rfl, hb2⟩
      rw [HK.out, ← HY.out]
      have hW2 := hb1.trans (hb2.mono hb1.size)
      go_wp2_with fail
      go_ret2
      exact ⟨rfl, hW2⟩
    | true =>
      obtain ⟨q1, q2⟩ := okV_yes 3 l k _ _ (ordV3_yes l hl) (ordV3_yes k hk)
      rw [q1, q2, cmpK_num, ← hX, ← hY]
      have HL := Lib.hid hl
      have HK := Lib.hid hk
      clear q1 q2 hl hk hX hY
      rcases cmpZ_cases X Y with ⟨c1, c2⟩ | ⟨c1, c2⟩ | ⟨rfl, c2⟩
      · rw [c2]
        clear c2
        go_enter Tryd.func10, Tryd.ntmps10
        go_wp2_with fail
        refine (refClock_any _ _ _ _ _ h1 hl1).mono ?_
        rintro e w1 ⟨rfl, hb1⟩
        rw [HL.out, ← HX.out]
        go_wp2_with fail
        refine (refClock_any _ _ _ _ _ (h2.after hb1) hl2).mono ?_
        rintro e w2 ⟨rfl, hb2⟩
        rw [HK.out, ← HY.out]
        have hW2 := hb1.trans (hb2.mono hb1.size)
        go_wp2_with fail
        refine (three_neg _ _).mono ?_
        rintro e w3 ⟨rfl, rfl⟩
        go_wp2_with fail
        go_ret2
        exact ⟨rfl, hW2⟩
      · rw [c2]
        clear c2
        have c3 : Y ≤ X := by omega
        go_enter Tryd.func10, Tryd.ntmps10
        go_wp2_with fail
        refine (refClock_any _ _ _ _ _ h1 hl1).mono ?_
        rintro e w1 ⟨rfl, hb1⟩
        rw [HL.out, ← HX.out]
        go_wp2_with fail
        refine (refClock_any _ _ _ _ _ (h2.after hb1) hl2).mono ?_
        rintro e w2 ⟨rfl, hb2⟩
        rw [HK.out, ← HY.out]
        have hW2 := hb1.trans (hb2.mono hb1.size)
        go_wp2_with fail
        rw [decide_eq_false (show ¬ X < Y by omega)]
        refine (three_pos _).mono ?_
        rintro e w3 ⟨rfl, rfl⟩
        go_wp2_with fail
        go_ret2
        exact ⟨rfl, hW2⟩
      · rw [c2]
        clear c2
        go_enter Tryd.func10, Tryd.ntmps10
        go_wp2_with fail
        refine (refClock_any _ _ _ _ _ h1 hl1).mono ?_
        rintro e w1 ⟨rfl, hb1⟩
        rw [HL.out, ← HX.out]
        go_wp2_with fail
        refine (refClock_any _ _ _ _ _ (h2.after hb1) hl2).mono ?_
        rintro e w2 ⟨rfl, hb2⟩
        rw [HK.out, ← HY.out]
        have hW2 := hb1.trans (hb2.mono hb1.size)
        go_wp2_with fail
        refine (three_nul _).mono ?_
        rintro e w3 ⟨rfl, rfl⟩
        go_wp2_with fail
        go_ret2
        exact ⟨rfl, hW2⟩

set_option maxHeartbeats 8000000 in
set_option maxRecDepth 100000 in
theorem rc5_any (a : Option Addr) (n c : Nat) (l : List UInt8) (b : Option Addr) (m d : Nat) (k : List UInt8) (w : World) (h1 : Sl w a n c l) (h2 : Sl w b m d k) :
    Calls Tryd.prog 10 #[.int .u8 5, .slice a n c, .slice b m d] w (CmpP 5 l k w) := by
  have hl1 := h1.len_le
  have hl2 := h2.len_le
  unfold CmpP
  obtain ⟨X, hX⟩ : ∃ X, X = dateV l := ⟨_, rfl⟩
  obtain ⟨Y, hY⟩ : ∃ Y, Y = dateV k := ⟨_, rfl⟩
  have HX := Lib.hid hX
  have HY := Lib.hid hY
  cases hl : dateOk l with
  | false =>
    obtain ⟨q1, q2⟩ := okV_no1 5 l k (ordV5_no l hl)
    rw [q1, q2]
    have HL := Lib.hid hl
    clear q1 q2 hl hX hY
    go_enter Tryd.func10, Tryd.ntmps10
    go_wp2_with fail
    refine (refGet_anyD _ _ _ _ _ h1 hl1).mono ?_
    rintro e w1 ⟨rfl, hb1⟩
    rw [HL.out, ← HX.out]
    go_wp2_with fail
    refine (refGet_anyD _ _ _ _ _ (h2.after hb1) hl2).mono ?_
    rintro e w2 ⟨rfl, hb2⟩
    rw [← HY.out]
    have hW2 := hb1.trans (hb2.mono hb1.size)
    go_wp2_with fail
    go_ret2
    exact ⟨rfl, hW2⟩
  | true => cases hk : dateOk k with
    | false =>
      obtain ⟨q1, q2⟩ := okV_no2 5 l k (ordV5_no k hk)
      rw [q1, q2]
      have HL := Lib.hid hl
      have HK := Lib.hid hk
      clear q1 q2 hl hk hX hY
      go_enter Tryd.func10, Tryd.ntmps10
      go_wp2_with fail
      refine (refGet_anyD _ _ _ _ _ h1 hl1).mono ?_
      rintro e w1 ⟨rfl, hb1⟩
      rw [HL.out, ← HX.out]
      go_wp2_with fail
      refine (refGet_anyD _ _ _ _ _ (h2.after hb1) hl2).mono ?_
      rintro e w2 ⟨rfl, hb2⟩
      rw [HK.out, ← HY.out]
      have hW2 := hb1.trans (hb2.mono hb1.size)
      go_wp2_with fail
      go_ret2
      exact ⟨rfl, hW2⟩
    | true =>
      obtain ⟨q1, q2⟩ := okV_yes 5 l k _ _ (ordV5_yes l hl) (ordV5_yes k hk)
      rw [q1, q2, cmpK_num, ← hX, ← hY]
      have HL := Lib.hid hl
      have HK := Lib.hid hk
      clear q1 q2 hl hk hX hY
      rcases cmpZ_cases X Y with ⟨c1, c2⟩ | ⟨c1, c2⟩ | ⟨rfl, c2⟩
      · rw [c2]
        clear c2
        go_enter Tryd.func10, Tryd.ntmps10
        go_wp2_with fail
        refine (refGet_anyD _ _ _ _ _ h1 hl1).mono ?_
        rintro e w1 ⟨rfl, hb1⟩
        rw [HL.out, ← HX.out]
        go_wp2_with fail
        refine (refGet_anyD _ _ _ _ _ (h2.after hb1) hl2).mono ?_
        rintro e w2 ⟨rfl, hb2⟩
        rw [HK.out, ← HY.out]
        have hW2 := hb1.trans (hb2.mono hb1.size)
        go_wp2_with fail
        refine (three_neg _ _).mono ?_
        rintro e w3 ⟨rfl, rfl⟩
        go_wp2_with fail
        go_ret2
        exact ⟨rfl, hW2⟩
      · rw [c2]
        clear c2
        have c3 : Y ≤ X := by omega
        go_enter Tryd.func10, Tryd.ntmps10
        go_wp2_with fail
        refine (refGet_anyD _ _ _ _ _ h1 hl1).mono ?_
        rintro e w1 ⟨rfl, hb1⟩
        rw [HL.out, ← HX.out]
        go_wp2_with fail
        refine (refGet_anyD _ _ _ _ _ (h2.after hb1) hl2).mono ?_
        rintro e w2 ⟨rfl, hb2⟩
        rw [HK.out, ← HY.out]
        have hW2 := hb1.trans (hb2.mono hb1.size)
        go_wp2_with fail
        rw [decide_eq_false (show ¬ X < Y by omega)]
        refine (three_pos _).mono ?_
        rintro e w3 ⟨rfl, rfl⟩
        go_wp2_with fail
        go_ret2
        exact ⟨rfl, hW2⟩
      · rw [c2]
        clear c2
        go_enter Tryd.func10, Tryd.ntmps10
        go_wp2_with fail
        refine (refGet_anyD _ _ _ _ _ h1 hl1).mono ?_
        rintro e w1 ⟨rfl, hb1⟩
        rw [HL.out, ← HX.out]
        go_wp2_with fail
        refine (refGet_anyD _ _ _ _ _ (h2.after hb1) hl2).mono ?_
        rintro e w2 ⟨rfl, hb2⟩
        rw [HK.out, ← HY.out]
        have hW2 := hb1.trans (hb2.mono hb1.size)
        go_wp2_with fail
        refine (three_nul _).mono ?_
        rintro e w3 ⟨rfl, rfl⟩
        go_wp2_with fail
        go_ret2
        exact ⟨rfl, hW2⟩

set_option maxHeartbeats 8000000 in
set_option maxRecDepth 100000 in
theorem rc4_any (a : Option Addr) (n c : Nat) (l : List UInt8) (b : Option Addr) (m d : Nat) (k : List UInt8) (w : World) (h1 : Sl w a n c l) (h2 : Sl w b m d k) (hn : n ≤ 200) (hm : m ≤ 200) :
    Calls Tryd.prog 10 #[.int .u8 4, .slice a n c, .slice b m d] w (CmpP 4 l k w) := by
  obtain ⟨q1, q2⟩ := okV_yes 4 l k (((strip l).length : Nat), strip l) (((strip k).length : Nat), strip k) rfl rfl
  rw [cmpK_bin] at q2
  unfold CmpP
  rw [q1, q2]
  clear q1 q2
  obtain ⟨s, hs⟩ : ∃ s, s = strip l := ⟨_, rfl⟩
  obtain ⟨t, ht⟩ : ∃ t, t = strip k := ⟨_, rfl⟩
  rw [← hs, ← ht]
  have HS := Lib.hid hs
  have HT := Lib.hid ht
  clear hs ht
  have z1 : (⟨s.toArray⟩ : ByteArray).size = s.length := by simp [ByteArray.size]
  have z2 : (⟨t.toArray⟩ : ByteArray).size = t.length := by simp [ByteArray.size]
  rcases cmpZ_cases s.length t.length with ⟨c1, c2⟩ | ⟨c1, c2⟩ | ⟨c1, c2⟩
  · rw [c2, if_neg (by decide)]
    have hne : ((s.length : Int) != (t.length : Int)) = true := by rw [bne_iff_ne]; omega
    clear c2
    go_enter Tryd.func10, Tryd.ntmps10
    go_wp2_with fail
    refine (bare_any _ _ _ _ _ h1 hn).mono ?_
    rintro e w1 ⟨rfl, rfl⟩
    rw [← HS.out]
    go_wp2_with fail
    refine (bare_any _ _ _ _ _ h2 hm).mono ?_
    rintro e w1 ⟨rfl, rfl⟩
    rw [← HT.out]
    go_wp2_with fail
    refine (three_neg _ _).mono ?_
    rintro e w1 ⟨rfl, rfl⟩
    go_wp2_with fail
    go_ret2
    exact ⟨rfl, Below.refl _ _⟩
  · rw [c2, if_neg (by decide)]
    have hne : ((s.length : Int) != (t.length : Int)) = true := by rw [bne_iff_ne]; omega
    have c3 : (t.length : Int) ≤ (s.length : Int) := by omega
    clear c2
    go_enter Tryd.func10, Tryd.ntmps10
    go_wp2_with fail
    refine (bare_any _ _ _ _ _ h1 hn).mono ?_
    rintro e w1 ⟨rfl, rfl⟩
    rw [← HS.out]
    go_wp2_with fail
    refine (bare_any _ _ _ _ _ h2 hm).mono ?_
    rintro e w1 ⟨rfl, rfl⟩
    rw [← HT.out]
    go_wp2_with fail
    rw [decide_eq_false (show ¬ s.length < t.length by omega)]
    refine (three_pos _).mono ?_
    rintro e w1 ⟨rfl, rfl⟩
    go_wp2_with fail
    go_ret2
    exact ⟨rfl, Below.refl _ _⟩
  · rw [c2, if_pos rfl]
    have hne : ((s.length : Int) != (t.length : Int)) = false := by rw [bne_eq_false_iff_eq]; exact c1
    clear c2
    rcases bcmp_cases s t with ⟨x1, x2, x3⟩ | ⟨x1, x2, x3⟩ | ⟨rfl, x3⟩
    · rw [x3]
      clear x3
      go_enter Tryd.func10, Tryd.ntmps10
      go_wp2_with fail
      refine (bare_any _ _ _ _ _ h1 hn).mono ?_
      rintro e w1 ⟨rfl, rfl⟩
      rw [← HS.out]
      go_wp2_with fail
      refine (bare_any _ _ _ _ _ h2 hm).mono ?_
      rintro e w1 ⟨rfl, rfl⟩
      rw [← HT.out]
      go_wp2_with fail
      refine (three_neg _ _).mono ?_
      rintro e w1 ⟨rfl, rfl⟩
      go_wp2_with fail
      go_ret2
      exact ⟨rfl, Below.refl _ _⟩
    · rw [x3]
      have x4 : (s == t) = false := by simpa using x2
      clear x3 x2
      go_enter Tryd.func10, Tryd.ntmps10
      go_wp2_with fail
      refine (bare_any _ _ _ _ _ h1 hn).mono ?_
      rintro e w1 ⟨rfl, rfl⟩
      rw [← HS.out]
      go_wp2_with fail
      refine (bare_any _ _ _ _ _ h2 hm).mono ?_
      rintro e w1 ⟨rfl, rfl⟩
      rw [← HT.out]
      go_wp2_with fail
      refine (three_pos _).mono ?_
      rintro e w1 ⟨rfl, rfl⟩
      go_wp2_with fail
      go_ret2
      exact ⟨rfl, Below.refl _ _⟩
    · rw [x3]
      have x1 := bl_irrefl s
      clear x3
      go_enter Tryd.func10, Tryd.ntmps10
      go_wp2_with fail
      refine (bare_any _ _ _ _ _ h1 hn).mono ?_
      rintro e w1 ⟨rfl, rfl⟩
      rw [← HS.out]
      go_wp2_with fail
      refine (bare_any _ _ _ _ _ h2 hm).mono ?_
      rintro e w1 ⟨rfl, rfl⟩
      rw [← HT.out]
      go_wp2_with fail
      refine (three_nul _).mono ?_
      rintro e w1 ⟨rfl, rfl⟩
      go_wp2_with fail
      go_ret2
      exact ⟨rfl, Below.refl _ _⟩

set_option maxHeartbeats 8000000 in
set_option maxRecDepth 100000 in
theorem refCompare_any (o : Nat) (a : Option Addr) (n c : Nat) (l : List UInt8) (b : Option Addr) (m d : Nat) (k : List UInt8) (w : World) (h1 : Sl w a n c l) (h2 : Sl w b m d k) (hn : n ≤ 200) (hm : m ≤ 200) :
    Calls Tryd.prog 10 #[.int .u8 o, .slice a n c, .slice b m d] w (CmpP o l k w) := by
  cases ho : isO o
  · obtain ⟨q1, q2⟩ := okV_no1 o l k (ordV_no o l ho)
    have h' : o = 0 ∨ 6 ≤ o := by unfold isO at ho; simp at ho; omega
    have e1 : ((o : Int) == 1) = false := by rw [beq_eq_false_iff_ne]; omega
    have e2 : ((o : Int) == 2) = false := by rw [beq_eq_false_iff_ne]; omega
    have e3 : ((o : Int) == 3) = false := by rw [beq_eq_false_iff_ne]; omega
    have e4 : ((o : Int) == 4) = false := by rw [beq_eq_false_iff_ne]; omega
    have e5 : ((o : Int) == 5) = false := by rw [beq_eq_false_iff_ne]; omega
    unfold CmpP
    rw [q1, q2]
    clear q1 q2 ho h'
    go_enter Tryd.func10, Tryd.ntmps10
    go_wp2_with fail
    go_ret2
    exact ⟨rfl, Below.refl _ _⟩
  · have h' : o = 1 ∨ o = 2 ∨ o = 3 ∨ o = 4 ∨ o = 5 := by unfold isO at ho; simp at ho; omega
    rcases h' with rfl | rfl | rfl | rfl | rfl
    · exact rc1_any _ _ _ _ _ _ _ _ _ h1 h2
    · exact rc2_any _ _ _ _ _ _ _ _ _ h1 h2 hn hm
    · exact rc3_any _ _ _ _ _ _ _ _ _ h1 h2
    · exact rc4_any _ _ _ _ _ _ _ _ _ h1 h2 hn hm
    · exact rc5_any _ _ _ _ _ _ _ _ _ h1 h2

theorem refIs_any (o : Nat) (a : Option Addr) (n c : Nat) (l : List UInt8) (w : World) (h1 : Sl w a n c l) (hn : n ≤ 200) :
    Calls Tryd.prog 12 #[.int .u8 o, .slice a n c] w fun e w' => e = .returned (.bool (isV o l)) ∧ Below w.heap.size w w' := by
  have q : okV o l l = isV o l := by unfold okV; simp
  rw [← q]
  clear q
  go_enter Tryd.func12, Tryd.ntmps12
  go_wp2_with fail
  refine (refCompare_any _ _ _ _ _ _ _ _ _ _ h1 h1 hn hn).mono ?_
  rintro e w1 ⟨rfl, hb⟩
  go_wp2_with fail
  go_ret
  exact ⟨rfl, hb⟩
end Go.Proofs.YtoadpeigomkgiaaDoor

/- The orders of numbers and dates, order.of, Compare, Is: what they compute. -/
import Derived.Test.YtoadpeigomkgiaaDoorOrd2
import Derived.Test.YtoadpeigomkgiaaDoorONumCmp
import Derived.Test.YtoadpeigomkgiaaDoorNumGet
import Derived.Test.YtoadpeigomkgiaaDoorODate3
namespace Go.Proofs.YtoadpeigomkgiaaDoor
open Go.RowKit

theorem ordV2_no (l : List UInt8) (h : getO l = none) : ordV 2 l = none := by show (getO l).bind _ = none; rw [h]; rfl
theorem ordV2_nan (l : List UInt8) (x : Nat) (h : getO l = some x) (hx : isNan x = true) : ordV 2 l = none := by
  show ((getO l).bind fun x => if isNan x then none else some (key x, [])) = none; rw [h]; show (if isNan x then none else some (key x, [])) = (none : Option (Int × List UInt8)); rw [hx]; rfl
theorem ordV2_yes (l : List UInt8) (x : Nat) (h : getO l = some x) (hx : isNan x = false) : ordV 2 l = some (key x, []) := by
  show ((getO l).bind fun x => if isNan x then none else some (key x, [])) = _; rw [h]; show (if isNan x then none else some (key x, [])) = _; rw [hx]; rfl
theorem ordV3_no (l : List UInt8) (h : clockOk l = false) : ordV 3 l = none := by show (if clockOk l then some (clockV l, []) else none) = _; rw [h]; rfl
theorem ordV3_yes (l : List UInt8) (h : clockOk l = true) : ordV 3 l = some (clockV l, []) := by show (if clockOk l then some (clockV l, []) else none) = _; rw [h]; rfl
theorem ordV5_no (l : List UInt8) (h : dateOk l = false) : ordV 5 l = none := by show (if dateOk l then some (dateV l, []) else none) = _; rw [h]; rfl
theorem ordV5_yes (l : List UInt8) (h : dateOk l = true) : ordV 5 l = some (dateV l, []) := by show (if dateOk l then some (dateV l, []) else none) = _; rw [h]; rfl
theorem cmpI_cmpZ (x y : Nat) : cmpI x y = cmpZ (key x) (key y) := rfl

set_option maxHeartbeats 4000000 in
set_option maxRecDepth 100000 in
theorem numF_any (g : Nat) (a : Option Addr) (n c : Nat) (l : List UInt8) (b : Option Addr) (m d : Nat) (k : List UInt8) (w : World) (hg : w.cell? ⟨g, 0, none⟩ = some (.func (.func 40) #[] #[])) (h1 : Sl w a n c l) (h2 : Sl w b m d k) (hn : n ≤ 200) (hm : m ≤ 200) :
    Calls Tryd.prog 51 #[.slice a n c, .slice b m d, .pointer (some ⟨g, 0, none⟩)] w (CmpP 2 l k w) := by
  have hgl := cell_lt hg
  unfold CmpP
  cases hl : getO l with
  | none =>
    obtain ⟨q1, q2⟩ := okV_no1 2 l k (ordV2_no l hl)
    rw [q1, q2]
    have HL := Lib.hid hl
    clear q1 q2 hl
    go_enter Tryd.func51, Tryd.ntmps51
    go_wp2_with fail
    refine (get_any _ _ _ _ _ h1 (by omega)).mono ?_
    rintro e w1 ⟨rfl, hb1⟩
    rw [HL.out]
    have hg1 := (hb1.cell hgl).trans hg
    go_wp2_with fail
    refine (get_any _ _ _ _ _ (h2.after hb1) (by omega)).mono ?_
    rintro e w2 ⟨rfl, hb2⟩
    have hW2 := hb1.trans (hb2.mono hb1.size)
    go_wp2_with fail
    go_ret2
    exact ⟨rfl, hW2⟩
  | some x => cases hk : getO k with
    | none =>
      obtain ⟨q1, q2⟩ := okV_no2 2 l k (ordV2_no k hk)
      rw [q1, q2]
      have HL := Lib.hid hl
      have HK := Lib.hid hk
      clear q1 q2 hl hk
      go_enter Tryd.func51, Tryd.ntmps51
      go_wp2_with fail
      refine (get_any _ _ _ _ _ h1 (by omega)).mono ?_
      rintro e w1 ⟨rfl, hb1⟩
      rw [HL.out]
      have hg1 := (hb1.cell hgl).trans hg
      go_wp2_with fail
      refine (get_any _ _ _ _ _ (h2.after hb1) (by omega)).mono ?_
      rintro e w2 ⟨rfl, hb2⟩
      rw [HK.out]
      have hW2 := hb1.trans (hb2.mono hb1.size)
      go_wp2_with fail
      go_ret2
      exact ⟨rfl, hW2⟩
    | some y =>
      have e1 := ord_neqs x
      have e2 := ord_neqs y
      have HL := Lib.hid hl
      have HK := Lib.hid hk
      cases hx : isNan x with
      | true =>
        obtain ⟨q1, q2⟩ := okV_no1 2 l k (ordV2_nan l x hl hx)
        rw [q1, q2]
        rw [hx] at e1
        clear q1 q2 hl hk
        go_enter Tryd.func51, Tryd.ntmps51
        go_wp2_with fail
        refine (get_any _ _ _ _ _ h1 (by omega)).mono ?_
        rintro e w1 ⟨rfl, hb1⟩
        rw [HL.out]
        have hg1 := (hb1.cell hgl).trans hg
        go_wp2_with fail
        refine (get_any _ _ _ _ _ (h2.after hb1) (by omega)).mono ?_
        rintro e w2 ⟨rfl, hb2⟩
        rw [HK.out]
        have hW2 := hb1.trans (hb2.mono hb1.size)
        go_wp2_with fail
        go_ret2
        exact ⟨rfl, hW2⟩
      | false => cases hy : isNan y with
        | true =>
          obtain ⟨q1, q2⟩ := okV_no2 2 l k (ordV2_nan k y hk hy)
          rw [q1, q2]
          rw [hx] at e1
          rw [hy] at e2
          clear q1 q2 hl hk
          go_enter Tryd.func51, Tryd.ntmps51
          go_wp2_with fail
          refine (get_any _ _ _ _ _ h1 (by omega)).mono ?_
          rintro e w1 ⟨rfl, hb1⟩
          rw [HL.out]
          have hg1 := (hb1.cell hgl).trans hg
          go_wp2_with fail
          refine (get_any _ _ _ _ _ (h2.after hb1) (by omega)).mono ?_
          rintro e w2 ⟨rfl, hb2⟩
          rw [HK.out]
          have hW2 := hb1.trans (hb2.mono hb1.size)
          go_wp2_with fail
          go_ret2
          exact ⟨rfl, hW2⟩
        | false =>
          obtain ⟨q1, q2⟩ := okV_yes 2 l k _ _ (ordV2_yes l x hl hx) (ordV2_yes k y hk hy)
          rw [q1, q2, cmpK_num, ← cmpI_cmpZ]
          rw [hx] at e1
          rw [hy] at e2
          clear q1 q2 hl hk
          go_enter Tryd.func51, Tryd.ntmps51
          go_wp2_with fail
          refine (get_any _ _ _ _ _ h1 (by omega)).mono ?_
          rintro e w1 ⟨rfl, hb1⟩
          rw [HL.out]
          have hg1 := (hb1.cell hgl).trans hg
          go_wp2_with fail
          refine (get_any _ _ _ _ _ (h2.after hb1) (by omega)).mono ?_
          rintro e w2 ⟨rfl, hb2⟩
          rw [HK.out]
          have hW2 := hb1.trans (hb2.mono hb1.size)
          go_wp2_with fail
          refine (stdCmp_any _ _ hx hy _).mono ?_
          rintro e w3 ⟨rfl, rfl⟩
          go_wp2_with fail
          go_ret2
          exact ⟨rfl, hW2⟩
end Go.Proofs.YtoadpeigomkgiaaDoor

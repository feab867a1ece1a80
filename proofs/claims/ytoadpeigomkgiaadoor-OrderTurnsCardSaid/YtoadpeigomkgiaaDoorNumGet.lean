/- number.digits, number.Get: what they compute. -/
import Derived.Test.YtoadpeigomkgiaaDoorNumGet1
import Derived.Lib.SlBytesConst
import Derived.WalkSpells
namespace Go.Proofs.YtoadpeigomkgiaaDoor
open Go.RowKit

def digV (n : Nat) (l : List UInt8) : Nat := (digs n l).getD 0
def digOk (n : Nat) (l : List UInt8) : Bool := (digs n l).isSome && decide (0 < l.length)

theorem digs_step (v : Nat) (l : List UInt8) (k : Nat) (h : k < l.length) : digs v (l.drop k) = if 48 ≤ (l.getD k 0).toNat ∧ (l.getD k 0).toNat ≤ 57 then digs (10 * v + ((l.getD k 0).toNat - 48)) (l.drop (k + 1)) else none := by
  rw [List.drop_eq_getElem_cons h, digs]
  have e : l.getD k 0 = l[k] := by simp [List.getD_eq_getElem?_getD, h]
  rw [e]

set_option maxHeartbeats 2000000 in
theorem digits_any (n a : Nat) (s : Option Addr) (len cap : Nat) (l : List UInt8) (w : World) (hs : Sl w s len cap l) (hn : n < 10 ^ a) (hl : a + l.length ≤ 18) :
    Calls Tryd.prog 57 #[.int .i64 n, .slice s len cap] w fun e w' => e = .returned (.tuple #[.int .i64 (digV n l), .bool (digOk n l)]) ∧ w = w' := by
  obtain ⟨R, hR⟩ : ∃ R, R = digs n l := ⟨_, rfl⟩
  have HS := Lib.hid hs
  have HL := Lib.hid hs.1
  have HV := Lib.hid (show digV n l = R.getD 0 by rw [hR]; rfl)
  have HO := Lib.hid (show digOk n l = (R.isSome && decide (0 < l.length)) by rw [hR]; rfl)
  have HR := Lib.hid hR
  have HA := Lib.hid hl
  have hlen : len ≤ 18 := by have := hs.1; omega
  rw [HV.out, HO.out]
  clear hs hR hl
  go_enter Tryd.func57, Tryd.ntmps57
  go_wp2_with fail
  go_loop [0, 10] (fun n i => ∃ k x : Nat, k ≤ len ∧ i = .int .i64 k ∧ n = .int .i64 x ∧ Hid (x < 10 ^ (a + k)) ∧ Hid (R = digs x (l.drop k))) (fun _ i => len - (intOf i).toNat)
  case atStart => exact ⟨0, n, Nat.zero_le _, rfl, rfl, Lib.hid hn, HR⟩
  case round =>
    obtain ⟨k, x, hk, rfl, rfl, HX, HD⟩ := hrel
    clear hn
    by_cases hlt : k < len
    · obtain ⟨b, o, rfl, hcc, _⟩ := HS.out.some (by omega)
      have c0 := hcc k hlt
      have hkl : k < l.length := by have := HL.out; omega
      have HT := Lib.hid (digs_step x l k hkl)
      obtain ⟨c, hcE⟩ : ∃ c, c = l.getD k 0 := ⟨_, rfl⟩
      rw [← hcE] at c0 HT
      have hxb : x < 100000000000000000 := by
        have h1 := HX.out
        have h2 := HA.out
        exact Nat.lt_of_lt_of_le h1 (Nat.pow_le_pow_right (n := 10) (by omega) (show a + k ≤ 17 by have := HL.out; omega))
      have hc255 := c.toNat_lt
      have HP := Lib.hid (show 10 ^ (a + (k + 1)) = 10 * 10 ^ (a + k) by rw [← Nat.add_assoc, Nat.pow_succ]; omega)
      clear hcc hcE hkl
      by_cases hd : 48 ≤ c.toNat ∧ c.toNat ≤ 57
      · obtain ⟨d1, d2⟩ := hd
        have HE := Lib.hid (show R = digs (10 * x + (c.toNat - 48)) (l.drop (k + 1)) by rw [HD.out, HT.out, if_pos ⟨d1, d2⟩])
        go_wp2_with fail
        go_round
        case rel => exact ⟨k + 1, 10 * x + (c.toNat - 48), by omega, by go_num, by go_num, Lib.hid (by rw [HP.out]; have := HX.out; omega), HE⟩
        case measure => simp [intOf]; omega
      · have HE := Lib.hid (show R = none by rw [HD.out, HT.out, if_neg hd])
        by_cases d1 : (c.toNat : Int) < 48
        · clear hd
          go_wp2_with fail
          go_ret2
          exact ⟨by rw [HE.out]; rfl, rfl⟩
        · have d2 : (57 : Int) < c.toNat := by omega
          clear hd
          go_wp2_with fail
          go_ret2
          exact ⟨by rw [HE.out]; rfl, rfl⟩
    · obtain rfl : k = len := by omega
      have HE := Lib.hid (show R = some x by rw [HD.out, List.drop_of_length_le (by have := HL.out; omega)]; rfl)
      have HK := Lib.hid (show l.length = k from HL.out.symm)
      by_cases h0 : (0 : Int) < k
      · go_wp2_with fail
        go_ret2
        exact ⟨by rw [HE.out, HK.out]; simp, rfl⟩
      · have h1 : (k : Int) ≤ 0 := by omega
        go_wp2_with fail
        go_ret2
        exact ⟨by rw [HE.out, HK.out]; simp, rfl⟩

def getB (l : List UInt8) : Nat := (getO l).getD 0
def getOk (l : List UInt8) : Bool := (getO l).isSome
def GetP (o : Option Nat) (w : World) (e : Ending) (w' : World) : Prop := e = .returned (.tuple #[.float .f64 (o.getD 0), .bool o.isSome]) ∧ Below w.heap.size w w'

theorem sl_lit (w : World) (L : List UInt8) (fr : Nat × Nat) (hL : L.length ≤ 100) : Sl (w.alloc (.cells (Lib.byteCells L).toArray 5 fr)) (Option.some ⟨w.heap.size, 0, none⟩) L.length L.length L := by
  refine ⟨rfl, Nat.le_refl _, by unfold maxLen; omega, (fun h => by cases h), .inr ⟨w.heap.size, 0, rfl, fun i hi => ?_⟩⟩
  rw [World.cell?_alloc_mark]
  simp [Lib.byteCells, List.getD_eq_getElem?_getD, hi]

set_option maxHeartbeats 8000000 in
set_option maxRecDepth 100000 in
theorem get_any (a : Option Addr) (n c : Nat) (l : List UInt8) (w : World) (hs : Sl w a n c l) (hn : n ≤ 1000) :
    Calls Tryd.prog 40 #[.slice a n c] w (GetP (getO l) w) := by
  have q1 := conv_sl hs
  by_cases k1 : l = sInf
  · subst k1
    go_enter Tryd.func40, Tryd.ntmps40
    go_wp2_with fail
    refine (inf_pos _).mono ?_
    rintro e w1 ⟨rfl, rfl⟩
    go_wp2_with fail
    go_ret2
    exact ⟨rfl, Below.refl _ _⟩
  by_cases k2 : l = sNinf
  · subst k2
    go_enter Tryd.func40, Tryd.ntmps40
    go_wp2_with fail
    refine (inf_neg _).mono ?_
    rintro e w1 ⟨rfl, rfl⟩
    go_wp2_with fail
    go_ret2
    exact ⟨rfl, Below.refl _ _⟩
  by_cases k3 : l = sNan
  · subst k3
    go_enter Tryd.func40, Tryd.ntmps40
    go_wp2_with fail
    refine (nan_any _).mono ?_
    rintro e w1 ⟨rfl, rfl⟩
    go_wp2_with fail
    go_ret2
    exact ⟨rfl, Below.refl _ _⟩
  have HS0 := Lib.hid (show getO l = (numP (undash l)).map fun p => signed (dash l) (quoB p.1 p.2) by unfold getO; rw [if_neg k1, if_neg k2, if_neg k3])
  have j1 : (l == [105, 110, 102]) = false := by simpa [sInf] using k1
  have j2 : (l == [45, 105, 110, 102]) = false := by simpa [sNinf] using k2
  have j3 : (l == [110, 97, 110]) = false := by simpa [sNan] using k3
  clear k1 k2 k3
  have s1 : Sl (w.alloc (.cells #[.int .u8 45] 5 (1, 2))) (some ⟨w.heap.size, 0, none⟩) 1 1 [45] := sl_lit w [45] (1, 2) (by decide)
  have hb1 : Below w.heap.size w (w.alloc (.cells #[.int .u8 45] 5 (1, 2))) := (Below.refl _ _).alloc (Nat.le_refl _) _
  have hs1 := Lib.hid (hs.after hb1)
  have kc := fun (w : World) (C : Array Value) (n c : Nat) => Lib.run_convert_bytes_const (P := Tryd.prog) w 22 5 C n c Tryd.underlying22 Tryd.underlying5
  clear hs
  go_enter Tryd.func40, Tryd.ntmps40
  go_wp2_with fail
  refine (cutDash_any _ _ _ l _ _ _ hs1.out s1 hn).mono ?_
  rintro e w1 ⟨a1, n1, c1, rfl, hS1, rfl⟩
  obtain ⟨u, hu⟩ : ∃ u, u = undash l := ⟨_, rfl⟩
  rw [← hu] at hS1 HS0
  have hn1 : n1 ≤ 1000 := by
    have h1 := hs1.out.1
    have h2 := hS1.1
    rw [hu] at h2
    unfold undash at h2
    split at h2
    · simp at h2; omega
    · omega
  have Hu := Lib.hid hu
  generalize hWE : w.alloc (.cells #[.int .u8 45] 5 (1, 2)) = W at *
  clear q1 s1 j1 j2 j3 hs1 hWE hu
  have hb2 : Below W.heap.size W (W.alloc (.cells #[.int .u8 46] 5 (1, 2))) := (Below.refl _ _).alloc (Nat.le_refl _) _
  have hS2 := Lib.hid (hS1.after hb2)
  have c2 : (W.alloc (.cells #[.int .u8 46] 5 (1, 2))).cell? ⟨W.heap.size, 0, none⟩ = some (.int .u8 46) := by rw [World.cell?_alloc_mark]; rfl
  have hB2 := hb1.trans (hb2.mono hb1.size)
  clear hS1
  go_wp2_with fail
  refine (cutDot_any _ _ _ u _ _ _ hS2.out c2 (Nat.le_refl _) hn1).mono ?_
  rintro e w2 ⟨a2, n2, c2', a3, n3, c3, rfl, hSW, hSP, hb3⟩
  have hB := hB2.trans (hb3.mono hB2.size)
  have hn2 : n2 ≤ 1000 := by
    have h1 := hSW.1
    have h2 := hS2.out.1
    unfold whole at h1
    simp at h1
    omega
  have hn3 : n3 ≤ 1000 := by
    have h1 := hSP.1
    have h2 := hS2.out.1
    unfold part at h1
    simp at h1
    omega
  have HW := Lib.hid (hSW.after hb3)
  have HP := Lib.hid (hSP.after hb3)
  clear hS2 c2 hb2 hB2 hb3
  have HN := Lib.hid (show numP u = if 15 < n2 + n3 then none else
      match digs 0 (whole u) with
      | none => none
      | some n =>
        if n2 = 0 then none else
        if hasDot u then
          match digs n (part u) with
          | none => none
          | some m => if n3 = 0 then none else some (m, n3)
        else some (n, 0) by unfold numP; rw [← hSW.1, ← hSP.1]; rfl)
  have HND := Lib.hid (show hasDot u = false → n3 = 0 by
    intro h
    have h1 := hSP.1
    have := split_no u (by unfold hasDot at h; simpa using h)
    rw [this.2] at h1
    exact h1)
  have HWL := Lib.hid hSW.1
  have HPL := Lib.hid hSP.1
  clear hSW hSP
  by_cases h15 : (15 : Int) < n2 + n3
  · have HNP := Lib.hid (show numP u = none by rw [HN.out, if_pos (by omega)])
    have HG := Lib.hid (show getO l = none by rw [HS0.out, HNP.out]; rfl)
    go_wp2_with fail
    go_ret2
    exact ⟨by rw [HG.out]; rfl, hB⟩
  have h15' : (n2 : Int) + n3 ≤ 15 := by omega
  have h16 : ¬ 15 < n2 + n3 := by omega
  have HN2 := Lib.hid (HN.out.trans (if_neg h16))
  have HV := Lib.hid (show ∀ w : World, _ from fun w => digits_any 0 0 a2 n2 c2' (whole u) w)
  have hd0 : 0 + (whole u).length ≤ 18 := by have := HWL.out; omega
  have HD0 := Lib.hid hd0
  clear HN h15 h16 hd0 HV
  cases hg : digs 0 (whole u) with
  | none =>
    have hx : digV 0 (whole u) = 0 ∧ digOk 0 (whole u) = false := by unfold digV digOk; rw [hg]; exact ⟨rfl, rfl⟩
    have HX := Lib.hid hx
    have HNP := Lib.hid (show numP u = none by rw [HN2.out, hg])
    have HG := Lib.hid (show getO l = none by rw [HS0.out, HNP.out]; rfl)
    clear hx hg
    cases hdd : hasDot u
    all_goals
      clear hdd
      go_wp2_with fail
      refine (digits_any 0 0 _ _ _ _ _ HW.out (by decide) HD0.out).mono ?_
      rintro e w3 ⟨rfl, rfl⟩
      rw [HX.out.1, HX.out.2]
      go_wp2_with fail
      go_ret2
      exact ⟨by rw [HG.out]; rfl, hB⟩
  | some x =>
    have HX1 := Lib.hid (show digV 0 (whole u) = x by unfold digV; rw [hg]; rfl)
    have hxb := digs_lt _ _ 0 _ (show 0 < 10 ^ 0 by decide) hg
    have HXB := Lib.hid hxb
    by_cases h0 : n2 = 0
    · have HX2 := Lib.hid (show digOk 0 (whole u) = false by unfold digOk; rw [hg, ← HWL.out, h0]; rfl)
      have HNP := Lib.hid (show numP u = none by rw [HN2.out, hg]; exact if_pos h0)
      have HG := Lib.hid (show getO l = none by rw [HS0.out, HNP.out]; rfl)
      have Hh0 := Lib.hid h0
      clear hg h0 hxb
      cases hdd : hasDot u
      all_goals
        clear hdd
        go_wp2_with fail
        refine (digits_any 0 0 _ _ _ _ _ HW.out (by decide) HD0.out).mono ?_
        rintro e w3 ⟨rfl, rfl⟩
        rw [HX1.out, HX2.out]
        go_wp2_with fail
        go_ret2
        exact ⟨by rw [HG.out]; rfl, hB⟩
    have HX2 := Lib.hid (show digOk 0 (whole u) = true by unfold digOk; rw [hg, ← HWL.out]; simp; omega)
    have HN3 := Lib.hid (show numP u = if hasDot u = true then (match digs x (part u) with | none => none | some m => if n3 = 0 then none else some (m, n3)) else some (x, 0) from HN2.out.trans (by rw [hg]; exact if_neg h0))
    have Hh0 := Lib.hid h0
    clear hg h0 hxb HN2
    cases hdd : hasDot u
    · have HNP := Lib.hid (show numP u = some (x, n3) by rw [HN3.out, if_neg (by rw [hdd]; simp), HND.out hdd])
      clear hdd
      go_wp2_with fail
      refine (digits_any 0 0 _ _ _ _ _ HW.out (by decide) HD0.out).mono ?_
      rintro e w3 ⟨rfl, rfl⟩
      rw [HX1.out, HX2.out]
      obtain ⟨hn15, hk15⟩ := numP_bd _ _ _ HNP.out
      obtain ⟨hq1, hq2⟩ := quo_is x n3 (Nat.lt_trans hn15 (by decide)) hk15
      have hq : ∀ W : World, (binOp .quo 42 (.float .f64 (floatOfInt .f64 (x : Int))) (.float .f64 (fl (10 ^ n3)))).run Tryd.prog W = .ok (.float .f64 (quoB x n3)) W := fun W => run_float_arith W .quo 42 .f64 _ _ _ hq1
      have HQ := Lib.hid hq
      have HQ2 := Lib.hid hq2
      obtain ⟨Q, hQ⟩ : ∃ Q, Q = quoB x n3 := ⟨_, rfl⟩
      rw [← hQ] at HQ HQ2
      have HG := Lib.hid (show getO l = some (signed (dash l) Q) by rw [HS0.out, HNP.out, hQ]; rfl)
      have HK15 := Lib.hid hk15
      clear hq1 hq2 hq hQ hn15
      go_wp2_with fail
      go_loop [11, 65] (fun s i => ∃ (j z : Nat), j ≤ n3 ∧ i = .int .i64 j ∧ s = .float .f64 z ∧ Hid (z = fl (10 ^ j))) (fun _ i => n3 - (intOf i).toNat)
      case atStart => exact ⟨0, 4607182418800017408, Nat.zero_le _, rfl, rfl, Lib.hid (by rw [Nat.pow_zero]; exact ten_one.symm)⟩
      case round =>
        obtain ⟨j, z, hj, rfl, rfl, HZ⟩ := hrel
        by_cases hlt : j < n3
        · obtain ⟨z2, hz2⟩ : ∃ z2, z2 = fl (10 ^ (j + 1)) := ⟨_, rfl⟩
          have hm : ∀ W : World, (binOp .mul 42 (.float .f64 z) (.float .f64 4621819117588971520)).run Tryd.prog W = .ok (.float .f64 z2) W := fun W => run_float_arith W .mul 42 .f64 _ _ _ (by
            have := ten_step j (by have := HK15.out; omega)
            rw [← HZ.out, ← hz2] at this
            exact this)
          have HZ2 := Lib.hid hz2
          clear hz2
          go_wp2_with fail
          go_round
          case rel => exact ⟨j + 1, z2, by omega, by go_num, rfl, HZ2⟩
          case measure => simp [intOf]; omega
        · obtain rfl : j = n3 := by omega
          have hq : ∀ W : World, (binOp .quo 42 (.float .f64 (floatOfInt .f64 (x : Int))) (.float .f64 z)).run Tryd.prog W = .ok (.float .f64 Q) W := by rw [HZ.out]; exact HQ.out
          cases hm : dash l
          · rw [hm] at HG
            clear hm
            go_wp2_with fail
            go_ret2
            exact ⟨by rw [HG.out]; rfl, hB⟩
          · rw [hm] at HG
            clear hm
            go_wp2_with fail
            refine (copysign_any _ HQ2.out _).mono ?_
            rintro e w5 ⟨rfl, rfl⟩
            go_wp2_with fail
            go_ret2
            exact ⟨by rw [HG.out]; rfl, hB⟩
    · have HN4 := Lib.hid (HN3.out.trans (if_pos hdd))
      have hd1 : (0 + (whole u).length) + (part u).length ≤ 18 := by have := HWL.out; have := HPL.out; omega
      have HD1 := Lib.hid hd1
      clear hd1 HN3
      clear hdd
      go_wp2_with fail
      refine (digits_any 0 0 _ _ _ _ _ HW.out (by decide) HD0.out).mono ?_
      rintro e w3 ⟨rfl, rfl⟩
      rw [HX1.out, HX2.out]
      go_wp2_with fail
      refine (digits_any x (0 + (whole u).length) _ _ _ _ _ HP.out HXB.out HD1.out).mono ?_
      rintro e w3 ⟨rfl, rfl⟩
      cases hg2 : digs x (part u) with
      | none =>
        have HNP := Lib.hid (show numP u = none by rw [HN4.out, hg2])
        rw [show digV x (part u) = 0 by unfold digV; rw [hg2]; rfl, show digOk x (part u) = false by unfold digOk; rw [hg2]; rfl]
        clear hg2
        have HG := Lib.hid (show getO l = none by rw [HS0.out, HNP.out]; rfl)
        go_wp2_with fail
        go_ret2
        exact ⟨by rw [HG.out]; rfl, hB⟩
      | some y =>
        rw [show digV x (part u) = y by unfold digV; rw [hg2]; rfl]
        by_cases h3 : n3 = 0
        · have HNP := Lib.hid (show numP u = none by rw [HN4.out, hg2]; exact if_pos h3)
          rw [show digOk x (part u) = false by unfold digOk; rw [hg2, ← HPL.out, h3]; rfl]
          have Hh3 := Lib.hid h3
          clear hg2 h3
          have HG := Lib.hid (show getO l = none by rw [HS0.out, HNP.out]; rfl)
          go_wp2_with fail
          go_ret2
          exact ⟨by rw [HG.out]; rfl, hB⟩
        · have HNP := Lib.hid (show numP u = some (y, n3) by rw [HN4.out, hg2]; exact if_neg h3)
          rw [show digOk x (part u) = true by unfold digOk; rw [hg2, ← HPL.out]; simp; omega]
          have Hh3 := Lib.hid h3
          clear hg2 h3
          obtain ⟨hn15, hk15⟩ := numP_bd _ _ _ HNP.out
          obtain ⟨hq1, hq2⟩ := quo_is y n3 (Nat.lt_trans hn15 (by decide)) hk15
          have hq : ∀ W : World, (binOp .quo 42 (.float .f64 (floatOfInt .f64 (y : Int))) (.float .f64 (fl (10 ^ n3)))).run Tryd.prog W = .ok (.float .f64 (quoB y n3)) W := fun W => run_float_arith W .quo 42 .f64 _ _ _ hq1
          have HQ := Lib.hid hq
          have HQ2 := Lib.hid hq2
          obtain ⟨Q, hQ⟩ : ∃ Q, Q = quoB y n3 := ⟨_, rfl⟩
          rw [← hQ] at HQ HQ2
          have HG := Lib.hid (show getO l = some (signed (dash l) Q) by rw [HS0.out, HNP.out, hQ]; rfl)
          have HK15 := Lib.hid hk15
          clear hq1 hq2 hq hQ hn15
          go_wp2_with fail
          go_loop [11, 65] (fun s i => ∃ (j z : Nat), j ≤ n3 ∧ i = .int .i64 j ∧ s = .float .f64 z ∧ Hid (z = fl (10 ^ j))) (fun _ i => n3 - (intOf i).toNat)
          case atStart => exact ⟨0, 4607182418800017408, Nat.zero_le _, rfl, rfl, Lib.hid (by rw [Nat.pow_zero]; exact ten_one.symm)⟩
          case round =>
            obtain ⟨j, z, hj, rfl, rfl, HZ⟩ := hrel
            by_cases hlt : j < n3
            · obtain ⟨z2, hz2⟩ : ∃ z2, z2 = fl (10 ^ (j + 1)) := ⟨_, rfl⟩
              have hm : ∀ W : World, (binOp .mul 42 (.float .f64 z) (.float .f64 4621819117588971520)).run Tryd.prog W = .ok (.float .f64 z2) W := fun W => run_float_arith W .mul 42 .f64 _ _ _ (by
                have := ten_step j (by have := HK15.out; omega)
                rw [← HZ.out, ← hz2] at this
                exact this)
              have HZ2 := Lib.hid hz2
              clear hz2
              go_wp2_with fail
              go_round
              case rel => exact ⟨j + 1, z2, by omega, by go_num, rfl, HZ2⟩
              case measure => simp [intOf]; omega
            · obtain rfl : j = n3 := by omega
              have hq : ∀ W : World, (binOp .quo 42 (.float .f64 (floatOfInt .f64 (y : Int))) (.float .f64 z)).run Tryd.prog W = .ok (.float .f64 Q) W := by rw [HZ.out]; exact HQ.out
              cases hm : dash l
              · rw [hm] at HG
                clear hm
                go_wp2_with fail
                go_ret2
                exact ⟨by rw [HG.out]; rfl, hB⟩
              · rw [hm] at HG
                clear hm
                go_wp2_with fail
                refine (copysign_any _ HQ2.out _).mono ?_
                rintro e w5 ⟨rfl, rfl⟩
                go_wp2_with fail
                go_ret2
                exact ⟨by rw [HG.out]; rfl, hB⟩
end Go.Proofs.YtoadpeigomkgiaaDoor

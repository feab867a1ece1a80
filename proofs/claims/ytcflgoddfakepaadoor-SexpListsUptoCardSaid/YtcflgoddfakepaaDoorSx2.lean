/- The document's deep, clean and Great: what they compute. -/
import Derived.Test.YtcflgoddfakepaaDoorSx1
namespace Go.Proofs.YtcflgoddfakepaaDoor
open Go.RowKit

mutual
def Sx.deep : Sx → Nat
  | .mk l _ _ _ ks => if l then Sx.deepL ks + 1 else 0
def Sx.deepL : List Sx → Nat
  | [] => 0
  | k :: r => max k.deep (Sx.deepL r)
end
mutual
def Sx.clean : Sx → Bool
  | .mk l h hi da ks => (if l then !h && hi.length == 0 && da.length == 0 else ks.length == 0 && (h || hi.length == 0)) && Sx.cleanL ks
def Sx.cleanL : List Sx → Bool
  | [] => true
  | k :: r => k.clean && Sx.cleanL r
end
mutual
/-- 'Great' but for the number of all values -/
def Sx.wide : Sx → Nat → Bool
  | .mk _ _ hi da ks, at_ => decide (60 < at_) || decide (700 < ks.length) || decide (5000 < hi.length) || decide (5000 < da.length) || Sx.wideL ks (at_ + 1)
def Sx.wideL : List Sx → Nat → Bool
  | [], _ => false
  | k :: r, at_ => k.wide at_ || Sx.wideL r at_
end
def Sx.great (s : Sx) (at_ : Nat) : Bool := s.wide at_ || (at_ == 0 && decide (2000 < wrap64 (s.nodes : Int)))

theorem Sx.deepL_snoc (ks : List Sx) (k : Nat) (h : k < ks.length) : Sx.deepL (ks.take (k + 1)) = max (Sx.deepL (ks.take k)) ks[k].deep := by
  induction ks generalizing k with
  | nil => simp at h
  | cons a r ih =>
    cases k with
    | zero => simp [Sx.deepL]
    | succ k => simp only [List.take_succ_cons, Sx.deepL, List.getElem_cons_succ]; rw [ih k (by simpa using h)]; omega
theorem Sx.deepL_mem {ks : List Sx} {k : Sx} (h : k ∈ ks) : k.deep ≤ Sx.deepL ks := by
  induction ks with
  | nil => cases h
  | cons a r ih => rcases List.mem_cons.1 h with rfl | h
                   · simp only [Sx.deepL]; omega
                   · have := ih h; simp only [Sx.deepL]; omega
theorem Sx.deepL_take (ks : List Sx) (k : Nat) : Sx.deepL (ks.take k) ≤ Sx.deepL ks := by
  induction ks generalizing k with
  | nil => simp
  | cons a r ih => cases k with
    | zero => simp [Sx.deepL]
    | succ k => have := ih k; simp only [List.take_succ_cons, Sx.deepL]; omega
theorem Sx.cleanL_snoc (ks : List Sx) (k : Nat) (h : k < ks.length) : Sx.cleanL (ks.take (k + 1)) = (Sx.cleanL (ks.take k) && ks[k].clean) := by
  induction ks generalizing k with
  | nil => simp at h
  | cons a r ih =>
    cases k with
    | zero => simp [Sx.cleanL]
    | succ k => simp only [List.take_succ_cons, Sx.cleanL, List.getElem_cons_succ]; rw [ih k (by simpa using h), Bool.and_assoc]
theorem Sx.cleanL_no {ks : List Sx} {k : Sx} (h : k ∈ ks) (hk : k.clean = false) : Sx.cleanL ks = false := by
  induction ks with
  | nil => cases h
  | cons a r ih => rcases List.mem_cons.1 h with rfl | h
                   · simp [Sx.cleanL, hk]
                   · simp [Sx.cleanL, ih h]
theorem Sx.wideL_snoc (ks : List Sx) (m k : Nat) (h : k < ks.length) : Sx.wideL (ks.take (k + 1)) m = (Sx.wideL (ks.take k) m || ks[k].wide m) := by
  induction ks generalizing k with
  | nil => simp at h
  | cons a r ih =>
    cases k with
    | zero => simp [Sx.wideL]
    | succ k => simp only [List.take_succ_cons, Sx.wideL, List.getElem_cons_succ]; rw [ih k (by simpa using h), Bool.or_assoc]
theorem Sx.wideL_yes {ks : List Sx} {k : Sx} {m : Nat} (h : k ∈ ks) (hk : k.wide m = true) : Sx.wideL ks m = true := by
  induction ks with
  | nil => cases h
  | cons a r ih => rcases List.mem_cons.1 h with rfl | h
                   · simp [Sx.wideL, hk]
                   · simp [Sx.wideL, ih h]

set_option maxHeartbeats 2000000 in
set_option maxRecDepth 100000 in
theorem deep_any (s : Sx) : ∀ (v : SV) (w : World), Rd w v s → s.deep ≤ 4611686018427387904 → Calls Tryd.prog 24 #[v.val] w fun e w' => e = .returned (.int .i64 (s.deep : Int)) ∧ Below w.heap.size w w' := by
  induction s using Sx.ind with
  | h l hh hi da ks ih =>
  intro v w hr hd
  have HRR := Lib.hid hr
  obtain ⟨hvl, hvh, hs1, hs2, hn, hnc, hcm, K, hrow, hk⟩ := hr.parts
  obtain ⟨vl, vh, a1, n1, k1, a2, n2, k2, a3, n3, k3⟩ := v
  dsimp only at hn hnc hcm hrow hk hvl hvh hs1 hs2
  obtain rfl : vl = l := hvl
  obtain rfl : vh = hh := hvh
  replace hn : n3 = ks.length := hn
  replace hs1 : Sl w a1 n1 k1 hi := hs1
  replace hs2 : Sl w a2 n2 k2 da := hs2
  replace hk : ∀ i (hi : i < ks.length), RdI (fun _ => True) w (K i) ks[i] := hk
  obtain ⟨l1, hl1⟩ : ∃ l1, l1 = hi := ⟨_, rfl⟩
  have hn1 := hs1.1
  have hn2 := hs2.1
  have hm1 := hs1.2.1
  have hm2 := hs2.2.1
  have hx1 := hs1.2.2.1
  have hx2 := hs2.2.2.1
  have IH := Lib.hid ih
  have HK := Lib.hid hk
  have HR := Lib.hid hrow
  have HS1 := Lib.hid hs1
  have HS2 := Lib.hid hs2
  have HN1 := Lib.hid hn1
  have HN2 := Lib.hid hn2
  clear ih hk hrow hr hs1 hs2 hn1 hn2 hl1
  subst hn
  unfold maxLen at hcm hx1 hx2
  have HD := Lib.hid hd
  clear hd
  have hb0 : Below w.heap.size w (w.alloc (.cells #[.bool vl, .bool vh, .slice a1 n1 k1, .slice a2 n2 k2, .slice a3 ks.length k3] 25)) := (Below.refl _ _).alloc (Nat.le_refl _) _
  have hx0 := Box.new w 25 #[.bool vl, .bool vh, .slice a1 n1 k1, .slice a2 n2 k2, .slice a3 ks.length k3]
  cases vl with
  | false =>
    have c0 := hx0.cell 0 rfl
    show Calls _ _ #[.agg #[.bool false, .bool vh, .slice a1 n1 k1, .slice a2 n2 k2, .slice a3 ks.length k3]] _ _
    go_enter Tryd.func24, Tryd.ntmps24
    go_wp2_with fail
    go_ret
    exact ⟨by simp [Sx.deep], hb0⟩
  | true =>
    have hdL : Sx.deepL ks < 4611686018427387904 := by have := HD.out; simp only [Sx.deep, if_true] at this; omega
    have c0 := hx0.cell 0 rfl
    have c4 := hx0.cell 4 rfl
    show Calls _ _ #[.agg #[.bool true, .bool vh, .slice a1 n1 k1, .slice a2 n2 k2, .slice a3 ks.length k3]] _ _
    go_enter Tryd.func24, Tryd.ntmps24
    go_wp2_with fail
    go_loopw [3, 4, 11] (fun s i k wr => ∃ n : Nat, n ≤ ks.length ∧ k = .int .i64 n ∧ s = .int .i64 (Sx.deepL (ks.take n) : Int) ∧ Below w.heap.size w wr ∧ Box wr w.heap.size 25 #[.bool true, .bool vh, .slice a1 n1 k1, .slice a2 n2 k2, .slice a3 ks.length k3]) (fun _ _ k _ => ks.length - (intOf k).toNat)
    case atStart => exact ⟨0, Nat.zero_le _, rfl, rfl, hb0, hx0⟩
    case round =>
      obtain ⟨n, hnl, rfl, rfl, hb, hx⟩ := hrel
      clear c4 c0
      have c4 := hx.cell 4 rfl
      have htk := Sx.deepL_take ks n
      by_cases hlt : n < ks.length
      · obtain ⟨b, o, rfl, hld⟩ := (HR.out.after hb).range hlt
        have HL := Lib.hid hld
        have hrd := (HK.out n hlt).after hb
        have HRd := Lib.hid hrd
        have hkd := Sx.deepL_mem (List.getElem_mem hlt)
        clear hrd hld
        go_wp2_with (refine wpList_load_sv rfl _ rfl b _ rfl _ HL.out ?_)
        refine (IH.out _ (List.getElem_mem hlt) _ _ HRd.out (by omega)).mono ?_
        rintro e w1 ⟨rfl, hb1⟩
        have HB := hb.trans (hb1.mono hb.size)
        have HX := hx.after hb1
        have HS := Lib.hid (Sx.deepL_snoc ks n hlt)
        go_wp2_with fail
        go_roundw
        case rel => exact ⟨n + 1, by omega, by go_num, by rw [HS.out]; exact congrArg _ (by omega), HB, HX⟩
        case measure => simp [intOf]; omega
      · go_wp2_with fail
        go_ret
        have : n = ks.length := by omega
        subst this
        exact ⟨by simp [Sx.deep], hb⟩

def headOk (l h : Bool) (a b c : Nat) : Bool := if l then !h && a == 0 && b == 0 else c == 0 && (h || a == 0)
theorem headOk1 (a b c : Nat) : headOk true true a b c = false := rfl
theorem headOk2 {a : Nat} (b c : Nat) (h : 0 < a) : headOk true false a b c = false := by unfold headOk; simp; omega
theorem headOk3 (a : Nat) {b : Nat} (c : Nat) (h : 0 < b) : headOk true false a b c = false := by unfold headOk; simp; omega
theorem headOk4 {a b : Nat} (c : Nat) (h : a = 0) (h' : b = 0) : headOk true false a b c = true := by subst h h'; rfl
theorem headOk5 (hh : Bool) (a b : Nat) {c : Nat} (h : 0 < c) : headOk false hh a b c = false := by unfold headOk; simp; omega
theorem headOk6 (a b : Nat) {c : Nat} (h : c = 0) : headOk false true a b c = true := by subst h; rfl
theorem headOk7 {a : Nat} (b c : Nat) (h : 0 < a) : headOk false false a b c = false := by unfold headOk; simp; omega
theorem headOk8 {a : Nat} (b : Nat) {c : Nat} (h : a = 0) (h' : c = 0) : headOk false false a b c = true := by subst h h'; rfl
theorem clean_def (l h : Bool) (hi da : List UInt8) (ks : List Sx) : (Sx.mk l h hi da ks).clean = (headOk l h hi.length da.length ks.length && Sx.cleanL ks) := by simp only [Sx.clean, headOk]
set_option maxHeartbeats 2000000 in
set_option maxRecDepth 100000 in
theorem clean_any (s : Sx) : ∀ (v : SV) (w : World), Rd w v s → Calls Tryd.prog 23 #[v.val] w fun e w' => e = .returned (.bool s.clean) ∧ Below w.heap.size w w' := by
  induction s using Sx.ind with
  | h l hh hi da ks ih =>
  intro v w hr
  have HRR := Lib.hid hr
  obtain ⟨hvl, hvh, hs1, hs2, hn, hnc, hcm, K, hrow, hk⟩ := hr.parts
  obtain ⟨vl, vh, a1, n1, k1, a2, n2, k2, a3, n3, k3⟩ := v
  dsimp only at hn hnc hcm hrow hk hvl hvh hs1 hs2
  obtain rfl : vl = l := hvl
  obtain rfl : vh = hh := hvh
  replace hn : n3 = ks.length := hn
  replace hs1 : Sl w a1 n1 k1 hi := hs1
  replace hs2 : Sl w a2 n2 k2 da := hs2
  replace hk : ∀ i (hi : i < ks.length), RdI (fun _ => True) w (K i) ks[i] := hk
  obtain ⟨l1, hl1⟩ : ∃ l1, l1 = hi := ⟨_, rfl⟩
  have hn1 := hs1.1
  have hn2 := hs2.1
  have hm1 := hs1.2.1
  have hm2 := hs2.2.1
  have hx1 := hs1.2.2.1
  have hx2 := hs2.2.2.1
  have IH := Lib.hid ih
  have HK := Lib.hid hk
  have HR := Lib.hid hrow
  have HS1 := Lib.hid hs1
  have HS2 := Lib.hid hs2
  have HN1 := Lib.hid hn1
  have HN2 := Lib.hid hn2
  clear ih hk hrow hr hs1 hs2 hn1 hn2 hl1
  subst hn
  unfold maxLen at hcm hx1 hx2
  cases vl with
  | true =>
    cases vh with
    | true =>
      have hfact : headOk true true hi.length da.length ks.length = false := by
        have e1 := HN1.out
        have e2 := HN2.out
        exact headOk1 _ _ _
      have HF := Lib.hid hfact
      clear hfact
      have hb0 : Below w.heap.size w (w.alloc (.cells #[.bool true, .bool true, .slice a1 n1 k1, .slice a2 n2 k2, .slice a3 ks.length k3] 25)) := (Below.refl _ _).alloc (Nat.le_refl _) _
      have hx0 := Box.new w 25 #[.bool true, .bool true, .slice a1 n1 k1, .slice a2 n2 k2, .slice a3 ks.length k3]
      have c0 := hx0.cell 0 rfl
      have c1 := hx0.cell 1 rfl
      have c2 := hx0.cell 2 rfl
      have c3 := hx0.cell 3 rfl
      have c4 := hx0.cell 4 rfl
      show Calls _ _ #[.agg #[.bool true, .bool true, .slice a1 n1 k1, .slice a2 n2 k2, .slice a3 ks.length k3]] _ _
      go_enter Tryd.func23, Tryd.ntmps23
      go_wp2_with fail
      go_ret
      exact ⟨by rw [clean_def, HF.out]; rfl, hb0⟩
    | false =>
      by_cases h1 : 0 < n1
      · have h1' : 0 < (n1 : Int) := by omega
        have hfact : headOk true false hi.length da.length ks.length = false := by
          have e1 := HN1.out
          have e2 := HN2.out
          exact headOk2 _ _ (by omega)
        have HF := Lib.hid hfact
        clear hfact
        have hb0 : Below w.heap.size w (w.alloc (.cells #[.bool true, .bool false, .slice a1 n1 k1, .slice a2 n2 k2, .slice a3 ks.length k3] 25)) := (Below.refl _ _).alloc (Nat.le_refl _) _
        have hx0 := Box.new w 25 #[.bool true, .bool false, .slice a1 n1 k1, .slice a2 n2 k2, .slice a3 ks.length k3]
        have c0 := hx0.cell 0 rfl
        have c1 := hx0.cell 1 rfl
        have c2 := hx0.cell 2 rfl
        have c3 := hx0.cell 3 rfl
        have c4 := hx0.cell 4 rfl
        show Calls _ _ #[.agg #[.bool true, .bool false, .slice a1 n1 k1, .slice a2 n2 k2, .slice a3 ks.length k3]] _ _
        go_enter Tryd.func23, Tryd.ntmps23
        go_wp2_with fail
        go_ret
        exact ⟨by rw [clean_def, HF.out]; rfl, hb0⟩
      · obtain rfl : n1 = 0 := by omega
        by_cases h2 : 0 < n2
        · have h2' : 0 < (n2 : Int) := by omega
          have hfact : headOk true false hi.length da.length ks.length = false := by
            have e1 := HN1.out
            have e2 := HN2.out
            exact headOk3 _ _ (by omega)
          have HF := Lib.hid hfact
          clear hfact
          have hb0 : Below w.heap.size w (w.alloc (.cells #[.bool true, .bool false, .slice a1 0 k1, .slice a2 n2 k2, .slice a3 ks.length k3] 25)) := (Below.refl _ _).alloc (Nat.le_refl _) _
          have hx0 := Box.new w 25 #[.bool true, .bool false, .slice a1 0 k1, .slice a2 n2 k2, .slice a3 ks.length k3]
          have c0 := hx0.cell 0 rfl
          have c1 := hx0.cell 1 rfl
          have c2 := hx0.cell 2 rfl
          have c3 := hx0.cell 3 rfl
          have c4 := hx0.cell 4 rfl
          show Calls _ _ #[.agg #[.bool true, .bool false, .slice a1 0 k1, .slice a2 n2 k2, .slice a3 ks.length k3]] _ _
          go_enter Tryd.func23, Tryd.ntmps23
          go_wp2_with fail
          go_ret
          exact ⟨by rw [clean_def, HF.out]; rfl, hb0⟩
        · obtain rfl : n2 = 0 := by omega
          have hfact : headOk true false hi.length da.length ks.length = true := by
            have e1 := HN1.out
            have e2 := HN2.out
            exact headOk4 _ (by omega) (by omega)
          have HF := Lib.hid hfact
          clear hfact
          have hb0 : Below w.heap.size w (w.alloc (.cells #[.bool true, .bool false, .slice a1 0 k1, .slice a2 0 k2, .slice a3 ks.length k3] 25)) := (Below.refl _ _).alloc (Nat.le_refl _) _
          have hx0 := Box.new w 25 #[.bool true, .bool false, .slice a1 0 k1, .slice a2 0 k2, .slice a3 ks.length k3]
          have c0 := hx0.cell 0 rfl
          have c1 := hx0.cell 1 rfl
          have c2 := hx0.cell 2 rfl
          have c3 := hx0.cell 3 rfl
          have c4 := hx0.cell 4 rfl
          show Calls _ _ #[.agg #[.bool true, .bool false, .slice a1 0 k1, .slice a2 0 k2, .slice a3 ks.length k3]] _ _
          go_enter Tryd.func23, Tryd.ntmps23
          go_wp2_with fail
          go_loopw [3, 47] (fun i k wr => ∃ n : Nat, n ≤ ks.length ∧ k = .int .i64 n ∧ Sx.cleanL (ks.take n) = true ∧ Below w.heap.size w wr ∧ Box wr w.heap.size 25 #[.bool true, .bool false, .slice a1 0 k1, .slice a2 0 k2, .slice a3 ks.length k3]) (fun _ k _ => ks.length - (intOf k).toNat)
          case atStart => exact ⟨0, Nat.zero_le _, rfl, rfl, hb0, hx0⟩
          case round =>
            obtain ⟨n, hnl, rfl, hcl, hb, hx⟩ := hrel
            have HC := Lib.hid hcl
            clear c0 c1 c2 c3 c4 hcl
            have c4 := hx.cell 4 rfl
            by_cases hlt : n < ks.length
            · obtain ⟨b, o, rfl, hld⟩ := (HR.out.after hb).range hlt
              have HL := Lib.hid hld
              have hrd := (HK.out n hlt).after hb
              have HRd := Lib.hid hrd
              clear hrd hld
              obtain ⟨ck, hck⟩ : ∃ ck, ck = ks[n].clean := ⟨_, rfl⟩
              have IH2 := Lib.hid (IH.out _ (List.getElem_mem hlt) _ _ HRd.out)
              rw [← hck] at IH2
              have HCK := Lib.hid hck
              clear hck
              cases ck with
              | false =>
                go_wp2_with (refine wpList_load_sv rfl _ rfl b _ rfl _ HL.out ?_)
                refine IH2.out.mono ?_
                rintro e w1 ⟨rfl, hb1⟩
                have HB := hb.trans (hb1.mono hb.size)
                go_wp2_with fail
                go_ret
                exact ⟨by rw [clean_def, HF.out, Sx.cleanL_no (List.getElem_mem hlt) HCK.out.symm]; simp, HB⟩
              | true =>
                go_wp2_with (refine wpList_load_sv rfl _ rfl b _ rfl _ HL.out ?_)
                refine IH2.out.mono ?_
                rintro e w1 ⟨rfl, hb1⟩
                have HB := hb.trans (hb1.mono hb.size)
                have HX := hx.after hb1
                go_wp2_with fail
                go_roundw
                case rel => exact ⟨n + 1, by omega, by go_num, by rw [Sx.cleanL_snoc ks n hlt, HC.out, ← HCK.out]; rfl, HB, HX⟩
                case measure => simp [intOf]; omega
            · go_wp2_with fail
              go_ret
              have : n = ks.length := by omega
              subst this
              rw [List.take_length] at HC
              exact ⟨by rw [clean_def, HF.out, HC.out]; simp, hb⟩
  | false =>
    by_cases h3 : 0 < ks.length
    · have h3' : 0 < (ks.length : Int) := by omega
      have hfact : headOk false vh hi.length da.length ks.length = false := by
        have e1 := HN1.out
        have e2 := HN2.out
        exact headOk5 _ _ _ (by omega)
      have HF := Lib.hid hfact
      clear hfact
      have hb0 : Below w.heap.size w (w.alloc (.cells #[.bool false, .bool vh, .slice a1 n1 k1, .slice a2 n2 k2, .slice a3 ks.length k3] 25)) := (Below.refl _ _).alloc (Nat.le_refl _) _
      have hx0 := Box.new w 25 #[.bool false, .bool vh, .slice a1 n1 k1, .slice a2 n2 k2, .slice a3 ks.length k3]
      have c0 := hx0.cell 0 rfl
      have c1 := hx0.cell 1 rfl
      have c2 := hx0.cell 2 rfl
      have c3 := hx0.cell 3 rfl
      have c4 := hx0.cell 4 rfl
      show Calls _ _ #[.agg #[.bool false, .bool vh, .slice a1 n1 k1, .slice a2 n2 k2, .slice a3 ks.length k3]] _ _
      go_enter Tryd.func23, Tryd.ntmps23
      go_wp2_with fail
      go_ret
      exact ⟨by rw [clean_def, HF.out]; rfl, hb0⟩
    · have h3' : ¬ 0 < (ks.length : Int) := by omega
      cases vh with
      | true =>
        have hfact : headOk false true hi.length da.length ks.length = true := by
          have e1 := HN1.out
          have e2 := HN2.out
          exact headOk6 _ _ (by omega)
        have HF := Lib.hid hfact
        clear hfact
        have hb0 : Below w.heap.size w (w.alloc (.cells #[.bool false, .bool true, .slice a1 n1 k1, .slice a2 n2 k2, .slice a3 ks.length k3] 25)) := (Below.refl _ _).alloc (Nat.le_refl _) _
        have hx0 := Box.new w 25 #[.bool false, .bool true, .slice a1 n1 k1, .slice a2 n2 k2, .slice a3 ks.length k3]
        have c0 := hx0.cell 0 rfl
        have c1 := hx0.cell 1 rfl
        have c2 := hx0.cell 2 rfl
        have c3 := hx0.cell 3 rfl
        have c4 := hx0.cell 4 rfl
        show Calls _ _ #[.agg #[.bool false, .bool true, .slice a1 n1 k1, .slice a2 n2 k2, .slice a3 ks.length k3]] _ _
        go_enter Tryd.func23, Tryd.ntmps23
        go_wp2_with fail
        go_loopw [3, 47] (fun i k wr => ∃ n : Nat, n ≤ ks.length ∧ k = .int .i64 n ∧ Sx.cleanL (ks.take n) = true ∧ Below w.heap.size w wr ∧ Box wr w.heap.size 25 #[.bool false, .bool true, .slice a1 n1 k1, .slice a2 n2 k2, .slice a3 ks.length k3]) (fun _ k _ => ks.length - (intOf k).toNat)
        case atStart => exact ⟨0, Nat.zero_le _, rfl, rfl, hb0, hx0⟩
        case round =>
          obtain ⟨n, hnl, rfl, hcl, hb, hx⟩ := hrel
          have HC := Lib.hid hcl
          clear c0 c1 c2 c3 c4 hcl
          have c4 := hx.cell 4 rfl
          by_cases hlt : n < ks.length
          · exact absurd hlt (by omega)
          · go_wp2_with fail
            go_ret
            have : n = ks.length := by omega
            subst this
            rw [List.take_length] at HC
            exact ⟨by rw [clean_def, HF.out, HC.out]; simp, hb⟩
      | false =>
        by_cases h1 : 0 < n1
        · have h1' : 0 < (n1 : Int) := by omega
          have hfact : headOk false false hi.length da.length ks.length = false := by
            have e1 := HN1.out
            have e2 := HN2.out
            exact headOk7 _ _ (by omega)
          have HF := Lib.hid hfact
          clear hfact
          have hb0 : Below w.heap.size w (w.alloc (.cells #[.bool false, .bool false, .slice a1 n1 k1, .slice a2 n2 k2, .slice a3 ks.length k3] 25)) := (Below.refl _ _).alloc (Nat.le_refl _) _
          have hx0 := Box.new w 25 #[.bool false, .bool false, .slice a1 n1 k1, .slice a2 n2 k2, .slice a3 ks.length k3]
          have c0 := hx0.cell 0 rfl
          have c1 := hx0.cell 1 rfl
          have c2 := hx0.cell 2 rfl
          have c3 := hx0.cell 3 rfl
          have c4 := hx0.cell 4 rfl
          show Calls _ _ #[.agg #[.bool false, .bool false, .slice a1 n1 k1, .slice a2 n2 k2, .slice a3 ks.length k3]] _ _
          go_enter Tryd.func23, Tryd.ntmps23
          go_wp2_with fail
          go_ret
          exact ⟨by rw [clean_def, HF.out]; rfl, hb0⟩
        · obtain rfl : n1 = 0 := by omega
          have hfact : headOk false false hi.length da.length ks.length = true := by
            have e1 := HN1.out
            have e2 := HN2.out
            exact headOk8 _ (by omega) (by omega)
          have HF := Lib.hid hfact
          clear hfact
          have hb0 : Below w.heap.size w (w.alloc (.cells #[.bool false, .bool false, .slice a1 0 k1, .slice a2 n2 k2, .slice a3 ks.length k3] 25)) := (Below.refl _ _).alloc (Nat.le_refl _) _
          have hx0 := Box.new w 25 #[.bool false, .bool false, .slice a1 0 k1, .slice a2 n2 k2, .slice a3 ks.length k3]
          have c0 := hx0.cell 0 rfl
          have c1 := hx0.cell 1 rfl
          have c2 := hx0.cell 2 rfl
          have c3 := hx0.cell 3 rfl
          have c4 := hx0.cell 4 rfl
          show Calls _ _ #[.agg #[.bool false, .bool false, .slice a1 0 k1, .slice a2 n2 k2, .slice a3 ks.length k3]] _ _
          go_enter Tryd.func23, Tryd.ntmps23
          go_wp2_with fail
          go_loopw [3, 47] (fun i k wr => ∃ n : Nat, n ≤ ks.length ∧ k = .int .i64 n ∧ Sx.cleanL (ks.take n) = true ∧ Below w.heap.size w wr ∧ Box wr w.heap.size 25 #[.bool false, .bool false, .slice a1 0 k1, .slice a2 n2 k2, .slice a3 ks.length k3]) (fun _ k _ => ks.length - (intOf k).toNat)
          case atStart => exact ⟨0, Nat.zero_le _, rfl, rfl, hb0, hx0⟩
          case round =>
            obtain ⟨n, hnl, rfl, hcl, hb, hx⟩ := hrel
            have HC := Lib.hid hcl
            clear c0 c1 c2 c3 c4 hcl
            have c4 := hx.cell 4 rfl
            by_cases hlt : n < ks.length
            · exact absurd hlt (by omega)
            · go_wp2_with fail
              go_ret
              have : n = ks.length := by omega
              subst this
              rw [List.take_length] at HC
              exact ⟨by rw [clean_def, HF.out, HC.out]; simp, hb⟩

theorem wide_def (l h : Bool) (hi da : List UInt8) (ks : List Sx) (m : Nat) : (Sx.mk l h hi da ks).wide m = (decide (60 < m) || decide (700 < ks.length) || decide (5000 < hi.length) || decide (5000 < da.length) || Sx.wideL ks (m + 1)) := by simp only [Sx.wide]
theorem great_yes {s : Sx} {m : Nat} (h : s.wide m = true) : s.great m = true := by unfold Sx.great; rw [h]; rfl
theorem great_kid (s : Sx) (m : Nat) : s.great (m + 1) = s.wide (m + 1) := by unfold Sx.great; simp
theorem great_pos {s : Sx} {m : Nat} (h : 0 < m) (hw : s.wide m = false) : s.great m = false := by unfold Sx.great; rw [hw]; simp; omega
theorem great_zero {s : Sx} (hw : s.wide 0 = false) : s.great 0 = decide (2000 < wrap64 (s.nodes : Int)) := by unfold Sx.great; rw [hw]; simp only [Bool.false_or, BEq.rfl, Bool.true_and]
set_option maxHeartbeats 4000000 in
set_option maxRecDepth 100000 in
theorem great_any (s : Sx) : ∀ (v : SV) (m : Nat) (w : World), Rd w v s → m ≤ 61 → Calls Tryd.prog 10 #[v.val, .int .i64 m] w fun e w' => e = .returned (.bool (s.great m)) ∧ Below w.heap.size w w' := by
  induction s using Sx.ind with
  | h l hh hi da ks ih =>
  intro v m w hr hm
  have HRR := Lib.hid hr
  obtain ⟨hvl, hvh, hs1, hs2, hn, hnc, hcm, K, hrow, hk⟩ := hr.parts
  obtain ⟨vl, vh, a1, n1, k1, a2, n2, k2, a3, n3, k3⟩ := v
  dsimp only at hn hnc hcm hrow hk hvl hvh hs1 hs2
  obtain rfl : vl = l := hvl
  obtain rfl : vh = hh := hvh
  replace hn : n3 = ks.length := hn
  replace hs1 : Sl w a1 n1 k1 hi := hs1
  replace hs2 : Sl w a2 n2 k2 da := hs2
  replace hk : ∀ i (hi : i < ks.length), RdI (fun _ => True) w (K i) ks[i] := hk
  obtain ⟨l1, hl1⟩ : ∃ l1, l1 = hi := ⟨_, rfl⟩
  have hn1 := hs1.1
  have hn2 := hs2.1
  have hm1 := hs1.2.1
  have hm2 := hs2.2.1
  have hx1 := hs1.2.2.1
  have hx2 := hs2.2.2.1
  have IH := Lib.hid ih
  have HK := Lib.hid hk
  have HR := Lib.hid hrow
  have HS1 := Lib.hid hs1
  have HS2 := Lib.hid hs2
  have HN1 := Lib.hid hn1
  have HN2 := Lib.hid hn2
  clear ih hk hrow hr hs1 hs2 hn1 hn2 hl1
  subst hn
  unfold maxLen at hcm hx1 hx2
  have hb0 : Below w.heap.size w (w.alloc (.cells #[.bool vl, .bool vh, .slice a1 n1 k1, .slice a2 n2 k2, .slice a3 ks.length k3] 25)) := (Below.refl _ _).alloc (Nat.le_refl _) _
  have hx0 := Box.new w 25 #[.bool vl, .bool vh, .slice a1 n1 k1, .slice a2 n2 k2, .slice a3 ks.length k3]
  have c1 := hx0.cell 2 rfl
  have c2 := hx0.cell 3 rfl
  have c4 := hx0.cell 4 rfl
  by_cases h1 : 60 < m
  · have h1' : (60 : Int) < m := by omega
    have HF : Hid ((Sx.mk vl vh hi da ks).great m = true) := Lib.hid (great_yes (by rw [wide_def]; simp; omega))
    show Calls _ _ #[.agg #[.bool vl, .bool vh, .slice a1 n1 k1, .slice a2 n2 k2, .slice a3 ks.length k3], .int .i64 m] _ _
    go_enter Tryd.func10, Tryd.ntmps10
    go_wp2_with fail
    go_ret
    exact ⟨by rw [HF.out]; rfl, hb0⟩
  by_cases h2 : 700 < ks.length
  · have h2' : (700 : Int) < ks.length := by omega
    have HF : Hid ((Sx.mk vl vh hi da ks).great m = true) := Lib.hid (great_yes (by rw [wide_def]; simp; omega))
    show Calls _ _ #[.agg #[.bool vl, .bool vh, .slice a1 n1 k1, .slice a2 n2 k2, .slice a3 ks.length k3], .int .i64 m] _ _
    go_enter Tryd.func10, Tryd.ntmps10
    go_wp2_with fail
    go_ret
    exact ⟨by rw [HF.out]; rfl, hb0⟩
  by_cases h3 : 5000 < n1
  · have h3' : (5000 : Int) < n1 := by omega
    have HF : Hid ((Sx.mk vl vh hi da ks).great m = true) := Lib.hid (great_yes (by rw [wide_def]; have e1 := HN1.out; have e2 := HN2.out; simp; omega))
    show Calls _ _ #[.agg #[.bool vl, .bool vh, .slice a1 n1 k1, .slice a2 n2 k2, .slice a3 ks.length k3], .int .i64 m] _ _
    go_enter Tryd.func10, Tryd.ntmps10
    go_wp2_with fail
    go_ret
    exact ⟨by rw [HF.out]; rfl, hb0⟩
  by_cases h4 : 5000 < n2
  · have h4' : (5000 : Int) < n2 := by omega
    have HF : Hid ((Sx.mk vl vh hi da ks).great m = true) := Lib.hid (great_yes (by rw [wide_def]; have e1 := HN1.out; have e2 := HN2.out; simp; omega))
    show Calls _ _ #[.agg #[.bool vl, .bool vh, .slice a1 n1 k1, .slice a2 n2 k2, .slice a3 ks.length k3], .int .i64 m] _ _
    go_enter Tryd.func10, Tryd.ntmps10
    go_wp2_with fail
    go_ret
    exact ⟨by rw [HF.out]; rfl, hb0⟩
  have h1' : ¬ (60 : Int) < m := by omega
  have h2' : ¬ (700 : Int) < ks.length := by omega
  have h3' : ¬ (5000 : Int) < n1 := by omega
  have h4' : ¬ (5000 : Int) < n2 := by omega
  have HF : Hid ((Sx.mk vl vh hi da ks).wide m = Sx.wideL ks (m + 1)) := Lib.hid (by
    have e1 := HN1.out
    have e2 := HN2.out
    rw [wide_def, decide_eq_false h1, decide_eq_false h2, decide_eq_false (show ¬ 5000 < hi.length by omega), decide_eq_false (show ¬ 5000 < da.length by omega)]
    rfl)
  show Calls _ _ #[.agg #[.bool vl, .bool vh, .slice a1 n1 k1, .slice a2 n2 k2, .slice a3 ks.length k3], .int .i64 m] _ _
  go_enter Tryd.func10, Tryd.ntmps10
  go_wp2_with fail
  go_loopw [5, 29] (fun i k wr => ∃ n : Nat, n ≤ ks.length ∧ k = .int .i64 n ∧ Sx.wideL (ks.take n) (m + 1) = false ∧ Below w.heap.size w wr ∧ Box wr w.heap.size 25 #[.bool vl, .bool vh, .slice a1 n1 k1, .slice a2 n2 k2, .slice a3 ks.length k3]) (fun _ k _ => ks.length - (intOf k).toNat)
  case atStart => exact ⟨0, Nat.zero_le _, rfl, rfl, hb0, hx0⟩
  case round =>
    obtain ⟨n, hnl, rfl, hcl, hb, hx⟩ := hrel
    have HC := Lib.hid hcl
    clear c1 c2 c4 hcl hx0
    have c4 := hx.cell 4 rfl
    by_cases hlt : n < ks.length
    · obtain ⟨b, o, rfl, hld⟩ := (HR.out.after hb).range hlt
      have HL := Lib.hid hld
      have hrd := (HK.out n hlt).after hb
      have HRd := Lib.hid hrd
      clear hrd hld
      obtain ⟨ck, hck⟩ : ∃ ck, ck = ks[n].great (m + 1) := ⟨_, rfl⟩
      have IH2 := Lib.hid (IH.out _ (List.getElem_mem hlt) _ (m + 1) _ HRd.out (by omega))
      rw [← hck] at IH2
      rw [great_kid] at hck
      have HCK := Lib.hid hck
      clear hck
      have hm' : ((m + 1 : Nat) : Int) = (m : Int) + 1 := by omega
      rw [hm'] at IH2
      clear hm'
      cases ck with
      | true =>
        go_wp2_with (refine wpList_load_sv rfl _ rfl b _ rfl _ HL.out ?_)
        refine IH2.out.mono ?_
        rintro e w1 ⟨rfl, hb1⟩
        have HB := hb.trans (hb1.mono hb.size)
        go_wp2_with fail
        go_ret
        exact ⟨by rw [great_yes (HF.out.trans (Sx.wideL_yes (List.getElem_mem hlt) HCK.out.symm))]; rfl, HB⟩
      | false =>
        go_wp2_with (refine wpList_load_sv rfl _ rfl b _ rfl _ HL.out ?_)
        refine IH2.out.mono ?_
        rintro e w1 ⟨rfl, hb1⟩
        have HB := hb.trans (hb1.mono hb.size)
        have HX := hx.after hb1
        go_wp2_with fail
        go_roundw
        case rel => exact ⟨n + 1, by omega, by go_num, by rw [Sx.wideL_snoc ks _ n hlt, HC.out, ← HCK.out]; rfl, HB, HX⟩
        case measure => simp [intOf]; omega
    · have hnn : n = ks.length := by omega
      subst hnn
      rw [List.take_length] at HC
      have HRw := Lib.hid (HRR.out.after hb)
      have HX := Lib.hid hx
      by_cases h0 : m = 0
      · subst h0
        go_wp2_with (refine wpList_load_box rfl 25 _ rfl HX.out (by rfl) Tryd.underlying25 rfl (by kernel_rfl) ?_)
        refine (nodes_any _ _ _ HRw.out).mono ?_
        rintro e w1 ⟨rfl, hb1⟩
        have HB := hb.trans (hb1.mono hb.size)
        go_wp2_with fail
        go_ret
        exact ⟨by rw [great_zero (HF.out.trans HC.out)]; rfl, HB⟩
      · have h0' : ((m : Int) == 0) = false := by simp; omega
        go_wp2_with fail
        go_ret
        exact ⟨by rw [great_pos (by omega) (HF.out.trans HC.out)]; rfl, hb⟩

end Go.Proofs.YtcflgoddfakepaaDoor

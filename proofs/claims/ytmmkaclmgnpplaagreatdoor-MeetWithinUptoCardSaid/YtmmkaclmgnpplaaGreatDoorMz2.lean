import Derived.Test.YtmmkaclmgnpplaaGreatDoorMz1
set_option maxRecDepth 100000
set_option maxHeartbeats 64000000
set_option linter.unusedSimpArgs false
set_option linter.unusedVariables false
namespace Go.Proofs.YtmmkaclmgnpplaaGreatDoor
open Go.RowKit
mutual
def Sx.nodes : Sx → Nat
 | .mk _ _ _ _ ks => 1 + Sx.nodesL ks
def Sx.nodesL : List Sx → Nat
 | [] => 0
 | k :: r => k.nodes + Sx.nodesL r
end
theorem Sx.nodesL_append (a b : List Sx) : Sx.nodesL (a ++ b) = Sx.nodesL a + Sx.nodesL b := by
 induction a with
 | nil => simp [Sx.nodesL]
 | cons k a ih => simp [Sx.nodesL, ih]; omega
theorem Sx.nodesL_snoc (ks : List Sx) (k : Nat) (h : k < ks.length) : Sx.nodesL (ks.take (k + 1)) = Sx.nodesL (ks.take k) + ks[k].nodes := by
 rw [List.take_succ_eq_append_getElem h, Sx.nodesL_append]
 simp [Sx.nodesL]
theorem pg (a b : Int) : wrap64 (wrap64 a + wrap64 b) = wrap64 (a + b) := by unfold wrap64; omega
theorem n4 (a : Int) (h : -9223372036854775808 ≤ a ∧ a < 9223372036854775808) : wrap64 a = a := by unfold wrap64; omega
theorem aY {ops : Array Oper} {rest : List Oper} {o : Oper} {a : Act} {w : World} {Q : Exit → Act → World → Prop} (dR : o.guard = none) (x : Operand) (ho : o.op = .load 32 x)
  (b k : Nat) (hx : a.eval x = .pointer (some ⟨b, k, none⟩)) (v : SV) (hc : w.rangeAt b k v.cells.toList) (h : wpList Tryz.prog ops Q rest (a.put o.dst v.val) w) : wpList Tryz.prog ops Q (o :: rest) a w :=
 wpList_load_mid dR 32 x ho b k hx _ _ hc Tryz.underlying32 rfl (by kernel_rfl) h
theorem nC (s : Sx) : ∀ (v : SV) (w : World), Rd w v s → Calls Tryz.prog 18 #[v.val] w fun e w' => e = .returned (.int .i64 (wrap64 (s.nodes : Int))) ∧ Below w.heap.size w w' := by
 induction s using Sx.ind with
 | h l hh hi da ks ih =>
 intro v w hr
 obtain ⟨eQ, fK, _, _, hn, ie, ea, K, ah, hk⟩ := hr.parts
 obtain ⟨vl, vh, a1, n1, c1, a2, n2, c2, a3, n3, c3⟩ := v
 dsimp only at hn ie ea ah hk
 replace hn : n3 = ks.length := hn
 replace hk : ∀ i (hi : i < ks.length), RdI (fun _ => True) w (K i) ks[i] := hk
 have IH := I5 ih
 have HK := I5 hk
 have HR := I5 ah
 clear ih hk ah hr eQ fK
 subst hn
 have au : Below w.heap.size w (w.alloc (.cells #[.bool vl, .bool vh, .slice a1 n1 c1, .slice a2 n2 c2, .slice a3 ks.length c3] 32)) := (Below.refl _ _).alloc (Nat.le_refl _) _
 have cw := Box.new w 32 #[.bool vl, .bool vh, .slice a1 n1 c1, .slice a2 n2 c2, .slice a3 ks.length c3]
 unfold maxLen at ea
 show Calls _ _ #[.agg #[.bool vl, .bool vh, .slice a1 n1 c1, .slice a2 n2 c2, .slice a3 ks.length c3]] _ _
 go_enter Tryz.func18, Tryz.ntmps18
 go_wp2_with fail
 go_loopw [3, 4, 8] (fun s i k wr => ∃ n : Nat, n ≤ ks.length ∧ k = .int .i64 n ∧ s = .int .i64 (wrap64 (1 + (Sx.nodesL (ks.take n) : Int))) ∧ Below w.heap.size w wr ∧ Box wr w.heap.size 32 #[.bool vl, .bool vh, .slice a1 n1 c1, .slice a2 n2 c2, .slice a3 ks.length c3]) (fun _ _ k _ => ks.length - (intOf k).toNat)
 case atStart => exact ⟨0, Nat.zero_le _, rfl, by simp [Sx.nodesL, n4], au, cw⟩
 case round =>
  obtain ⟨n, AB, rfl, rfl, hb, hx⟩ := hrel
  have c4 := hx.cell 4 rfl
  by_cases aJ : n < ks.length
  ·obtain ⟨b, o, rfl, a8⟩ := (HR.out.after hb).range aJ
   have HL := I5 a8
   clear a8
   have kD := (HK.out n aJ).after hb
   have HRd := I5 kD
   clear kD
   go_wp2_with (refine aY rfl _ rfl b _ rfl _ HL.out ?_)
   refine (IH.out _ (List.getElem_mem aJ) _ _ HRd.out).mono ?_
   rintro e w1 ⟨rfl, af⟩
   have HB := hb.trans (af.mono hb.size)
   have HX := hx.after af
   have HS := I5 (Sx.nodesL_snoc ks n aJ)
   go_wp2_with fail
   go_roundw
   case rel => exact ⟨n + 1, by omega, by go_num, by rw [HS.out]; exact congrArg _ (by rw [pg]; congr 1; simp; omega), HB, HX⟩
   case measure => simp [intOf]; omega
  ·go_wp2_with fail
   go_ret
   have : n = ks.length := by omega
   subst this
   exact ⟨by simp [Sx.nodes], hb⟩
mutual
def Sx.deep : Sx → Nat
 | .mk l _ _ _ ks => if l then Sx.deepL ks + 1 else 0
def Sx.deepL : List Sx → Nat
 | [] => 0
 | k :: r => max k.deep (Sx.deepL r)
end
mutual
def Sx.clean : Sx → Bool
 | .mk l h hi da ks => (if l then !h && hi.length == 0 && da.length == 0 else ks.length == 0 && (h || hi.length == 0)) && Sx.cleanL ks
def Sx.cleanL : List Sx → Bool
 | [] => true
 | k :: r => k.clean && Sx.cleanL r
end
mutual
def Sx.wide : Sx → Nat → Bool
 | .mk _ _ hi da ks, at_ => decide (60 < at_) || decide (700 < ks.length) || decide (5000 < hi.length) || decide (5000 < da.length) || Sx.wideL ks (at_ + 1)
def Sx.wideL : List Sx → Nat → Bool
 | [], _ => false
 | k :: r, at_ => k.wide at_ || Sx.wideL r at_
end
def Sx.great (s : Sx) (at_ : Nat) : Bool := s.wide at_ || (at_ == 0 && decide (2000 < wrap64 (s.nodes : Int)))
theorem Sx.deepL_snoc (ks : List Sx) (k : Nat) (h : k < ks.length) : Sx.deepL (ks.take (k + 1)) = max (Sx.deepL (ks.take k)) ks[k].deep := by
 induction ks generalizing k with
 | nil => simp at h
 | cons a r ih =>
  cases k with
  | zero => simp [Sx.deepL]
  | succ k => simp only [List.take_succ_cons, Sx.deepL, List.getElem_cons_succ]; rw [ih k (by simpa using h)]; omega
theorem Sx.deepL_mem {ks : List Sx} {k : Sx} (h : k ∈ ks) : k.deep ≤ Sx.deepL ks := by
  induction ks with
  | nil => cases h
  | cons a r ih => rcases List.mem_cons.1 h with rfl | h
                   · simp only [Sx.deepL]; omega
                   · have := ih h; simp only [Sx.deepL]; omega
theorem Sx.deepL_take (ks : List Sx) (k : Nat) : Sx.deepL (ks.take k) ≤ Sx.deepL ks := by
 induction ks generalizing k with
 | nil => simp
 | cons a r ih => cases k with
  | zero => simp [Sx.deepL]
  | succ k => have := ih k; simp only [List.take_succ_cons, Sx.deepL]; omega
theorem Sx.cleanL_snoc (ks : List Sx) (k : Nat) (h : k < ks.length) : Sx.cleanL (ks.take (k + 1)) = (Sx.cleanL (ks.take k) && ks[k].clean) := by
 induction ks generalizing k with
 | nil => simp at h
 | cons a r ih =>
  cases k with
  | zero => simp [Sx.cleanL]
  | succ k => simp only [List.take_succ_cons, Sx.cleanL, List.getElem_cons_succ]; rw [ih k (by simpa using h), Bool.and_assoc]
theorem Sx.cleanL_no {ks : List Sx} {k : Sx} (h : k ∈ ks) (hk : k.clean = false) : Sx.cleanL ks = false := by
  induction ks with
  | nil => cases h
  | cons a r ih => rcases List.mem_cons.1 h with rfl | h
                   · simp [Sx.cleanL, hk]
                   · simp [Sx.cleanL, ih h]
theorem Sx.wideL_snoc (ks : List Sx) (m k : Nat) (h : k < ks.length) : Sx.wideL (ks.take (k + 1)) m = (Sx.wideL (ks.take k) m || ks[k].wide m) := by
 induction ks generalizing k with
 | nil => simp at h
 | cons a r ih =>
  cases k with
  | zero => simp [Sx.wideL]
  | succ k => simp only [List.take_succ_cons, Sx.wideL, List.getElem_cons_succ]; rw [ih k (by simpa using h), Bool.or_assoc]
theorem Sx.wideL_yes {ks : List Sx} {k : Sx} {m : Nat} (h : k ∈ ks) (hk : k.wide m = true) : Sx.wideL ks m = true := by
  induction ks with
  | nil => cases h
  | cons a r ih => rcases List.mem_cons.1 h with rfl | h
                   · simp [Sx.wideL, hk]
                   · simp [Sx.wideL, ih h]
theorem wR (s : Sx) : ∀ (v : SV) (w : World), Rd w v s → s.deep ≤ 4611686018427387904 → Calls Tryz.prog 52 #[v.val] w fun e w' => e = .returned (.int .i64 (s.deep : Int)) ∧ Below w.heap.size w w' := by
 induction s using Sx.ind with
 | h l hh hi da ks ih =>
 intro v w hr hd
 have pd := I5 hr
 obtain ⟨eQ, fK, an, aO, hn, ie, ea, K, ah, hk⟩ := hr.parts
 obtain ⟨vl, vh, a1, n1, k1, a2, n2, k2, a3, n3, k3⟩ := v
 dsimp only at hn ie ea ah hk eQ fK an aO
 obtain rfl : vl = l := eQ
 obtain rfl : vh = hh := fK
 replace hn : n3 = ks.length := hn
 replace an : Sl w a1 n1 k1 hi := an
 replace aO : Sl w a2 n2 k2 da := aO
 replace hk : ∀ i (hi : i < ks.length), RdI (fun _ => True) w (K i) ks[i] := hk
 obtain ⟨l1, ja⟩ : ∃ l1, l1 = hi := ⟨_, rfl⟩
 have ig := an.1
 have gk := aO.1
 have yL := an.2.1
 have BA := aO.2.1
 have jV := an.2.2.1
 have pZ := aO.2.2.1
 have IH := I5 ih
 have HK := I5 hk
 have HR := I5 ah
 have fL := I5 an
 have mJ := I5 aO
 have ep := I5 ig
 have iu := I5 gk
 clear ih hk ah hr an aO ig gk ja
 subst hn
 unfold maxLen at ea jV pZ
 have HD := I5 hd
 clear hd
 have au : Below w.heap.size w (w.alloc (.cells #[.bool vl, .bool vh, .slice a1 n1 k1, .slice a2 n2 k2, .slice a3 ks.length k3] 32)) := (Below.refl _ _).alloc (Nat.le_refl _) _
 have cw := Box.new w 32 #[.bool vl, .bool vh, .slice a1 n1 k1, .slice a2 n2 k2, .slice a3 ks.length k3]
 cases vl with
 | false =>
  have c0 := cw.cell 0 rfl
  show Calls _ _ #[.agg #[.bool false, .bool vh, .slice a1 n1 k1, .slice a2 n2 k2, .slice a3 ks.length k3]] _ _
  go_enter Tryz.func52, Tryz.ntmps52
  go_wp2_with fail
  go_ret
  exact ⟨by simp [Sx.deep], au⟩
 | true =>
  have IN : Sx.deepL ks < 4611686018427387904 := by have := HD.out; simp only [Sx.deep, if_true] at this; omega
  have c0 := cw.cell 0 rfl
  have c4 := cw.cell 4 rfl
  show Calls _ _ #[.agg #[.bool true, .bool vh, .slice a1 n1 k1, .slice a2 n2 k2, .slice a3 ks.length k3]] _ _
  go_enter Tryz.func52, Tryz.ntmps52
  go_wp2_with fail
  go_loopw [3, 4, 11] (fun s i k wr => ∃ n : Nat, n ≤ ks.length ∧ k = .int .i64 n ∧ s = .int .i64 (Sx.deepL (ks.take n) : Int) ∧ Below w.heap.size w wr ∧ Box wr w.heap.size 32 #[.bool true, .bool vh, .slice a1 n1 k1, .slice a2 n2 k2, .slice a3 ks.length k3]) (fun _ _ k _ => ks.length - (intOf k).toNat)
  case atStart => exact ⟨0, Nat.zero_le _, rfl, rfl, au, cw⟩
  case round =>
   obtain ⟨n, AB, rfl, rfl, hb, hx⟩ := hrel
   clear c4 c0
   have c4 := hx.cell 4 rfl
   have kC := Sx.deepL_take ks n
   by_cases aJ : n < ks.length
   ·obtain ⟨b, o, rfl, a8⟩ := (HR.out.after hb).range aJ
    have HL := I5 a8
    have kD := (HK.out n aJ).after hb
    have HRd := I5 kD
    have cH := Sx.deepL_mem (List.getElem_mem aJ)
    clear kD a8
    go_wp2_with (refine aY rfl _ rfl b _ rfl _ HL.out ?_)
    refine (IH.out _ (List.getElem_mem aJ) _ _ HRd.out (by omega)).mono ?_
    rintro e w1 ⟨rfl, af⟩
    have HB := hb.trans (af.mono hb.size)
    have HX := hx.after af
    have HS := I5 (Sx.deepL_snoc ks n aJ)
    go_wp2_with fail
    go_roundw
    case rel => exact ⟨n + 1, by omega, by go_num, by rw [HS.out]; exact congrArg _ (by omega), HB, HX⟩
    case measure => simp [intOf]; omega
   ·go_wp2_with fail
    go_ret
    have : n = ks.length := by omega
    subst this
    exact ⟨by simp [Sx.deep], hb⟩
def headOk (l h : Bool) (a b c : Nat) : Bool := if l then !h && a == 0 && b == 0 else c == 0 && (h || a == 0)
theorem tq (a b c : Nat) : headOk true true a b c = false := rfl
theorem tp {a : Nat} (b c : Nat) (h : 0 < a) : headOk true false a b c = false := by unfold headOk; simp; omega
theorem tm (a : Nat) {b : Nat} (c : Nat) (h : 0 < b) : headOk true false a b c = false := by unfold headOk; simp; omega
theorem tj {a b : Nat} (c : Nat) (h : a = 0) (h' : b = 0) : headOk true false a b c = true := by subst h h'; rfl
theorem oS (hh : Bool) (a b : Nat) {c : Nat} (h : 0 < c) : headOk false hh a b c = false := by unfold headOk; simp; omega
theorem ti (a b : Nat) {c : Nat} (h : c = 0) : headOk false true a b c = true := by subst h; rfl
theorem tg {a : Nat} (b c : Nat) (h : 0 < a) : headOk false false a b c = false := by unfold headOk; simp; omega
theorem tf {a : Nat} (b : Nat) {c : Nat} (h : a = 0) (h' : c = 0) : headOk false false a b c = true := by subst h h'; rfl
theorem bF (l h : Bool) (hi da : List UInt8) (ks : List Sx) : (Sx.mk l h hi da ks).clean = (headOk l h hi.length da.length ks.length && Sx.cleanL ks) := by simp only [Sx.clean, headOk]
theorem uX (s : Sx) : ∀ (v : SV) (w : World), Rd w v s → Calls Tryz.prog 51 #[v.val] w fun e w' => e = .returned (.bool s.clean) ∧ Below w.heap.size w w' := by
 induction s using Sx.ind with
 | h l hh hi da ks ih =>
 intro v w hr
 have pd := I5 hr
 obtain ⟨eQ, fK, an, aO, hn, ie, ea, K, ah, hk⟩ := hr.parts
 obtain ⟨vl, vh, a1, n1, k1, a2, n2, k2, a3, n3, k3⟩ := v
 dsimp only at hn ie ea ah hk eQ fK an aO
 obtain rfl : vl = l := eQ
 obtain rfl : vh = hh := fK
 replace hn : n3 = ks.length := hn
 replace an : Sl w a1 n1 k1 hi := an
 replace aO : Sl w a2 n2 k2 da := aO
 replace hk : ∀ i (hi : i < ks.length), RdI (fun _ => True) w (K i) ks[i] := hk
 obtain ⟨l1, ja⟩ : ∃ l1, l1 = hi := ⟨_, rfl⟩
 have ig := an.1
 have gk := aO.1
 have yL := an.2.1
 have BA := aO.2.1
 have jV := an.2.2.1
 have pZ := aO.2.2.1
 have IH := I5 ih
 have HK := I5 hk
 have HR := I5 ah
 have fL := I5 an
 have mJ := I5 aO
 have ep := I5 ig
 have iu := I5 gk
 clear ih hk ah hr an aO ig gk ja
 subst hn
 unfold maxLen at ea jV pZ
 cases vl with
 | true =>
  cases vh with
  | true =>
   have di : headOk true true hi.length da.length ks.length = false := by
    have e1 := ep.out
    have e2 := iu.out
    exact tq _ _ _
   have HF := I5 di
   clear di
   have au : Below w.heap.size w (w.alloc (.cells #[.bool true, .bool true, .slice a1 n1 k1, .slice a2 n2 k2, .slice a3 ks.length k3] 32)) := (Below.refl _ _).alloc (Nat.le_refl _) _
   have cw := Box.new w 32 #[.bool true, .bool true, .slice a1 n1 k1, .slice a2 n2 k2, .slice a3 ks.length k3]
   have c0 := cw.cell 0 rfl
   have c1 := cw.cell 1 rfl
   have c2 := cw.cell 2 rfl
   have c3 := cw.cell 3 rfl
   have c4 := cw.cell 4 rfl
   show Calls _ _ #[.agg #[.bool true, .bool true, .slice a1 n1 k1, .slice a2 n2 k2, .slice a3 ks.length k3]] _ _
   go_enter Tryz.func51, Tryz.ntmps51
   go_wp2_with fail
   go_ret
   exact ⟨by rw [bF, HF.out]; rfl, au⟩
  | false =>
   by_cases h1 : 0 < n1
   ·have h1' : 0 < (n1 : Int) := by omega
    have di : headOk true false hi.length da.length ks.length = false := by
     have e1 := ep.out
     have e2 := iu.out
     exact tp _ _ (by omega)
    have HF := I5 di
    clear di
    have au : Below w.heap.size w (w.alloc (.cells #[.bool true, .bool false, .slice a1 n1 k1, .slice a2 n2 k2, .slice a3 ks.length k3] 32)) := (Below.refl _ _).alloc (Nat.le_refl _) _
    have cw := Box.new w 32 #[.bool true, .bool false, .slice a1 n1 k1, .slice a2 n2 k2, .slice a3 ks.length k3]
    have c0 := cw.cell 0 rfl
    have c1 := cw.cell 1 rfl
    have c2 := cw.cell 2 rfl
    have c3 := cw.cell 3 rfl
    have c4 := cw.cell 4 rfl
    show Calls _ _ #[.agg #[.bool true, .bool false, .slice a1 n1 k1, .slice a2 n2 k2, .slice a3 ks.length k3]] _ _
    go_enter Tryz.func51, Tryz.ntmps51
    go_wp2_with fail
    go_ret
    exact ⟨by rw [bF, HF.out]; rfl, au⟩
   ·obtain rfl : n1 = 0 := by omega
    by_cases h2 : 0 < n2
    ·have h2' : 0 < (n2 : Int) := by omega
     have di : headOk true false hi.length da.length ks.length = false := by
      have e1 := ep.out
      have e2 := iu.out
      exact tm _ _ (by omega)
     have HF := I5 di
     clear di
     have au : Below w.heap.size w (w.alloc (.cells #[.bool true, .bool false, .slice a1 0 k1, .slice a2 n2 k2, .slice a3 ks.length k3] 32)) := (Below.refl _ _).alloc (Nat.le_refl _) _
     have cw := Box.new w 32 #[.bool true, .bool false, .slice a1 0 k1, .slice a2 n2 k2, .slice a3 ks.length k3]
     have c0 := cw.cell 0 rfl
     have c1 := cw.cell 1 rfl
     have c2 := cw.cell 2 rfl
     have c3 := cw.cell 3 rfl
     have c4 := cw.cell 4 rfl
     show Calls _ _ #[.agg #[.bool true, .bool false, .slice a1 0 k1, .slice a2 n2 k2, .slice a3 ks.length k3]] _ _
     go_enter Tryz.func51, Tryz.ntmps51
     go_wp2_with fail
     go_ret
     exact ⟨by rw [bF, HF.out]; rfl, au⟩
    ·obtain rfl : n2 = 0 := by omega
     have di : headOk true false hi.length da.length ks.length = true := by
      have e1 := ep.out
      have e2 := iu.out
      exact tj _ (by omega) (by omega)
     have HF := I5 di
     clear di
     have au : Below w.heap.size w (w.alloc (.cells #[.bool true, .bool false, .slice a1 0 k1, .slice a2 0 k2, .slice a3 ks.length k3] 32)) := (Below.refl _ _).alloc (Nat.le_refl _) _
     have cw := Box.new w 32 #[.bool true, .bool false, .slice a1 0 k1, .slice a2 0 k2, .slice a3 ks.length k3]
     have c0 := cw.cell 0 rfl
     have c1 := cw.cell 1 rfl
     have c2 := cw.cell 2 rfl
     have c3 := cw.cell 3 rfl
     have c4 := cw.cell 4 rfl
     show Calls _ _ #[.agg #[.bool true, .bool false, .slice a1 0 k1, .slice a2 0 k2, .slice a3 ks.length k3]] _ _
     go_enter Tryz.func51, Tryz.ntmps51
     go_wp2_with fail
     go_loopw [3, 47] (fun i k wr => ∃ n : Nat, n ≤ ks.length ∧ k = .int .i64 n ∧ Sx.cleanL (ks.take n) = true ∧ Below w.heap.size w wr ∧ Box wr w.heap.size 32 #[.bool true, .bool false, .slice a1 0 k1, .slice a2 0 k2, .slice a3 ks.length k3]) (fun _ k _ => ks.length - (intOf k).toNat)
     case atStart => exact ⟨0, Nat.zero_le _, rfl, rfl, au, cw⟩
     case round =>
      obtain ⟨n, AB, rfl, gS, hb, hx⟩ := hrel
      have HC := I5 gS
      clear c0 c1 c2 c3 c4 gS
      have c4 := hx.cell 4 rfl
      by_cases aJ : n < ks.length
      ·obtain ⟨b, o, rfl, a8⟩ := (HR.out.after hb).range aJ
       have HL := I5 a8
       have kD := (HK.out n aJ).after hb
       have HRd := I5 kD
       clear kD a8
       obtain ⟨ck, fT⟩ : ∃ ck, ck = ks[n].clean := ⟨_, rfl⟩
       have IH2 := I5 (IH.out _ (List.getElem_mem aJ) _ _ HRd.out)
       rw [← fT] at IH2
       have gQ := I5 fT
       clear fT
       cases ck with
       | false =>
        go_wp2_with (refine aY rfl _ rfl b _ rfl _ HL.out ?_)
        refine IH2.out.mono ?_
        rintro e w1 ⟨rfl, af⟩
        have HB := hb.trans (af.mono hb.size)
        go_wp2_with fail
        go_ret
        exact ⟨by rw [bF, HF.out, Sx.cleanL_no (List.getElem_mem aJ) gQ.out.symm]; simp, HB⟩
       | true =>
        go_wp2_with (refine aY rfl _ rfl b _ rfl _ HL.out ?_)
        refine IH2.out.mono ?_
        rintro e w1 ⟨rfl, af⟩
        have HB := hb.trans (af.mono hb.size)
        have HX := hx.after af
        go_wp2_with fail
        go_roundw
        case rel => exact ⟨n + 1, by omega, by go_num, by rw [Sx.cleanL_snoc ks n aJ, HC.out, ← gQ.out]; rfl, HB, HX⟩
        case measure => simp [intOf]; omega
      ·go_wp2_with fail
       go_ret
       have : n = ks.length := by omega
       subst this
       rw [List.take_length] at HC
       exact ⟨by rw [bF, HF.out, HC.out]; simp, hb⟩
 | false =>
  by_cases h3 : 0 < ks.length
  ·have h3' : 0 < (ks.length : Int) := by omega
   have di : headOk false vh hi.length da.length ks.length = false := by
    have e1 := ep.out
    have e2 := iu.out
    exact oS _ _ _ (by omega)
   have HF := I5 di
   clear di
   have au : Below w.heap.size w (w.alloc (.cells #[.bool false, .bool vh, .slice a1 n1 k1, .slice a2 n2 k2, .slice a3 ks.length k3] 32)) := (Below.refl _ _).alloc (Nat.le_refl _) _
   have cw := Box.new w 32 #[.bool false, .bool vh, .slice a1 n1 k1, .slice a2 n2 k2, .slice a3 ks.length k3]
   have c0 := cw.cell 0 rfl
   have c1 := cw.cell 1 rfl
   have c2 := cw.cell 2 rfl
   have c3 := cw.cell 3 rfl
   have c4 := cw.cell 4 rfl
   show Calls _ _ #[.agg #[.bool false, .bool vh, .slice a1 n1 k1, .slice a2 n2 k2, .slice a3 ks.length k3]] _ _
   go_enter Tryz.func51, Tryz.ntmps51
   go_wp2_with fail
   go_ret
   exact ⟨by rw [bF, HF.out]; rfl, au⟩
  ·have h3' : ¬ 0 < (ks.length : Int) := by omega
   cases vh with
   | true =>
    have di : headOk false true hi.length da.length ks.length = true := by
     have e1 := ep.out
     have e2 := iu.out
     exact ti _ _ (by omega)
    have HF := I5 di
    clear di
    have au : Below w.heap.size w (w.alloc (.cells #[.bool false, .bool true, .slice a1 n1 k1, .slice a2 n2 k2, .slice a3 ks.length k3] 32)) := (Below.refl _ _).alloc (Nat.le_refl _) _
    have cw := Box.new w 32 #[.bool false, .bool true, .slice a1 n1 k1, .slice a2 n2 k2, .slice a3 ks.length k3]
    have c0 := cw.cell 0 rfl
    have c1 := cw.cell 1 rfl
    have c2 := cw.cell 2 rfl
    have c3 := cw.cell 3 rfl
    have c4 := cw.cell 4 rfl
    show Calls _ _ #[.agg #[.bool false, .bool true, .slice a1 n1 k1, .slice a2 n2 k2, .slice a3 ks.length k3]] _ _
    go_enter Tryz.func51, Tryz.ntmps51
    go_wp2_with fail
    go_loopw [3, 47] (fun i k wr => ∃ n : Nat, n ≤ ks.length ∧ k = .int .i64 n ∧ Sx.cleanL (ks.take n) = true ∧ Below w.heap.size w wr ∧ Box wr w.heap.size 32 #[.bool false, .bool true, .slice a1 n1 k1, .slice a2 n2 k2, .slice a3 ks.length k3]) (fun _ k _ => ks.length - (intOf k).toNat)
    case atStart => exact ⟨0, Nat.zero_le _, rfl, rfl, au, cw⟩
    case round =>
     obtain ⟨n, AB, rfl, gS, hb, hx⟩ := hrel
     have HC := I5 gS
     clear c0 c1 c2 c3 c4 gS
     have c4 := hx.cell 4 rfl
     by_cases aJ : n < ks.length
     ·exact absurd aJ (by omega)
     ·go_wp2_with fail
      go_ret
      have : n = ks.length := by omega
      subst this
      rw [List.take_length] at HC
      exact ⟨by rw [bF, HF.out, HC.out]; simp, hb⟩
   | false =>
    by_cases h1 : 0 < n1
    ·have h1' : 0 < (n1 : Int) := by omega
     have di : headOk false false hi.length da.length ks.length = false := by
      have e1 := ep.out
      have e2 := iu.out
      exact tg _ _ (by omega)
     have HF := I5 di
     clear di
     have au : Below w.heap.size w (w.alloc (.cells #[.bool false, .bool false, .slice a1 n1 k1, .slice a2 n2 k2, .slice a3 ks.length k3] 32)) := (Below.refl _ _).alloc (Nat.le_refl _) _
     have cw := Box.new w 32 #[.bool false, .bool false, .slice a1 n1 k1, .slice a2 n2 k2, .slice a3 ks.length k3]
     have c0 := cw.cell 0 rfl
     have c1 := cw.cell 1 rfl
     have c2 := cw.cell 2 rfl
     have c3 := cw.cell 3 rfl
     have c4 := cw.cell 4 rfl
     show Calls _ _ #[.agg #[.bool false, .bool false, .slice a1 n1 k1, .slice a2 n2 k2, .slice a3 ks.length k3]] _ _
     go_enter Tryz.func51, Tryz.ntmps51
     go_wp2_with fail
     go_ret
     exact ⟨by rw [bF, HF.out]; rfl, au⟩
    ·obtain rfl : n1 = 0 := by omega
     have di : headOk false false hi.length da.length ks.length = true := by
      have e1 := ep.out
      have e2 := iu.out
      exact tf _ (by omega) (by omega)
     have HF := I5 di
     clear di
     have au : Below w.heap.size w (w.alloc (.cells #[.bool false, .bool false, .slice a1 0 k1, .slice a2 n2 k2, .slice a3 ks.length k3] 32)) := (Below.refl _ _).alloc (Nat.le_refl _) _
     have cw := Box.new w 32 #[.bool false, .bool false, .slice a1 0 k1, .slice a2 n2 k2, .slice a3 ks.length k3]
     have c0 := cw.cell 0 rfl
     have c1 := cw.cell 1 rfl
     have c2 := cw.cell 2 rfl
     have c3 := cw.cell 3 rfl
     have c4 := cw.cell 4 rfl
     show Calls _ _ #[.agg #[.bool false, .bool false, .slice a1 0 k1, .slice a2 n2 k2, .slice a3 ks.length k3]] _ _
     go_enter Tryz.func51, Tryz.ntmps51
     go_wp2_with fail
     go_loopw [3, 47] (fun i k wr => ∃ n : Nat, n ≤ ks.length ∧ k = .int .i64 n ∧ Sx.cleanL (ks.take n) = true ∧ Below w.heap.size w wr ∧ Box wr w.heap.size 32 #[.bool false, .bool false, .slice a1 0 k1, .slice a2 n2 k2, .slice a3 ks.length k3]) (fun _ k _ => ks.length - (intOf k).toNat)
     case atStart => exact ⟨0, Nat.zero_le _, rfl, rfl, au, cw⟩
     case round =>
      obtain ⟨n, AB, rfl, gS, hb, hx⟩ := hrel
      have HC := I5 gS
      clear c0 c1 c2 c3 c4 gS
      have c4 := hx.cell 4 rfl
      by_cases aJ : n < ks.length
      ·exact absurd aJ (by omega)
      ·go_wp2_with fail
       go_ret
       have : n = ks.length := by omega
       subst this
       rw [List.take_length] at HC
       exact ⟨by rw [bF, HF.out, HC.out]; simp, hb⟩
theorem eL (l h : Bool) (hi da : List UInt8) (ks : List Sx) (m : Nat) : (Sx.mk l h hi da ks).wide m = (decide (60 < m) || decide (700 < ks.length) || decide (5000 < hi.length) || decide (5000 < da.length) || Sx.wideL ks (m + 1)) := by simp only [Sx.wide]
theorem fz {s : Sx} {m : Nat} (h : s.wide m = true) : s.great m = true := by unfold Sx.great; rw [h]; rfl
theorem uz (s : Sx) (m : Nat) : s.great (m + 1) = s.wide (m + 1) := by unfold Sx.great; simp
theorem uy {s : Sx} {m : Nat} (h : 0 < m) (hw : s.wide m = false) : s.great m = false := by unfold Sx.great; rw [hw]; simp; omega
theorem mr {s : Sx} (hw : s.wide 0 = false) : s.great 0 = decide (2000 < wrap64 (s.nodes : Int)) := by unfold Sx.great; rw [hw]; simp only [Bool.false_or, BEq.rfl, Bool.true_and]
theorem uA (s : Sx) : ∀ (v : SV) (m : Nat) (w : World), Rd w v s → m ≤ 61 → Calls Tryz.prog 7 #[v.val, .int .i64 m] w fun e w' => e = .returned (.bool (s.great m)) ∧ Below w.heap.size w w' := by
 induction s using Sx.ind with
 | h l hh hi da ks ih =>
 intro v m w hr hm
 have pd := I5 hr
 obtain ⟨eQ, fK, an, aO, hn, ie, ea, K, ah, hk⟩ := hr.parts
 obtain ⟨vl, vh, a1, n1, k1, a2, n2, k2, a3, n3, k3⟩ := v
 dsimp only at hn ie ea ah hk eQ fK an aO
 obtain rfl : vl = l := eQ
 obtain rfl : vh = hh := fK
 replace hn : n3 = ks.length := hn
 replace an : Sl w a1 n1 k1 hi := an
 replace aO : Sl w a2 n2 k2 da := aO
 replace hk : ∀ i (hi : i < ks.length), RdI (fun _ => True) w (K i) ks[i] := hk
 obtain ⟨l1, ja⟩ : ∃ l1, l1 = hi := ⟨_, rfl⟩
 have ig := an.1
 have gk := aO.1
 have yL := an.2.1
 have BA := aO.2.1
 have jV := an.2.2.1
 have pZ := aO.2.2.1
 have IH := I5 ih
 have HK := I5 hk
 have HR := I5 ah
 have fL := I5 an
 have mJ := I5 aO
 have ep := I5 ig
 have iu := I5 gk
 clear ih hk ah hr an aO ig gk ja
 subst hn
 unfold maxLen at ea jV pZ
 have au : Below w.heap.size w (w.alloc (.cells #[.bool vl, .bool vh, .slice a1 n1 k1, .slice a2 n2 k2, .slice a3 ks.length k3] 32)) := (Below.refl _ _).alloc (Nat.le_refl _) _
 have cw := Box.new w 32 #[.bool vl, .bool vh, .slice a1 n1 k1, .slice a2 n2 k2, .slice a3 ks.length k3]
 have c1 := cw.cell 2 rfl
 have c2 := cw.cell 3 rfl
 have c4 := cw.cell 4 rfl
 by_cases h1 : 60 < m
 ·have h1' : (60 : Int) < m := by omega
  have HF : Hid ((Sx.mk vl vh hi da ks).great m = true) := I5 (fz (by rw [eL]; simp; omega))
  show Calls _ _ #[.agg #[.bool vl, .bool vh, .slice a1 n1 k1, .slice a2 n2 k2, .slice a3 ks.length k3], .int .i64 m] _ _
  go_enter Tryz.func7, Tryz.ntmps7
  go_wp2_with fail
  go_ret
  exact ⟨by rw [HF.out]; rfl, au⟩
 by_cases h2 : 700 < ks.length
 ·have h2' : (700 : Int) < ks.length := by omega
  have HF : Hid ((Sx.mk vl vh hi da ks).great m = true) := I5 (fz (by rw [eL]; simp; omega))
  show Calls _ _ #[.agg #[.bool vl, .bool vh, .slice a1 n1 k1, .slice a2 n2 k2, .slice a3 ks.length k3], .int .i64 m] _ _
  go_enter Tryz.func7, Tryz.ntmps7
  go_wp2_with fail
  go_ret
  exact ⟨by rw [HF.out]; rfl, au⟩
 by_cases h3 : 5000 < n1
 ·have h3' : (5000 : Int) < n1 := by omega
  have HF : Hid ((Sx.mk vl vh hi da ks).great m = true) := I5 (fz (by rw [eL]; have e1 := ep.out; have e2 := iu.out; simp; omega))
  show Calls _ _ #[.agg #[.bool vl, .bool vh, .slice a1 n1 k1, .slice a2 n2 k2, .slice a3 ks.length k3], .int .i64 m] _ _
  go_enter Tryz.func7, Tryz.ntmps7
  go_wp2_with fail
  go_ret
  exact ⟨by rw [HF.out]; rfl, au⟩
 by_cases h4 : 5000 < n2
 ·have h4' : (5000 : Int) < n2 := by omega
  have HF : Hid ((Sx.mk vl vh hi da ks).great m = true) := I5 (fz (by rw [eL]; have e1 := ep.out; have e2 := iu.out; simp; omega))
  show Calls _ _ #[.agg #[.bool vl, .bool vh, .slice a1 n1 k1, .slice a2 n2 k2, .slice a3 ks.length k3], .int .i64 m] _ _
  go_enter Tryz.func7, Tryz.ntmps7
  go_wp2_with fail
  go_ret
  exact ⟨by rw [HF.out]; rfl, au⟩
 have h1' : ¬ (60 : Int) < m := by omega
 have h2' : ¬ (700 : Int) < ks.length := by omega
 have h3' : ¬ (5000 : Int) < n1 := by omega
 have h4' : ¬ (5000 : Int) < n2 := by omega
 have HF : Hid ((Sx.mk vl vh hi da ks).wide m = Sx.wideL ks (m + 1)) := I5 (by
  have e1 := ep.out
  have e2 := iu.out
  rw [eL, decide_eq_false h1, decide_eq_false h2, decide_eq_false (show ¬ 5000 < hi.length by omega), decide_eq_false (show ¬ 5000 < da.length by omega)]
  rfl)
 show Calls _ _ #[.agg #[.bool vl, .bool vh, .slice a1 n1 k1, .slice a2 n2 k2, .slice a3 ks.length k3], .int .i64 m] _ _
 go_enter Tryz.func7, Tryz.ntmps7
 go_wp2_with fail
 go_loopw [5, 29] (fun i k wr => ∃ n : Nat, n ≤ ks.length ∧ k = .int .i64 n ∧ Sx.wideL (ks.take n) (m + 1) = false ∧ Below w.heap.size w wr ∧ Box wr w.heap.size 32 #[.bool vl, .bool vh, .slice a1 n1 k1, .slice a2 n2 k2, .slice a3 ks.length k3]) (fun _ k _ => ks.length - (intOf k).toNat)
 case atStart => exact ⟨0, Nat.zero_le _, rfl, rfl, au, cw⟩
 case round =>
  obtain ⟨n, AB, rfl, gS, hb, hx⟩ := hrel
  have HC := I5 gS
  clear c1 c2 c4 gS cw
  have c4 := hx.cell 4 rfl
  by_cases aJ : n < ks.length
  ·obtain ⟨b, o, rfl, a8⟩ := (HR.out.after hb).range aJ
   have HL := I5 a8
   have kD := (HK.out n aJ).after hb
   have HRd := I5 kD
   clear kD a8
   obtain ⟨ck, fT⟩ : ∃ ck, ck = ks[n].great (m + 1) := ⟨_, rfl⟩
   have IH2 := I5 (IH.out _ (List.getElem_mem aJ) _ (m + 1) _ HRd.out (by omega))
   rw [← fT] at IH2
   rw [uz] at fT
   have gQ := I5 fT
   clear fT
   have hm' : ((m + 1 : Nat) : Int) = (m : Int) + 1 := by omega
   rw [hm'] at IH2
   clear hm'
   cases ck with
   | true =>
    go_wp2_with (refine aY rfl _ rfl b _ rfl _ HL.out ?_)
    refine IH2.out.mono ?_
    rintro e w1 ⟨rfl, af⟩
    have HB := hb.trans (af.mono hb.size)
    go_wp2_with fail
    go_ret
    exact ⟨by rw [fz (HF.out.trans (Sx.wideL_yes (List.getElem_mem aJ) gQ.out.symm))]; rfl, HB⟩
   | false =>
    go_wp2_with (refine aY rfl _ rfl b _ rfl _ HL.out ?_)
    refine IH2.out.mono ?_
    rintro e w1 ⟨rfl, af⟩
    have HB := hb.trans (af.mono hb.size)
    have HX := hx.after af
    go_wp2_with fail
    go_roundw
    case rel => exact ⟨n + 1, by omega, by go_num, by rw [Sx.wideL_snoc ks _ n aJ, HC.out, ← gQ.out]; rfl, HB, HX⟩
    case measure => simp [intOf]; omega
  ·have ly : n = ks.length := by omega
   subst ly
   rw [List.take_length] at HC
   have HRw := I5 (pd.out.after hb)
   have HX := I5 hx
   by_cases h0 : m = 0
   ·subst h0
    go_wp2_with (refine ab rfl 32 _ rfl HX.out (by rfl) Tryz.underlying32 rfl (by kernel_rfl) ?_)
    refine (nC _ _ _ HRw.out).mono ?_
    rintro e w1 ⟨rfl, af⟩
    have HB := hb.trans (af.mono hb.size)
    go_wp2_with fail
    go_ret
    exact ⟨by rw [mr (HF.out.trans HC.out)]; rfl, HB⟩
   ·have h0' : ((m : Int) == 0) = false := by simp; omega
    go_wp2_with fail
    go_ret
    exact ⟨by rw [uy (by omega) (HF.out.trans HC.out)]; rfl, hb⟩
theorem be {P : Program} {ops : Array Oper} {W : World} {B : Nat} {Q : Act → Prop} {a : Act} {o : Oper} {rest : List Oper} (dR : Region.wanted o (yielded ops a.tmps) = true) (f : FuncId) (args : Array Value) (hr : ∀ w, (execOp a.eval o).run P w = .ok (.enter f args) w) (v : Value) (hB : B ≤ W.heap.size)
  (hc : ∀ w, Below B W w → Calls P f args w fun e w' => e = .returned v ∧ Below w.heap.size w w')
  (h : wpQuiet P ops (fun w' => Below B W w') Q rest (a.put o.dst v)) : wpQuiet P ops (fun w' => Below B W w') Q (o :: rest) a :=
 kH dR ⟨v, fun w hw => by
  unfold Oper.quietAt
  rw [hr w]
  exact ⟨rfl, (hc w hw).mono fun e w'' ⟨he, hb⟩ => ⟨he, hw.trans (hb.mono (by have := hw.size; omega))⟩⟩, h⟩
theorem RowAt.rangeA {w : World} {b o n c : Nat} {K : Nat → SV} (h : RowAt w (some ⟨b, o, none⟩) n c K) {i : Nat} (hi : i < n) : w.rangeAt b (o + i * 5) (K i).cells.toList := by
 obtain ⟨b', o', e, h⟩ := h.range hi
 cases e
 exact h
theorem RowAt.rangeB {w : World} {a : Option Addr} {n c : Nat} {K : Nat → SV} (h : RowAt w a n c K) {i : Nat} (hi : i < n) : ∃ b o, a = some ⟨b, o, none⟩ ∧ True := by
 obtain ⟨b', o', e, h⟩ := h.range hi
 exact ⟨b', o', e, trivial⟩
mutual
def Sx.same : Sx → Sx → Bool
 | .mk l h hi da ks, .mk l2 h2 o5 BH ks2 => l == l2 && h == h2 && hi == o5 && da == BH && Sx.sameL ks ks2
def Sx.sameL : List Sx → List Sx → Bool
 | [], [] => true
 | a :: r, b :: s => a.same b && Sx.sameL r s
 | _, _ => false
end
theorem jE (l h : Bool) (hi da : List UInt8) (ks : List Sx) (l2 h2 : Bool) (o5 BH : List UInt8) (ks2 : List Sx) : (Sx.mk l h hi da ks).same (.mk l2 h2 o5 BH ks2) = (l == l2 && h == h2 && hi == o5 && da == BH && Sx.sameL ks ks2) := by simp only [Sx.same]
theorem tL {a b : List Sx} (h : a.length ≠ b.length) : Sx.sameL a b = false := by
 induction a generalizing b with
 | nil => cases b with
  | nil => exact absurd rfl h
  | cons y s => rfl
 | cons x r ih => cases b with
  | nil => rfl
  | cons y s => simp only [Sx.sameL]; rw [ih (fun e => h (by simp [e]))]; simp
theorem qU {a b : List Sx} (k : Nat) (h : k < a.length) (h' : k < b.length) : Sx.sameL (a.take (k + 1)) (b.take (k + 1)) = (Sx.sameL (a.take k) (b.take k) && a[k].same b[k]) := by
 induction a generalizing b k with
 | nil => simp at h
 | cons x r ih =>
  cases b with
  | nil => simp at h'
  | cons y s =>
   cases k with
   | zero => simp [Sx.sameL]
   | succ k => simp only [List.take_succ_cons, Sx.sameL, List.getElem_cons_succ]; rw [ih k (by simpa using h) (by simpa using h'), Bool.and_assoc]
theorem vP {a b : List Sx} (k : Nat) (h : k < a.length) (h' : k < b.length) (hk : a[k].same b[k] = false) : Sx.sameL a b = false := by
 induction a generalizing b k with
 | nil => simp at h
 | cons x r ih =>
  cases b with
  | nil => simp at h'
  | cons y s =>
   cases k with
   | zero => simp only [List.getElem_cons_zero] at hk; simp [Sx.sameL, hk]
   | succ k => simp only [Sx.sameL, ih k (by simpa using h) (by simpa using h') (by simpa using hk), Bool.and_false]
theorem Sx.same_iff (s : Sx) : ∀ t, s.same t = true ↔ s = t := by
 induction s using Sx.ind with
 | h l hh hi da ks ih =>
  intro t
  obtain ⟨l2, h2, o5, BH, ks2⟩ := t
  rw [jE]
  have key : Sx.sameL ks ks2 = true ↔ ks = ks2 := by
   clear l hh hi da l2 h2 o5 BH
   induction ks generalizing ks2 with
   | nil => cases ks2 <;> simp [Sx.sameL]
   | cons x r ihr =>
    cases ks2 with
    | nil => simp [Sx.sameL]
    | cons y s =>
     simp only [Sx.sameL, Bool.and_eq_true, ih x List.mem_cons_self y, ihr (fun k hk => ih k (List.mem_cons_of_mem _ hk)) s, List.cons.injEq]
  simp only [Bool.and_eq_true, beq_iff_eq, key, Sx.mk.injEq]
  constructor
  ·rintro ⟨⟨⟨⟨rfl, rfl⟩, rfl⟩, rfl⟩, rfl⟩; exact ⟨rfl, rfl, rfl, rfl, rfl⟩
  ·rintro ⟨rfl, rfl, rfl, rfl, rfl⟩; exact ⟨⟨⟨⟨rfl, rfl⟩, rfl⟩, rfl⟩, rfl⟩
theorem Sx.same_refl (s : Sx) : s.same s = true := (s.same_iff s).2 rfl
end Go.Proofs.YtmmkaclmgnpplaaGreatDoor

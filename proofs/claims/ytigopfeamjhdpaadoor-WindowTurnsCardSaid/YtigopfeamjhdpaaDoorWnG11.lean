/- The document's Is and Head; 'awake'. Is a second in a window? The program's Cancels: what it computes. The document's Cancels and Great: what they compute. The document's Great; the walk of CrlCancels. The document's May of principals and of windows. Windows and lists of canceled ones in plain words: the text of a date, the trees that are put, what the document reads. Windows put: the program's end, Put. Lists with a row of the call's own; what is canceled, put: the program's sums. Lists of canceled ones in plain words: the tree that is put, what the program takes out of a value, what the document reads. The document's principals: plain, Get, Same. -/
import Derived.Test.YtigopfeamjhdpaaDoorWnG10
namespace Go.Proofs.YtigopfeamjhdpaaDoor
open Go.RowKit
set_option linter.unusedSimpArgs false
set_option linter.unusedVariables false

section
variable {P : Program} {ops : Array Oper}
theorem wpList_load_midW {rest : List Oper} {op : Oper} {a : Act} {w : World} {Q : Exit → Act → World → Prop} (hgd : Region.wanted op (yielded ops a.tmps) = true) (ty : TypeId) (x : Operand) (ho : op.op = .load ty x)
    (b o : Nat) (hx : a.eval x = .pointer (some ⟨b, o, none⟩)) (cs : List Value) (d : TypeDesc) (hc : w.rangeAt b o cs)
    (hu : P.underlying ty = some d) (hd : d.isRow = true) (hi : (P.info? ty).map (·.size) = some cs.length)
    (h : wpList P ops Q rest (a.put op.dst (.agg cs.toArray)) w) : wpList P ops Q (op :: rest) a w :=
  wpList_want hgd fun _ hK => wp_load_mid ty x ho b o hx cs d hc hu hd hi (hK _ _ h)
end
/-- is a value an atom of these bytes? does a list begin with one? -/
def isB (s : Sx) (t : ByteArray) : Bool := !s.l && (!s.h && (s.da == t.toList))
def headB (s : Sx) (t : ByteArray) : Bool := s.l && (match s.ks with | [] => false | k :: _ => isB k t)

set_option maxHeartbeats 4000000 in
set_option maxRecDepth 100000 in
theorem is_any_XCr5 (s : Sx) (t : ByteArray) (v : SV) (w : World) (hr : Rd w v s) : Calls Tryd.prog 38 #[v.val, .string t] w fun e w' => e = .returned (.bool (isB s t)) ∧ Below w.heap.size w w' := by
  obtain ⟨l, hh, hi, da, ks⟩ := s
  obtain ⟨e1, e2, _, hs, hrest⟩ := hr.parts
  obtain ⟨vl, vh, va1, vn1, vc1, va2, vn2, vc2, va3, vn3, vc3⟩ := v
  replace e1 : vl = l := e1
  replace e2 : vh = hh := e2
  subst e1 e2
  replace hs : Sl w va2 vn2 vc2 da := hs
  rw [show isB (.mk vl vh hi da ks) t = (!vl && (!vh && (da == t.toList))) from rfl]
  unfold SV.val
  have B0 : Below w.heap.size w (w.alloc (.cells #[.bool vl, .bool vh, .slice va1 vn1 vc1, .slice va2 vn2 vc2, .slice va3 vn3 vc3] 27)) := (Below.refl _ _).alloc (Nat.le_refl _) _
  have X0 := Box.new w 27 #[.bool vl, .bool vh, .slice va1 vn1 vc1, .slice va2 vn2 vc2, .slice va3 vn3 vc3]
  have hcv := conv_sl (hs.after B0)
  have x0 := X0.cell 0 rfl
  have x1 := X0.cell 1 rfl
  have x3 := X0.cell 3 rfl
  clear X0 hs hr hrest
  show Calls _ _ #[.agg #[.bool vl, .bool vh, .slice va1 vn1 vc1, .slice va2 vn2 vc2, .slice va3 vn3 vc3], _] _ _
  cases vl with
  | true =>
    go_enter Tryd.func38, Tryd.ntmps38
    go_wp2_with fail
    go_ret
    exact ⟨rfl, B0⟩
  | false =>
    cases vh with
    | true =>
      go_enter Tryd.func38, Tryd.ntmps38
      go_wp2_with fail
      go_ret
      exact ⟨rfl, B0⟩
    | false =>
      go_enter Tryd.func38, Tryd.ntmps38
      go_wp2_with fail
      go_ret
      exact ⟨by simp, B0⟩

set_option maxHeartbeats 4000000 in
set_option maxRecDepth 100000 in
theorem head_any (s : Sx) (t : ByteArray) (v : SV) (w : World) (hr : Rd w v s) : Calls Tryd.prog 25 #[v.val, .string t] w fun e w' => e = .returned (.bool (headB s t)) ∧ Below w.heap.size w w' := by
  obtain ⟨l, hh, hi, da, ks⟩ := s
  obtain ⟨e1, e2, _, _, hn, hnc, hcm, K, hrow, hk⟩ := hr.parts
  obtain ⟨vl, vh, va1, vn1, vc1, va2, vn2, vc2, va3, vn3, vc3⟩ := v
  replace e1 : vl = l := e1
  subst e1
  replace hn : vn3 = ks.length := hn
  replace hnc : vn3 ≤ vc3 := hnc
  replace hcm : vc3 ≤ maxLen := hcm
  unfold maxLen at hcm
  replace hk : ∀ i (hi : i < ks.length), Rd w (K i) ks[i] := hk
  replace hrow : RowAt w va3 vn3 vc3 K := hrow
  unfold SV.val
  have B0 : Below w.heap.size w (w.alloc (.cells #[.bool vl, .bool vh, .slice va1 vn1 vc1, .slice va2 vn2 vc2, .slice va3 vn3 vc3] 27)) := (Below.refl _ _).alloc (Nat.le_refl _) _
  have X0 := Box.new w 27 #[.bool vl, .bool vh, .slice va1 vn1 vc1, .slice va2 vn2 vc2, .slice va3 vn3 vc3]
  have x0 := X0.cell 0 rfl
  have x4 := X0.cell 4 rfl
  show Calls _ _ #[.agg #[.bool vl, .bool vh, .slice va1 vn1 vc1, .slice va2 vn2 vc2, .slice va3 vn3 vc3], _] _ _
  have HN := Lib.hid hn
  clear X0 hr e2 hn
  cases vl with
  | false =>
    rw [show headB (.mk false hh hi da ks) t = false from rfl]
    go_enter Tryd.func25, Tryd.ntmps25
    go_wp2_with fail
    go_ret
    exact ⟨rfl, B0⟩
  | true =>
    cases ks with
    | nil =>
      rw [show headB (.mk true hh hi da []) t = false from rfl]
      have hn : vn3 = 0 := HN.out
      subst hn
      go_enter Tryd.func25, Tryd.ntmps25
      go_wp2_with fail
      go_ret
      exact ⟨rfl, B0⟩
    | cons k ks =>
      rw [show headB (.mk true hh hi da (k :: ks)) t = isB k t from rfl]
      have C := Lib.hid (fun w' h => is_any_XCr5 k t (K 0) w' h)
      obtain ⟨r, hr⟩ : ∃ r, r = isB k t := ⟨_, rfl⟩
      rw [← hr]
      simp only [← hr] at C
      clear hr
      have hlt : 0 < vn3 := by rw [HN.out]; simp
      obtain ⟨b, o, rfl, hld⟩ := (hrow.after B0).range hlt
      rw [Nat.zero_mul, Nat.add_zero] at hld
      have HL := Lib.hid hld
      have HK := Lib.hid ((hk 0 (by simp)).after B0)
      have HLT := Lib.hid hlt
      have hz : (0 : Int) < vn3 := by omega
      clear hld hrow hk
      go_enter Tryd.func25, Tryd.ntmps25
      go_wp2_with (refine wpList_load_midW rfl 27 _ rfl b _ rfl _ _ HL.out Tryd.underlying27 rfl (by kernel_rfl) ?_)
      refine (C.out _ HK.out).mono ?_
      rintro e w1 ⟨rfl, hb1⟩
      have B1 := B0.trans (hb1.mono B0.size)
      clear hb1 B0 HL HK C
      go_wp2_with fail
      go_ret
      exact ⟨by simp, B1⟩

theorem head_crl : headB (crl0S (List.replicate 32 0)) ⟨#[99, 114, 108]⟩ = true := by
  have h : (⟨#[99, 114, 108]⟩ : ByteArray).toList = [99, 114, 108] := by simp
  show (true && (!false && (!false && ([99, 114, 108] == ByteArray.toList ⟨#[99, 114, 108]⟩)))) = true
  rw [h]
  rfl
theorem head_can : headB (.mk true false [] [] [(.mk false false [] [99, 97, 110, 99, 101, 108, 101, 100] [])]) ⟨#[99, 97, 110, 99, 101, 108, 101, 100]⟩ = true := by
  have h : (⟨#[99, 97, 110, 99, 101, 108, 101, 100]⟩ : ByteArray).toList = [99, 97, 110, 99, 101, 108, 101, 100] := by simp
  show (true && (!false && (!false && ([99, 97, 110, 99, 101, 108, 101, 100] == ByteArray.toList ⟨#[99, 97, 110, 99, 101, 108, 101, 100]⟩)))) = true
  rw [h]
  rfl
theorem noughts_get (i : Nat) : (List.replicate 32 (0 : UInt8)).getD i 0 = 0 := by rw [List.getD_eq_getElem?_getD, List.getElem?_replicate]; split <;> rfl

/-- 32 noughts, made -/
theorem make32 (w : World) : ∃ w', (Instr.makeSlice 24 (.int .i64 32) (.int .i64 32)).run Tryd.prog w = .ok (.slice (some ⟨w.heap.size, 0, none⟩) 32 32) w' ∧ Sl w' (some ⟨w.heap.size, 0, none⟩) 32 32 (List.replicate 32 0) ∧ Below w.heap.size w w' := by
  obtain ⟨i0, hi, hi2⟩ := Option.map_eq_some_iff.1 (show (Tryd.prog.info? 5).map (fun i => (i.zero, i.size, i.bytes)) = some (some (.int .u8 0), 1, 1) by kernel_rfl)
  simp only [Prod.mk.injEq] at hi2
  obtain ⟨hz0, hz1, hz2⟩ := hi2
  refine ⟨_, run_makeSlice w 24 5 i0 (.int .u8 0) Tryd.underlying24 hi hz0 .i64 .i64 32 32 (by omega) (by omega) (by rw [hz1]; decide) (by rw [hz2]; decide) (by omega), ?_, (Below.refl _ _).alloc (Nat.le_refl _) _⟩
  rw [hz1]
  have X := Box.new w 5 (madeCells (Value.int .u8 0).cells ((32 : Int).toNat * 1))
  refine ⟨rfl, by decide, by decide, (fun h => by cases h), .inr ⟨_, 0, rfl, fun i hi => ?_⟩⟩
  rw [Nat.zero_add]
  refine X.cell i ?_
  have : ∀ i, i < 32 → (madeCells (Value.int .u8 0).cells ((32 : Int).toNat * 1))[i]? = some (.int .u8 (((List.replicate 32 (0 : UInt8)).getD i 0).toNat : Int)) := by
    intro i hi
    rw [noughts_get]
    simp [madeCells, Value.cells, hi, Nat.mod_one]
  exact this i hi

end Go.Proofs.YtigopfeamjhdpaaDoor
namespace Go.Proofs.YtigopfeamjhdpaaDoor
open Go.RowKit
set_option linter.unusedSimpArgs false
set_option linter.unusedVariables false

def winIn (p : Bool) (f : Int) (q : Bool) (u t : Int) : Bool := (!p || decide (f ≤ t)) && (!q || decide (t ≤ u))

set_option maxHeartbeats 4000000 in
set_option maxRecDepth 100000 in
theorem winIn_any (p : Bool) (f : Int) (q : Bool) (u t : Int) (w : World) : Calls Tryd.prog 17 #[.agg #[.bool p, .int .i64 f, .bool q, .int .i64 u], .int .i64 t] w fun e w' => e = .returned (.bool (winIn p f q u t)) ∧ Below w.heap.size w w' := by
  have B0 : Below w.heap.size w (w.alloc (.cells #[.bool p, .int .i64 f, .bool q, .int .i64 u] 23)) := (Below.refl _ _).alloc (Nat.le_refl _) _
  have X0 := Box.new w 23 #[.bool p, .int .i64 f, .bool q, .int .i64 u]
  have x0 := X0.cell 0 rfl
  have x1 := X0.cell 1 rfl
  have x2 := X0.cell 2 rfl
  have x3 := X0.cell 3 rfl
  clear X0
  generalize hr : winIn p f q u t = r
  unfold winIn at hr
  have HR := Lib.hid hr
  clear hr
  cases p with
  | false =>
    cases q with
    | false =>
      go_enter Tryd.func17, Tryd.ntmps17
      go_wp2_with fail
      go_ret
      exact ⟨by rw [← HR.out]; simp <;> omega, B0⟩
    | true =>
      by_cases h2 : t ≤ u
      · go_enter Tryd.func17, Tryd.ntmps17
        go_wp2_with fail
        go_ret
        exact ⟨by rw [← HR.out]; simp <;> omega, B0⟩
      · go_enter Tryd.func17, Tryd.ntmps17
        go_wp2_with fail
        go_ret
        exact ⟨by rw [← HR.out]; simp <;> omega, B0⟩
  | true =>
    cases q with
    | false =>
      by_cases h1 : f ≤ t
      · go_enter Tryd.func17, Tryd.ntmps17
        go_wp2_with fail
        go_ret
        exact ⟨by rw [← HR.out]; simp <;> omega, B0⟩
      · go_enter Tryd.func17, Tryd.ntmps17
        go_wp2_with fail
        go_ret
        exact ⟨by rw [← HR.out]; simp <;> omega, B0⟩
    | true =>
      by_cases h1 : f ≤ t
      · by_cases h2 : t ≤ u
        · go_enter Tryd.func17, Tryd.ntmps17
          go_wp2_with fail
          go_ret
          exact ⟨by rw [← HR.out]; simp <;> omega, B0⟩
        · go_enter Tryd.func17, Tryd.ntmps17
          go_wp2_with fail
          go_ret
          exact ⟨by rw [← HR.out]; simp <;> omega, B0⟩
      · by_cases h2 : t ≤ u
        · go_enter Tryd.func17, Tryd.ntmps17
          go_wp2_with fail
          go_ret
          exact ⟨by rw [← HR.out]; simp <;> omega, B0⟩
        · go_enter Tryd.func17, Tryd.ntmps17
          go_wp2_with fail
          go_ret
          exact ⟨by rw [← HR.out]; simp <;> omega, B0⟩

set_option maxHeartbeats 4000000 in
set_option maxRecDepth 100000 in
theorem refIn_any (p : Bool) (f : Int) (q : Bool) (u t : Int) (w : World) : Calls Tryd.prog 18 #[.agg #[.bool p, .int .i64 f, .bool q, .int .i64 u], .int .i64 t] w fun e w' => e = .returned (.bool (winIn p f q u t)) ∧ Below w.heap.size w w' := by
  have B0 : Below w.heap.size w (w.alloc (.cells #[.bool p, .int .i64 f, .bool q, .int .i64 u] 23)) := (Below.refl _ _).alloc (Nat.le_refl _) _
  have X0 := Box.new w 23 #[.bool p, .int .i64 f, .bool q, .int .i64 u]
  have x0 := X0.cell 0 rfl
  have x1 := X0.cell 1 rfl
  have x2 := X0.cell 2 rfl
  have x3 := X0.cell 3 rfl
  clear X0
  generalize hr : winIn p f q u t = r
  unfold winIn at hr
  have HR := Lib.hid hr
  clear hr
  cases p with
  | false =>
    cases q with
    | false =>
      go_enter Tryd.func18, Tryd.ntmps18
      go_wp2_with fail
      go_ret
      exact ⟨by rw [← HR.out]; simp <;> omega, B0⟩
    | true =>
      by_cases h2 : t ≤ u
      · go_enter Tryd.func18, Tryd.ntmps18
        go_wp2_with fail
        go_ret
        exact ⟨by rw [← HR.out]; simp <;> omega, B0⟩
      · go_enter Tryd.func18, Tryd.ntmps18
        go_wp2_with fail
        go_ret
        exact ⟨by rw [← HR.out]; simp <;> omega, B0⟩
  | true =>
    cases q with
    | false =>
      by_cases h1 : f ≤ t
      · go_enter Tryd.func18, Tryd.ntmps18
        go_wp2_with fail
        go_ret
        exact ⟨by rw [← HR.out]; simp <;> omega, B0⟩
      · go_enter Tryd.func18, Tryd.ntmps18
        go_wp2_with fail
        go_ret
        exact ⟨by rw [← HR.out]; simp <;> omega, B0⟩
    | true =>
      by_cases h1 : f ≤ t
      · by_cases h2 : t ≤ u
        · go_enter Tryd.func18, Tryd.ntmps18
          go_wp2_with fail
          go_ret
          exact ⟨by rw [← HR.out]; simp <;> omega, B0⟩
        · go_enter Tryd.func18, Tryd.ntmps18
          go_wp2_with fail
          go_ret
          exact ⟨by rw [← HR.out]; simp <;> omega, B0⟩
      · by_cases h2 : t ≤ u
        · go_enter Tryd.func18, Tryd.ntmps18
          go_wp2_with fail
          go_ret
          exact ⟨by rw [← HR.out]; simp <;> omega, B0⟩
        · go_enter Tryd.func18, Tryd.ntmps18
          go_wp2_with fail
          go_ret
          exact ⟨by rw [← HR.out]; simp <;> omega, B0⟩

end Go.Proofs.YtigopfeamjhdpaaDoor
namespace Go.Proofs.YtigopfeamjhdpaaDoor
open Go.RowKit
set_option linter.unusedSimpArgs false
set_option linter.unusedVariables false

theorem any_snoc (p : List UInt8 → Bool) (ls : List (List UInt8)) (k : Nat) (h : k < ls.length) : (ls.take (k + 1)).any p = ((ls.take k).any p || p ls[k]) := by
  rw [List.take_add_one, List.getElem?_eq_getElem h, List.any_append]
  simp only [Option.toList, List.any_cons, List.any_nil, Bool.or_false]
theorem any_at (p : List UInt8 → Bool) (ls : List (List UInt8)) (k : Nat) (h : k < ls.length) (hp : p ls[k] = true) : ls.any p = true := List.any_eq_true.2 ⟨_, List.getElem_mem h, hp⟩
theorem RowS.cell {w : World} {a : Option Addr} {n c : Nat} {Z : Nat → S3} {ls : List (List UInt8)} (h : RowS w a n c Z ls) {i : Nat} (hi : i < n) : ∃ b o, a = some ⟨b, o, none⟩ ∧ w.cell? ⟨b, o + i, none⟩ = some (.slice (Z i).a (Z i).n (Z i).c) := by
  rcases h.2.2.2.2.1 with h4 | ⟨b, o, rfl, h4⟩
  · omega
  · exact ⟨b, o, rfl, h4 i hi⟩

def IdxP (ls : List (List UInt8)) (b : List UInt8) (w : World) (e : Ending) (w' : World) : Prop := ∃ k : Int, e = .returned (.int .i64 k) ∧ decide (0 ≤ k) = ls.any (· == b) ∧ Below w.heap.size w w'

def canB (ls : List (List UInt8)) (b : List UInt8) (p : Bool) (f : Int) (q : Bool) (u t : Int) : Bool := winIn p f q u t && ls.any (· == b)

end Go.Proofs.YtigopfeamjhdpaaDoor
namespace Go.Proofs.YtigopfeamjhdpaaDoor
open Go.RowKit
set_option linter.unusedSimpArgs false
set_option linter.unusedVariables false

end Go.Proofs.YtigopfeamjhdpaaDoor
namespace Go.Proofs.YtigopfeamjhdpaaDoor
open Go.RowKit
set_option linter.unusedSimpArgs false
set_option linter.unusedVariables false

section
variable {P : Program} {ops : Array Oper} {W : World} {B : Nat}
theorem wpQ_callB {Q : Act → Prop} {a : Act} {o : Oper} {rest : List Oper} (hgd : Region.wanted o (yielded ops a.tmps) = true) (f : FuncId) (args : Array Value) (hr : ∀ w, (execOp a.eval o).run P w = .ok (.enter f args) w) (v : Value) (hB : B ≤ W.heap.size)
    (hc : ∀ w, Below B W w → Calls P f args w fun e w' => e = .returned v ∧ Below w.heap.size w w')
    (h : wpQuiet P ops (fun w' => Below B W w') Q rest (a.put o.dst v)) : wpQuiet P ops (fun w' => Below B W w') Q (o :: rest) a :=
  wpQ_plain hgd ⟨v, fun w hw => by
    unfold Oper.quietAt
    rw [hr w]
    exact ⟨rfl, (hc w hw).mono fun e w'' ⟨he, hb⟩ => ⟨he, hw.trans (hb.mono (by have := hw.size; omega))⟩⟩, h⟩
end
def greatC (m n : Nat) (ls : List (List UInt8)) : Bool := decide (200 < m) || (decide (40 < n) || ls.any (fun l => decide (200 < l.length)))

end Go.Proofs.YtigopfeamjhdpaaDoor
namespace Go.Proofs.YtigopfeamjhdpaaDoor
open Go.RowKit
set_option linter.unusedSimpArgs false
set_option linter.unusedVariables false

set_option maxHeartbeats 8000000 in
set_option maxRecDepth 100000 in
theorem refWinMay_any (p : Bool) (f : Int) (q : Bool) (u : Int) (w : World) : Calls Tryd.prog 8 #[.agg #[.bool p, .int .i64 f, .bool q, .int .i64 u]] w fun e w' => e = .returned (.bool (winMay p f q u)) ∧ Below w.heap.size w w' := by
  have B0 : Below w.heap.size w (w.alloc (.cells #[.bool p, .int .i64 f, .bool q, .int .i64 u] 23)) := (Below.refl _ _).alloc (Nat.le_refl _) _
  have X0 := Box.new w 23 #[.bool p, .int .i64 f, .bool q, .int .i64 u]
  have x0 := X0.cell 0 rfl
  have x1 := X0.cell 1 rfl
  have x2 := X0.cell 2 rfl
  have x3 := X0.cell 3 rfl
  clear X0
  generalize hr : winMay p f q u = r
  unfold winMay at hr
  have HR := Lib.hid hr
  clear hr
  cases p with
  | true =>
    by_cases g1E1 : 0 ≤ f
    · by_cases g2E1 : f < 315569520000
      · have E1 : Hid (sideB true f = true) := Lib.hid (by unfold sideB; simp only [if_true]; exact decide_eq_true (by omega))
        cases q with
        | true =>
          by_cases g1E2 : 0 ≤ u
          · by_cases g2E2 : u < 315569520000
            · have E2 : Hid (sideB true u = true) := Lib.hid (by unfold sideB; simp only [if_true]; exact decide_eq_true (by omega))
              go_enter Tryd.func8, Tryd.ntmps8
              go_wp2_with fail
              go_ret
              exact ⟨by rw [← HR.out]; simp only [E1.out, E2.out]; first | rfl | simp, B0⟩
            · have E2 : Hid (sideB true u = false) := Lib.hid (by unfold sideB; simp only [if_true]; exact decide_eq_false (by omega))
              go_enter Tryd.func8, Tryd.ntmps8
              go_wp2_with fail
              go_ret
              exact ⟨by rw [← HR.out]; simp only [E1.out, E2.out]; first | rfl | simp, B0⟩
          · have E2 : Hid (sideB true u = false) := Lib.hid (by unfold sideB; simp only [if_true]; exact decide_eq_false (by omega))
            go_enter Tryd.func8, Tryd.ntmps8
            go_wp2_with fail
            go_ret
            exact ⟨by rw [← HR.out]; simp only [E1.out, E2.out]; first | rfl | simp, B0⟩
        | false =>
          by_cases g3E2 : u = 0
          · subst g3E2
            have E2 : Hid (sideB false 0 = true) := Lib.hid rfl
            go_enter Tryd.func8, Tryd.ntmps8
            go_wp2_with fail
            go_ret
            exact ⟨by rw [← HR.out]; simp only [E1.out, E2.out]; first | rfl | simp, B0⟩
          · have E2 : Hid (sideB false u = false) := Lib.hid (by unfold sideB; simp [g3E2])
            have g4E2 : (u == 0) = false := by simp [g3E2]
            go_enter Tryd.func8, Tryd.ntmps8
            go_wp2_with fail
            go_ret
            exact ⟨by rw [← HR.out]; simp only [E1.out, E2.out]; first | rfl | simp, B0⟩
      · have E1 : Hid (sideB true f = false) := Lib.hid (by unfold sideB; simp only [if_true]; exact decide_eq_false (by omega))
        cases q with
        | true =>
          by_cases g1E2 : 0 ≤ u
          · by_cases g2E2 : u < 315569520000
            · have E2 : Hid (sideB true u = true) := Lib.hid (by unfold sideB; simp only [if_true]; exact decide_eq_true (by omega))
              go_enter Tryd.func8, Tryd.ntmps8
              go_wp2_with fail
              go_ret
              exact ⟨by rw [← HR.out]; simp only [E1.out, E2.out]; first | rfl | simp, B0⟩
            · have E2 : Hid (sideB true u = false) := Lib.hid (by unfold sideB; simp only [if_true]; exact decide_eq_false (by omega))
              go_enter Tryd.func8, Tryd.ntmps8
              go_wp2_with fail
              go_ret
              exact ⟨by rw [← HR.out]; simp only [E1.out, E2.out]; first | rfl | simp, B0⟩
          · have E2 : Hid (sideB true u = false) := Lib.hid (by unfold sideB; simp only [if_true]; exact decide_eq_false (by omega))
            go_enter Tryd.func8, Tryd.ntmps8
            go_wp2_with fail
            go_ret
            exact ⟨by rw [← HR.out]; simp only [E1.out, E2.out]; first | rfl | simp, B0⟩
        | false =>
          by_cases g3E2 : u = 0
          · subst g3E2
            have E2 : Hid (sideB false 0 = true) := Lib.hid rfl
            go_enter Tryd.func8, Tryd.ntmps8
            go_wp2_with fail
            go_ret
            exact ⟨by rw [← HR.out]; simp only [E1.out, E2.out]; first | rfl | simp, B0⟩
          · have E2 : Hid (sideB false u = false) := Lib.hid (by unfold sideB; simp [g3E2])
            have g4E2 : (u == 0) = false := by simp [g3E2]
            go_enter Tryd.func8, Tryd.ntmps8
            go_wp2_with fail
            go_ret
            exact ⟨by rw [← HR.out]; simp only [E1.out, E2.out]; first | rfl | simp, B0⟩
    · have E1 : Hid (sideB true f = false) := Lib.hid (by unfold sideB; simp only [if_true]; exact decide_eq_false (by omega))
      cases q with
      | true =>
        by_cases g1E2 : 0 ≤ u
        · by_cases g2E2 : u < 315569520000
          · have E2 : Hid (sideB true u = true) := Lib.hid (by unfold sideB; simp only [if_true]; exact decide_eq_true (by omega))
            go_enter Tryd.func8, Tryd.ntmps8
            go_wp2_with fail
            go_ret
            exact ⟨by rw [← HR.out]; simp only [E1.out, E2.out]; first | rfl | simp, B0⟩
          · have E2 : Hid (sideB true u = false) := Lib.hid (by unfold sideB; simp only [if_true]; exact decide_eq_false (by omega))
            go_enter Tryd.func8, Tryd.ntmps8
            go_wp2_with fail
            go_ret
            exact ⟨by rw [← HR.out]; simp only [E1.out, E2.out]; first | rfl | simp, B0⟩
        · have E2 : Hid (sideB true u = false) := Lib.hid (by unfold sideB; simp only [if_true]; exact decide_eq_false (by omega))
          go_enter Tryd.func8, Tryd.ntmps8
          go_wp2_with fail
          go_ret
          exact ⟨by rw [← HR.out]; simp only [E1.out, E2.out]; first | rfl | simp, B0⟩
      | false =>
        by_cases g3E2 : u = 0
        · subst g3E2
          have E2 : Hid (sideB false 0 = true) := Lib.hid rfl
          go_enter Tryd.func8, Tryd.ntmps8
          go_wp2_with fail
          go_ret
          exact ⟨by rw [← HR.out]; simp only [E1.out, E2.out]; first | rfl | simp, B0⟩
        · have E2 : Hid (sideB false u = false) := Lib.hid (by unfold sideB; simp [g3E2])
          have g4E2 : (u == 0) = false := by simp [g3E2]
          go_enter Tryd.func8, Tryd.ntmps8
          go_wp2_with fail
          go_ret
          exact ⟨by rw [← HR.out]; simp only [E1.out, E2.out]; first | rfl | simp, B0⟩
  | false =>
    by_cases g3E1 : f = 0
    · subst g3E1
      have E1 : Hid (sideB false 0 = true) := Lib.hid rfl
      cases q with
      | true =>
        by_cases g1E2 : 0 ≤ u
        · by_cases g2E2 : u < 315569520000
          · have E2 : Hid (sideB true u = true) := Lib.hid (by unfold sideB; simp only [if_true]; exact decide_eq_true (by omega))
            go_enter Tryd.func8, Tryd.ntmps8
            go_wp2_with fail
            go_ret
            exact ⟨by rw [← HR.out]; simp only [E1.out, E2.out]; first | rfl | simp, B0⟩
          · have E2 : Hid (sideB true u = false) := Lib.hid (by unfold sideB; simp only [if_true]; exact decide_eq_false (by omega))
            go_enter Tryd.func8, Tryd.ntmps8
            go_wp2_with fail
            go_ret
            exact ⟨by rw [← HR.out]; simp only [E1.out, E2.out]; first | rfl | simp, B0⟩
        · have E2 : Hid (sideB true u = false) := Lib.hid (by unfold sideB; simp only [if_true]; exact decide_eq_false (by omega))
          go_enter Tryd.func8, Tryd.ntmps8
          go_wp2_with fail
          go_ret
          exact ⟨by rw [← HR.out]; simp only [E1.out, E2.out]; first | rfl | simp, B0⟩
      | false =>
        by_cases g3E2 : u = 0
        · subst g3E2
          have E2 : Hid (sideB false 0 = true) := Lib.hid rfl
          go_enter Tryd.func8, Tryd.ntmps8
          go_wp2_with fail
          go_ret
          exact ⟨by rw [← HR.out]; simp only [E1.out, E2.out]; first | rfl | simp, B0⟩
        · have E2 : Hid (sideB false u = false) := Lib.hid (by unfold sideB; simp [g3E2])
          have g4E2 : (u == 0) = false := by simp [g3E2]
          go_enter Tryd.func8, Tryd.ntmps8
          go_wp2_with fail
          go_ret
          exact ⟨by rw [← HR.out]; simp only [E1.out, E2.out]; first | rfl | simp, B0⟩
    · have E1 : Hid (sideB false f = false) := Lib.hid (by unfold sideB; simp [g3E1])
      have g4E1 : (f == 0) = false := by simp [g3E1]
      cases q with
      | true =>
        by_cases g1E2 : 0 ≤ u
        · by_cases g2E2 : u < 315569520000
          · have E2 : Hid (sideB true u = true) := Lib.hid (by unfold sideB; simp only [if_true]; exact decide_eq_true (by omega))
            go_enter Tryd.func8, Tryd.ntmps8
            go_wp2_with fail
            go_ret
            exact ⟨by rw [← HR.out]; simp only [E1.out, E2.out]; first | rfl | simp, B0⟩
          · have E2 : Hid (sideB true u = false) := Lib.hid (by unfold sideB; simp only [if_true]; exact decide_eq_false (by omega))
            go_enter Tryd.func8, Tryd.ntmps8
            go_wp2_with fail
            go_ret
            exact ⟨by rw [← HR.out]; simp only [E1.out, E2.out]; first | rfl | simp, B0⟩
        · have E2 : Hid (sideB true u = false) := Lib.hid (by unfold sideB; simp only [if_true]; exact decide_eq_false (by omega))
          go_enter Tryd.func8, Tryd.ntmps8
          go_wp2_with fail
          go_ret
          exact ⟨by rw [← HR.out]; simp only [E1.out, E2.out]; first | rfl | simp, B0⟩
      | false =>
        by_cases g3E2 : u = 0
        · subst g3E2
          have E2 : Hid (sideB false 0 = true) := Lib.hid rfl
          go_enter Tryd.func8, Tryd.ntmps8
          go_wp2_with fail
          go_ret
          exact ⟨by rw [← HR.out]; simp only [E1.out, E2.out]; first | rfl | simp, B0⟩
        · have E2 : Hid (sideB false u = false) := Lib.hid (by unfold sideB; simp [g3E2])
          have g4E2 : (u == 0) = false := by simp [g3E2]
          go_enter Tryd.func8, Tryd.ntmps8
          go_wp2_with fail
          go_ret
          exact ⟨by rw [← HR.out]; simp only [E1.out, E2.out]; first | rfl | simp, B0⟩

end Go.Proofs.YtigopfeamjhdpaaDoor
namespace Go.Proofs.YtigopfeamjhdpaaDoor
open Go.RowKit
set_option linter.unusedSimpArgs false
set_option linter.unusedVariables false

theorem year_of (t : Int) (h0 : 0 ≤ t) : ∃ y : Nat, dby y ≤ t ∧ t < dby ((y : Int) + 1) := by
  have : ∀ k : Nat, t < dby k → ∃ y : Nat, dby y ≤ t ∧ t < dby ((y : Int) + 1) := by
    intro k
    induction k with
    | zero => intro h; rw [show ((0 : Nat) : Int) = 0 from rfl, dby_zero] at h; omega
    | succ k ih =>
      intro h
      by_cases h' : t < dby k
      · exact ih h'
      · exact ⟨k, by omega, by simpa using h⟩
  refine this (t.toNat + 1) ?_
  unfold dby
  omega
theorem month_of (y x : Int) (h0 : 0 ≤ x) (h : x < cum y 13) : ∃ m : Nat, 1 ≤ m ∧ m ≤ 12 ∧ cum y m ≤ x ∧ x < cum y (m + 1) := by
  have : ∀ k : Nat, 1 ≤ k → k ≤ 13 → x < cum y k → ∃ m : Nat, 1 ≤ m ∧ m ≤ 12 ∧ cum y m ≤ x ∧ x < cum y (m + 1) := by
    intro k
    induction k with
    | zero => intro h; omega
    | succ k ih =>
      intro h1 h2 h3
      by_cases hk : k = 0
      · subst hk
        rw [show cum y (0 + 1) = 0 from rfl] at h3
        omega
      · by_cases h' : x < cum y k
        · exact ih (by omega) (by omega) h'
        · exact ⟨k, by omega, by omega, by omega, h3⟩
  exact this 13 (by omega) (by omega) h
/-- each number within the bounds has a date -/
theorem date_there (n : Int) (h0 : 0 ≤ n) (h1 : n < 315569520000) : ∃ l, dateOk l = true ∧ dateV l = n := by
  obtain ⟨y, hy1, hy2⟩ := year_of (n / 86400) (by omega)
  have hd := dby_succ y
  obtain ⟨m, hm1, hm2, hm3, hm4⟩ := month_of y (n / 86400 - dby y) (by omega) (by rw [cum_13]; omega)
  rw [cum_succ _ _ hm1] at hm4
  have hy : y ≤ 9999 := by
    by_cases h : y ≤ 9999
    · exact h
    · have := dby_mono 10000 y (by omega)
      rw [dby_max] at this
      omega
  have hF : Fld (fmtD y m (n / 86400 - dby y - cum y m + 1).toNat (n % 86400).toNat) y m (n / 86400 - dby y - cum y m + 1).toNat (n % 86400).toNat :=
    ⟨rfl, hy, hm1, hm2, by omega, by omega, by omega⟩
  obtain ⟨e1, e2⟩ := date_fmt _ _ _ _ hF
  refine ⟨_, e1, ?_⟩
  unfold dateV
  rw [if_pos e1, e2]
  omega
theorem date_one {l l' : List UInt8} (h : dateOk l = true) (h' : dateOk l' = true) (e : dateV l = dateV l') : l = l' := by
  obtain ⟨y, m, d, r, hF, e1⟩ := date_of l h
  obtain ⟨y', m', d', r', hF', e1'⟩ := date_of l' h'
  obtain ⟨rfl, rfl, rfl, rfl⟩ := numD_inj l l' y m d r y' m' d' r' hF hF' (by unfold numD; rw [← e1, ← e1', e])
  rw [hF.1, hF'.1]
theorem dateV_range {l : List UInt8} (h : dateOk l = true) : 0 ≤ dateV l ∧ dateV l < 315569520000 := by
  obtain ⟨y, m, d, r, hF, e1⟩ := date_of l h
  obtain ⟨_, h1, h2, h3, h4, h5, h6⟩ := hF
  have hb := dby_bd y (by omega) (by omega)
  have hc := cum_bd y m
  have hs := dby_succ y
  have hm := dby_mono ((y : Int) + 1) 10000 (by omega)
  rw [dby_max] at hm
  have h13 : cum y m + dim y m ≤ 365 + lp y := by
    rcases cum_le y m (by omega) with h | h
    · rw [if_neg (by omega)] at h
      exact h
    · omega
  omega
/-- the text of a number's date -/
noncomputable def dateL (n : Int) : List UInt8 := open Classical in if h : ∃ l, dateOk l = true ∧ dateV l = n then h.choose else []
theorem dateL_ok (n : Int) (h0 : 0 ≤ n) (h1 : n < 315569520000) : dateOk (dateL n) = true ∧ dateV (dateL n) = n := by
  have h := date_there n h0 h1
  unfold dateL
  rw [dif_pos h]
  exact h.choose_spec
theorem dateL_of {l : List UInt8} (h : dateOk l = true) : dateL (dateV l) = l := by
  have hr := dateV_range h
  have := dateL_ok (dateV l) hr.1 hr.2
  exact date_one this.1 h this.2
theorem dateL_len (n : Int) (h0 : 0 ≤ n) (h1 : n < 315569520000) : (dateL n).length = 19 := by
  have := (dateL_ok n h0 h1).1
  by_cases h : (dateL n).length = 19
  · exact h
  · rw [dateOk_len _ h] at this
    cases this

/-- an atom; a list -/
def at1 (l : List UInt8) : Sx := .mk false false [] l []
def li (ks : List Sx) : Sx := .mk true false [] [] ks
def atomB (k : Sx) (l : List UInt8) : Bool := !k.l && (!k.h && (k.da == l))
def headL (s : Sx) (l : List UInt8) : Bool := s.l && (match s.ks with | [] => false | k :: _ => atomB k l)
theorem headB_eq (s : Sx) (t : ByteArray) (l : List UInt8) (h : t.toList = l) : headB s t = headL s l := by
  subst h
  unfold headB headL
  cases s.ks <;> rfl
theorem isB_eq (s : Sx) (t : ByteArray) (l : List UInt8) (h : t.toList = l) : isB s t = atomB s l := by
  subst h
  rfl
theorem atomB_clean {k : Sx} {l : List UInt8} (hc : k.clean = true) (h : atomB k l = true) : k = at1 l := by
  obtain ⟨a, b, c, d, ks⟩ := k
  obtain ⟨h1, h2, h3⟩ := clean_parts hc
  simp only [atomB, Sx.l, Sx.h, Sx.da, Bool.and_eq_true, Bool.not_eq_true', beq_iff_eq] at h
  obtain ⟨rfl, rfl, rfl⟩ := h
  obtain ⟨rfl, h5⟩ := h2 rfl
  rw [h5 rfl]
  rfl
theorem headL_clean {s : Sx} {l : List UInt8} (hc : s.clean = true) (h : headL s l = true) : ∃ r, s = li (at1 l :: r) ∧ ∀ k ∈ r, k.clean = true := by
  obtain ⟨a, b, c, d, ks⟩ := s
  obtain ⟨h1, h2, h3⟩ := clean_parts hc
  cases ks with
  | nil => simp [headL, Sx.ks] at h
  | cons k r =>
    simp only [headL, Sx.l, Sx.ks, Bool.and_eq_true] at h
    obtain ⟨rfl, h⟩ := h
    obtain ⟨rfl, rfl, rfl⟩ := h1 rfl
    rw [atomB_clean (h3 k (by simp)) h]
    exact ⟨r, rfl, fun k hk => h3 k (by simp [hk])⟩
theorem headL_li (l : List UInt8) (r : List Sx) (l' : List UInt8) : headL (li (at1 l :: r)) l' = (l == l') := by simp [headL, li, at1, atomB, Sx.l, Sx.h, Sx.da, Sx.ks]
theorem atomB_at1 (l l' : List UInt8) : atomB (at1 l) l' = (l == l') := by simp [atomB, at1, Sx.l, Sx.h, Sx.da]

structure W4 where
  p : Bool
  f : Int
  q : Bool
  t : Int
def W4.may (x : W4) : Bool := winMay x.p x.f x.q x.t
def W4.nil : W4 := ⟨false, 0, false, 0⟩
def nbL : List UInt8 := [110, 111, 116, 45, 98, 101, 102, 111, 114, 101]
def naL : List UInt8 := [110, 111, 116, 45, 97, 102, 116, 101, 114]
def vaL : List UInt8 := [118, 97, 108, 105, 100]
noncomputable def endS (w : List UInt8) (n : Int) : Sx := li [at1 w, at1 (dateL n)]
noncomputable def winS (x : W4) : Sx := li (at1 vaL :: ((if x.p then [endS nbL x.f] else []) ++ (if x.q then [endS naL x.t] else [])))

/-- what the program takes for a window: each part of two values tells an end -/
def winStep (x : W4) (k : Sx) : W4 :=
  match k.ks with
  | [a, b] => if a.da = nbL then ⟨dateOk b.da, dateV b.da, x.q, x.t⟩ else if a.da = naL then ⟨x.p, x.f, dateOk b.da, dateV b.da⟩ else x
  | _ => x
def winFold (s : Sx) : W4 := s.ks.tail.foldl winStep W4.nil
noncomputable def winGet (s : Sx) : Option W4 := if (winFold s).may && (winS (winFold s)).same s then some (winFold s) else none

theorem winMay_iff (x : W4) : x.may = true ↔ ((x.p = true ∧ 0 ≤ x.f ∧ x.f < 315569520000) ∨ (x.p = false ∧ x.f = 0)) ∧ ((x.q = true ∧ 0 ≤ x.t ∧ x.t < 315569520000) ∨ (x.q = false ∧ x.t = 0)) := by
  obtain ⟨p, f, q, t⟩ := x
  unfold W4.may winMay sideB
  cases p <;> cases q <;> simp
theorem step_end_nb (x : W4) (n : Int) (h0 : 0 ≤ n) (h1 : n < 315569520000) : winStep x (endS nbL n) = ⟨true, n, x.q, x.t⟩ := by
  obtain ⟨e1, e2⟩ := dateL_ok n h0 h1
  simp only [winStep, endS, li, at1, Sx.ks, Sx.da, if_true, e1, e2]
theorem step_end_na (x : W4) (n : Int) (h0 : 0 ≤ n) (h1 : n < 315569520000) : winStep x (endS naL n) = ⟨x.p, x.f, true, n⟩ := by
  obtain ⟨e1, e2⟩ := dateL_ok n h0 h1
  simp only [winStep, endS, li, at1, Sx.ks, Sx.da, if_true, e1, e2]
  rw [if_neg (by decide)]
theorem winFold_winS (x : W4) (h : x.may = true) : winFold (winS x) = x := by
  have hm := (winMay_iff x).1 h
  obtain ⟨p, f, q, t⟩ := x
  dsimp only at hm
  unfold winFold winS
  simp only [li, Sx.ks, List.tail_cons]
  obtain ⟨h1, h2⟩ := hm
  rcases h1 with ⟨rfl, h1, h1'⟩ | ⟨rfl, rfl⟩ <;> rcases h2 with ⟨rfl, h2, h2'⟩ | ⟨rfl, rfl⟩ <;>
    simp [W4.nil, step_end_nb, step_end_na, *]
theorem winGet_iff (s : Sx) (x : W4) : winGet s = some x ↔ x.may = true ∧ s = winS x := by
  unfold winGet
  constructor
  · intro h
    split at h
    · rename_i hc
      rw [Bool.and_eq_true] at hc
      cases h
      exact ⟨hc.1, ((Sx.same_iff _ _).1 hc.2).symm⟩
    · cases h
  · rintro ⟨h1, rfl⟩
    rw [winFold_winS x h1, if_pos (by rw [h1, Sx.same_refl]; rfl)]
theorem winS_inj {x y : W4} (hx : x.may = true) (hy : y.may = true) (h : winS x = winS y) : x = y := by
  have h1 := (winGet_iff (winS x) x).2 ⟨hx, rfl⟩
  rw [(winGet_iff (winS x) y).2 ⟨hy, h⟩] at h1
  exact (Option.some.inj h1).symm

/-- an end, as the document reads it -/
def endB (k : Sx) (w : List UInt8) : Bool := headL k w && (match k.ks with | [_, x] => !x.l && (!x.h && dateOk x.da) | _ => false)
def endN (k : Sx) (w : List UInt8) : Int := if endB k w then (match k.ks with | [_, x] => dateV x.da | _ => 0) else 0
/-- an end that may stand ahead -/
def endTake (l : List Sx) (w : List UInt8) : Bool × Int × List Sx := match l with
  | [] => (false, 0, [])
  | k :: r => if endB k w then (true, endN k w, r) else (false, 0, k :: r)
def refWin (s : Sx) : Option W4 :=
  if headL s vaL then
    let x := endTake s.ks.tail nbL
    let y := endTake x.2.2 naL
    match y.2.2 with
    | [] => some ⟨x.1, x.2.1, y.1, y.2.1⟩
    | _ => none
  else none
theorem endB_clean {k : Sx} {w : List UInt8} (hc : k.clean = true) (h : endB k w = true) : k = endS w (endN k w) ∧ 0 ≤ endN k w ∧ endN k w < 315569520000 := by
  have h' := h
  unfold endB at h
  rw [Bool.and_eq_true] at h
  obtain ⟨r, rfl, hr⟩ := headL_clean hc h.1
  have h2 := h.2
  unfold endN
  rw [if_pos h']
  rcases r with _ | ⟨x, _ | ⟨y, r⟩⟩
  · simp [li, Sx.ks] at h2
  · simp only [li, Sx.ks, Bool.and_eq_true, Bool.not_eq_true'] at h2 ⊢
    obtain ⟨h3, h4, h5⟩ := h2
    have hx : x = at1 x.da := atomB_clean (hr x (by simp)) (by simp [atomB, h3, h4])
    refine ⟨?_, dateV_range h5⟩
    unfold endS
    rw [dateL_of h5, ← hx]
    rfl
  · simp [li, Sx.ks] at h2
theorem endB_endS (w : List UInt8) (n : Int) (h0 : 0 ≤ n) (h1 : n < 315569520000) : endB (endS w n) w = true ∧ endN (endS w n) w = n := by
  obtain ⟨e1, e2⟩ := dateL_ok n h0 h1
  have h : endB (endS w n) w = true := by
    unfold endB endS
    rw [headL_li]
    simp [li, at1, Sx.ks, Sx.l, Sx.h, Sx.da, e1]
  refine ⟨h, ?_⟩
  unfold endN
  rw [if_pos h]
  exact e2
theorem endB_not (n : Int) : endB (endS naL n) nbL = false := by
  unfold endB endS
  rw [headL_li]
  rfl
theorem refWin_iff (s : Sx) (hc : s.clean = true) (x : W4) : refWin s = some x ↔ x.may = true ∧ s = winS x := by
  constructor
  · intro h
    unfold refWin at h
    split at h
    · rename_i hh
      obtain ⟨r, rfl, hr⟩ := headL_clean hc hh
      simp only [li, Sx.ks, List.tail_cons] at h
      have key : ∀ (w : List UInt8) (l : List Sx), (∀ k ∈ l, k.clean = true) → l = (if (endTake l w).1 then [endS w (endTake l w).2.1] else []) ++ (endTake l w).2.2 ∧ (∀ k ∈ (endTake l w).2.2, k.clean = true) ∧
          (((endTake l w).1 = true ∧ 0 ≤ (endTake l w).2.1 ∧ (endTake l w).2.1 < 315569520000) ∨ ((endTake l w).1 = false ∧ (endTake l w).2.1 = 0)) := by
        intro w l hl
        cases l with
        | nil => exact ⟨rfl, (fun k hk => by cases hk), .inr ⟨rfl, rfl⟩⟩
        | cons k t =>
          unfold endTake
          by_cases hk : endB k w = true
          · obtain ⟨e1, e2, e3⟩ := endB_clean (hl k (by simp)) hk
            simp only [hk, if_true]
            exact ⟨by rw [← e1]; rfl, fun k hk => hl k (by simp [hk]), .inl ⟨by trivial, e2, e3⟩⟩
          · rw [Bool.not_eq_true] at hk
            simp only [hk, Bool.false_eq_true, if_false]
            exact ⟨rfl, hl, .inr ⟨by trivial, by trivial⟩⟩
      obtain ⟨k1, k2, k3⟩ := key nbL r hr
      obtain ⟨l1, l2, l3⟩ := key naL _ k2
      split at h
      · rename_i he
        cases h
        refine ⟨(winMay_iff _).2 ⟨k3, l3⟩, ?_⟩
        unfold winS
        dsimp only
        rw [he, List.append_nil] at l1
        rw [← l1, ← k1]
      · cases h
    · cases h
  · rintro ⟨h, rfl⟩
    have hm := (winMay_iff x).1 h
    obtain ⟨p, f, q, t⟩ := x
    dsimp only at hm
    unfold refWin
    rw [if_pos (by unfold winS; rw [headL_li]; rfl)]
    unfold winS
    simp only [li, Sx.ks, List.tail_cons]
    obtain ⟨h1, h2⟩ := hm
    rcases h1 with ⟨rfl, h1, h1'⟩ | ⟨rfl, rfl⟩ <;> rcases h2 with ⟨rfl, h2, h2'⟩ | ⟨rfl, rfl⟩
    · obtain ⟨e1, e2⟩ := endB_endS nbL f h1 h1'
      obtain ⟨e3, e4⟩ := endB_endS naL t h2 h2'
      simp [endTake, e1, e2, e3, e4]
    · obtain ⟨e1, e2⟩ := endB_endS nbL f h1 h1'
      simp [endTake, e1, e2]
    · obtain ⟨e3, e4⟩ := endB_endS naL t h2 h2'
      simp [endTake, e3, e4, endB_not]
    · rfl
/-- on values that are clean the program and the document read the same window -/
theorem win_agree (s : Sx) (hc : s.clean = true) : refWin s = winGet s := by
  cases h : refWin s with
  | none =>
    cases h' : winGet s with
    | none => rfl
    | some x => rw [(refWin_iff s hc x).2 ((winGet_iff s x).1 h')] at h; cases h
  | some x => rw [(winGet_iff s x).2 ((refWin_iff s hc x).1 h)]
end Go.Proofs.YtigopfeamjhdpaaDoor
namespace Go.Proofs.YtigopfeamjhdpaaDoor
open Go.RowKit
set_option linter.unusedSimpArgs false
set_option linter.unusedVariables false

theorem datePut_yes (n : Int) (w : World) (h0 : 0 ≤ n) (h1 : n < 315569520000) : Calls Tryd.prog 33 #[.int .i64 n] w fun e w' => e = .returned (.tuple #[.string ⟨(dateL n).toArray⟩, .bool true]) ∧ Below w.heap.size w w' := by
  refine (Put_yes n w h0 h1).mono ?_
  rintro e w1 ⟨y, m, d, r, rfl, h1, h2, h3, h4, h5, h6, h7, hb⟩
  have hF : Fld (fmtD y m d r) y m d r := ⟨rfl, h1, h2, h3, h4, h5, h6⟩
  obtain ⟨e1, e2⟩ := date_fmt y m d r hF
  have e3 : dateV (fmtD y m d r) = n := by unfold dateV; rw [if_pos e1, e2, h7]
  rw [← e3, dateL_of e1]
  exact ⟨rfl, hb⟩

/-- through blocks of the call's own, but not the row's -/
def okO (p : Nat → Prop) (v : Value) : Nat → Prop := fun b => p b ∧ v.ownBlock ≠ some b
theorem src1 (w : World) (v : SV) : Src Tryd.prog 5 25 (.slice (some ⟨w.heap.size, 0, none⟩) 1 1) 1 (newsK (fun _ => v) 1) (w.alloc (.cells v.cells 27)) := by
  refine Src.ofSlice _ Tryd.underlying25 _ 1 1 _ (newsK_len _ 1) (fun j u hu => ?_) (newsK_one _ 1)
  rw [Addr.add_mid]
  refine (Box.new w 27 v.cells).cell (0 + j) ?_
  rw [Nat.zero_add]
  simpa [newsK] using hu
theorem newsK_add (K : Nat → SV) (n : Nat) (v : SV) : newsK K n ++ newsK (fun _ => v) 1 = newsK (fun i => if i = n then v else K i) (n + 1) := by
  have e : newsK (fun i => if i = n then v else K i) n = newsK K n := newsK_congr fun i h => if_neg (by omega)
  show newsK K n ++ ([] ++ v.cells.toList) = newsK _ n ++ (if n = n then v else K n).cells.toList
  rw [e, if_pos rfl, List.nil_append]
theorem own1 (w : World) (B : Nat) (hB : B ≤ w.heap.size) (v : SV) : OwnG (w.alloc (.cells v.cells 27)) B 5 (.slice (some ⟨w.heap.size, 0, none⟩) 1 1) 1 (newsK (fun _ => v) 1) := by
  have := OwnG.new w B 5 hB v.cells 27 1 1 (Nat.le_refl _) (by unfold maxLen; omega) rfl
  rwa [show v.cells.toList.take (1 * 5) = newsK (fun _ => v) 1 from rfl] at this
theorem RdI.grew {p : Nat → Prop} {own v' : Value} {u w2 : World} {v : SV} {s : Sx} (h : RdI (okO p own) u v s) (hg : u.grownBy w2 own.ownBlock) (hw : ∀ k, v'.ownBlock = some k → own.ownBlock = some k ∨ u.heap.size ≤ k) : RdI (okO p v') w2 v s :=
  (h.there.keep (fun k hk => hg.block k hk.2 (fun e => hk.1.2 e.symm))).mono (fun k hk => ⟨hk.1.1, fun e => (hw k e).elim (fun e => hk.1.2 e) (fun e => by have := hk.2; omega)⟩)
theorem rows_more {p : Nat → Prop} {n : Nat} {own v' : Value} {u w2 : World} {K : Nat → SV} {acc : List Sx} {v : SV} {s : Sx} (hn : n = acc.length)
    (hK : ∀ i (hi : i < acc.length), RdI (okO p own) u (K i) acc[i]) (hR : RdI (okO p own) u v s)
    (hg : u.grownBy w2 own.ownBlock) (hw : ∀ k, v'.ownBlock = some k → own.ownBlock = some k ∨ u.heap.size ≤ k) :
    ∀ i (hi : i < (acc ++ [s]).length), RdI (okO p v') w2 (if i = n then v else K i) (acc ++ [s])[i] := by
  intro i hi
  by_cases hia : i = n
  · rw [if_pos hia]
    have e : (acc ++ [s])[i] = s := by
      subst hia hn
      simp
    rw [e]
    exact hR.grew hg hw
  · rw [if_neg hia]
    have hlt : i < acc.length := by simp at hi; omega
    rw [List.getElem_append_left hlt]
    exact (hK i hlt).grew hg hw

set_option maxHeartbeats 8000000 in
set_option maxRecDepth 100000 in
theorem winEnd_any (word : ByteArray) (hw : word.size ≤ 1000) (n : Int) (h0 : 0 ≤ n) (h1 : n < 315569520000) (w : World) : Calls Tryd.prog 21 #[.string word, .int .i64 n] w (ValI (fun b => w.heap.size ≤ b) (endS word.data.toList n) w) := by
  have B : Below w.heap.size w (w.alloc (.cells #[.bool false, .bool false, .slice none 0 0, .slice none 0 0, .slice none 0 0] 27)) := (Below.refl _ _).alloc (Nat.le_refl _) _
  have X : Hid (Box (w.alloc (.cells #[.bool false, .bool false, .slice none 0 0, .slice none 0 0, .slice none 0 0] 27)) w.heap.size 27 #[.bool false, .bool false, .slice none 0 0, .slice none 0 0, .slice none 0 0]) := Lib.hid (Box.new _ _ _)
  have C := Lib.hid (fun w' => datePut_yes n w' h0 h1)
  have hdl := dateL_len n h0 h1
  unfold endS
  generalize dateL n = dl at *
  go_enter Tryd.func21, Tryd.ntmps21
  go_upto_region 1 with fail
  change Code.wp _ _ _ _ (w.alloc (.cells #[.bool false, .bool false, .slice none 0 0, .slice none 0 0, .slice none 0 0] 27))
  generalize (w.alloc (.cells #[.bool false, .bool false, .slice none 0 0, .slice none 0 0, .slice none 0 0] 27)) = x0 at *
  go_wp2_with fail
  refine (C.out x0).mono ?_
  rintro e x1 ⟨rfl, bx1⟩
  replace X := Lib.hid (X.out.after bx1)
  replace B := B.trans (bx1.mono B.size)
  clear bx1
  clear C
  go_wp2_with fail
  refine (atomI_any (fun b => w.heap.size ≤ b ∧ b ≠ w.heap.size) word (by omega) x1 (fun b hb => by have := X.out.lt; omega)).mono ?_
  rintro e x2 ⟨⟨pl, ph, pa1, pn1, pc1, pa2, pn2, pc2, pa3, pn3, pc3⟩, rfl, rp, bx2⟩
  replace X := Lib.hid (X.out.after bx2)
  replace B := B.trans (bx2.mono B.size)
  clear bx2
  unfold SV.val
  replace rp := Lib.hid rp
  go_wp2_with fail
  refine (atomI_any (fun b => w.heap.size ≤ b ∧ b ≠ w.heap.size) ⟨dl.toArray⟩ (by show dl.toArray.size ≤ _; simp; omega) x2 (fun b hb => by have := X.out.lt; omega)).mono ?_
  rintro e x3 ⟨⟨ql, qh, qa1, qn1, qc1, qa2, qn2, qc2, qa3, qn3, qc3⟩, rfl, rq, bx3⟩
  replace X := Lib.hid (X.out.after bx3)
  replace rp := Lib.hid (rp.out.after bx3)
  replace B := B.trans (bx3.mono B.size)
  clear bx3
  unfold SV.val
  replace rq := Lib.hid rq
  have row := Lib.hid (row_two x3 ⟨pl, ph, pa1, pn1, pc1, pa2, pn2, pc2, pa3, pn3, pc3⟩ ⟨ql, qh, qa1, qn1, qc1, qa2, qn2, qc2, qa3, qn3, qc3⟩ 27)
  have Y := Lib.hid (Box.new x3 27 #[.bool pl, .bool ph, .slice pa1 pn1 pc1, .slice pa2 pn2 pc2, .slice pa3 pn3 pc3, .bool ql, .bool qh, .slice qa1 qn1 qc1, .slice qa2 qn2 qc2, .slice qa3 qn3 qc3])
  have ba4 : Below x3.heap.size x3 (x3.alloc (.cells #[.bool pl, .bool ph, .slice pa1 pn1 pc1, .slice pa2 pn2 pc2, .slice pa3 pn3 pc3, .bool ql, .bool qh, .slice qa1 qn1 qc1, .slice qa2 qn2 qc2, .slice qa3 qn3 qc3] 27)) := (Below.refl _ _).alloc (Nat.le_refl _) _
  replace X := Lib.hid (X.out.after ba4)
  replace rp := Lib.hid (rp.out.after ba4)
  replace rq := Lib.hid (rq.out.after ba4)
  replace B := B.trans (ba4.mono B.size)
  clear ba4
  go_wp2_with fail
  generalize (x3.alloc (.cells #[.bool pl, .bool ph, .slice pa1 pn1 pc1, .slice pa2 pn2 pc2, .slice pa3 pn3 pc3, .bool ql, .bool qh, .slice qa1 qn1 qc1, .slice qa2 qn2 qc2, .slice qa3 qn3 qc3] 27)) = x4 at *
  refine (listI_any (fun b => w.heap.size ≤ b ∧ b ≠ w.heap.size) _ 2 2 _ [at1 word.data.toList, at1 dl] x4 row.out (by omega) rfl (fun i hi => match i, hi with | 0, _ => rp.out | 1, _ => rq.out) (fun b hb => by have := X.out.lt; omega)).mono ?_
  rintro e x5 ⟨⟨ul, uh, ua1, un1, uc1, ua2, un2, uc2, ua3, un3, uc3⟩, rfl, ru, bx5⟩
  replace X := Lib.hid (X.out.after bx5)
  replace rp := Lib.hid (rp.out.after bx5)
  replace rq := Lib.hid (rq.out.after bx5)
  replace Y := Lib.hid (Y.out.after bx5)
  replace row := Lib.hid (row.out.after bx5)
  replace B := B.trans (bx5.mono B.size)
  clear bx5
  unfold SV.val
  clear row Y rp rq
  go_wp2_with (refine wpList_store_box (cells := #[.bool ul, .bool uh, .slice ua1 un1 uc1, .slice ua2 un2 uc2, .slice ua3 un3 uc3]) rfl 27 _ _ rfl X.out (by rfl) (by rfl) rfl (by kernel_rfl) (by simp [Value.oneCell']) ?_; intro u9 X9 st9)
  have B9 := st9.below w.heap.size w (Nat.le_refl _) B
  have R9 := (ru.keep (w' := u9) (fun b hb => st9.other b hb.2)).mono (ok' := fun b => w.heap.size ≤ b) (fun _ h => h.1)
  exact bodyPost_ret (v := .agg #[.bool ul, .bool uh, .slice ua1 un1 uc1, .slice ua2 un2 uc2, .slice ua3 un3 uc3]) (box_result rfl _ _ (by rfl) X9 Tryd.underlying27 rfl (by kernel_rfl)) rfl ⟨⟨ul, uh, ua1, un1, uc1, ua2, un2, uc2, ua3, un3, uc3⟩, rfl, R9, B9⟩

/-- what putting a window answers -/
def WinP (x : W4) (w : World) (e : Ending) (w' : World) : Prop :=
  (x.may = true ∧ PutQ (winS x) (.int .i64 0) w e w') ∨ (x.may = false ∧ e = .returned (.tuple #[.agg #[.bool false, .bool false, .slice none 0 0, .slice none 0 0, .slice none 0 0], .int .i64 11]) ∧ Below w.heap.size w w')

set_option maxHeartbeats 8000000 in
set_option maxRecDepth 100000 in
theorem winPut_any (p : Bool) (f : Int) (q : Bool) (t : Int) (w : World) : Calls Tryd.prog 7 #[.agg #[.bool p, .int .i64 f, .bool q, .int .i64 t]] w (WinP ⟨p, f, q, t⟩ w) := by
  have B : Below w.heap.size w ((w.alloc (.cells #[.bool p, .int .i64 f, .bool q, .int .i64 t] 23)).alloc (.cells #[.bool false, .bool false, .slice none 0 0, .slice none 0 0, .slice none 0 0] 27)) := ((Below.refl _ _).alloc (Nat.le_refl _) _).alloc (by simp) _
  have K : Hid (Box ((w.alloc (.cells #[.bool p, .int .i64 f, .bool q, .int .i64 t] 23)).alloc (.cells #[.bool false, .bool false, .slice none 0 0, .slice none 0 0, .slice none 0 0] 27)) w.heap.size 23 #[.bool p, .int .i64 f, .bool q, .int .i64 t]) := Lib.hid ((Box.new _ _ _).alloc _)
  have X : Hid (Box ((w.alloc (.cells #[.bool p, .int .i64 f, .bool q, .int .i64 t] 23)).alloc (.cells #[.bool false, .bool false, .slice none 0 0, .slice none 0 0, .slice none 0 0] 27)) (w.heap.size + 1) 27 #[.bool false, .bool false, .slice none 0 0, .slice none 0 0, .slice none 0 0]) := Lib.hid (by
    have := Box.new (w.alloc (.cells #[.bool p, .int .i64 f, .bool q, .int .i64 t] 23)) 27 #[.bool false, .bool false, .slice none 0 0, .slice none 0 0, .slice none 0 0]
    simpa using this)
  have CM := Lib.hid (fun w' => winMay_any p f q t w')
  have HM := Lib.hid (show (W4.mk p f q t).may = winMay p f q t from rfl)
  have HI := Lib.hid ((winMay_iff ⟨p, f, q, t⟩).1)
  dsimp only at HI
  obtain ⟨r, hr⟩ : ∃ r, r = winMay p f q t := ⟨_, rfl⟩
  rw [← hr] at CM HM
  clear hr
  go_enter Tryd.func7, Tryd.ntmps7
  go_upto_region 1 with fail
  change Code.wp _ _ _ _ ((w.alloc (.cells #[.bool p, .int .i64 f, .bool q, .int .i64 t] 23)).alloc (.cells #[.bool false, .bool false, .slice none 0 0, .slice none 0 0, .slice none 0 0] 27))
  generalize ((w.alloc (.cells #[.bool p, .int .i64 f, .bool q, .int .i64 t] 23)).alloc (.cells #[.bool false, .bool false, .slice none 0 0, .slice none 0 0, .slice none 0 0] 27)) = x0 at *
  go_wp2_with (refine wpList_load_box rfl 23 _ rfl K.out (by rfl) Tryd.underlying23 rfl (by kernel_rfl) ?_)
  refine (CM.out _).mono ?_
  rintro e x1 ⟨rfl, bx1⟩
  replace K := Lib.hid (K.out.after bx1)
  replace X := Lib.hid (X.out.after bx1)
  replace B := B.trans (bx1.mono B.size)
  clear bx1
  clear CM
  cases r with
  | false =>
    go_wp2_with (refine wpList_store_box (cells := #[.bool false, .bool false, .slice none 0 0, .slice none 0 0, .slice none 0 0]) rfl 27 _ _ rfl X.out (by rfl) (by rfl) rfl (by kernel_rfl) (by simp [Value.oneCell']) ?_; intro u9 X9 st9)
    have B9 := st9.below w.heap.size w (by omega) B
    exact bodyPost_ret (v := .tuple #[.agg #[.bool false, .bool false, .slice none 0 0, .slice none 0 0, .slice none 0 0], .int .i64 11]) (box_result2 (p := 2) (q := 3) rfl _ _ (by rfl) X9 Tryd.underlying27 rfl (by kernel_rfl)) rfl (.inr ⟨HM.out, rfl, B9⟩)
  | true =>
    obtain ⟨hp, hq⟩ := HI.out HM.out
    replace hp := Lib.hid hp
    replace hq := Lib.hid hq
    clear HI
    have k0 := K.out.cell 0 rfl
    go_wp2_with fail
    clear k0
    refine (atomI_any (fun b => w.heap.size ≤ b ∧ b ≠ w.heap.size + 1) ⟨#[118, 97, 108, 105, 100]⟩ (by decide) x1 (fun b hb => by have := X.out.lt; show w.heap.size ≤ b ∧ b ≠ w.heap.size + 1; omega)).mono ?_
    rintro e x2 ⟨⟨pl, ph, pa1, pn1, pc1, pa2, pn2, pc2, pa3, pn3, pc3⟩, rfl, rp, bx2⟩
    replace K := Lib.hid (K.out.after bx2)
    replace X := Lib.hid (X.out.after bx2)
    replace B := B.trans (bx2.mono B.size)
    clear bx2
    unfold SV.val
    have O := Lib.hid (own1 x2 (w.heap.size + 2) (by have := X.out.lt; omega) ⟨pl, ph, pa1, pn1, pc1, pa2, pn2, pc2, pa3, pn3, pc3⟩)
    replace rp := rp.there
    have KD : Hid (∀ i (hi : i < [at1 vaL].length), RdI (okO (fun b => w.heap.size ≤ b ∧ b ≠ w.heap.size + 1) (.slice (some ⟨x2.heap.size, 0, none⟩) 1 1)) (x2.alloc (.cells #[.bool pl, .bool ph, .slice pa1 pn1 pc1, .slice pa2 pn2 pc2, .slice pa3 pn3 pc3] 27)) ((fun _ => (⟨pl, ph, pa1, pn1, pc1, pa2, pn2, pc2, pa3, pn3, pc3⟩ : SV)) i) [at1 vaL][i]) := Lib.hid (fun i hi => by
      have h1 := (rp.mono (ok' := okO (fun b => w.heap.size ≤ b ∧ b ≠ w.heap.size + 1) (.slice (some ⟨x2.heap.size, 0, none⟩) 1 1)) (fun k hk => ⟨hk.1, fun e => by have := hk.2; simp [Value.ownBlock] at e; omega⟩)).after (w' := (x2.alloc (.cells #[.bool pl, .bool ph, .slice pa1 pn1 pc1, .slice pa2 pn2 pc2, .slice pa3 pn3 pc3] 27))) ((Below.refl _ _).alloc (Nat.le_refl _) _)
      obtain rfl : i = 0 := by simp at hi; omega
      exact h1)
    clear rp
    have Y := Lib.hid (Box.new x2 27 #[.bool pl, .bool ph, .slice pa1 pn1 pc1, .slice pa2 pn2 pc2, .slice pa3 pn3 pc3])
    have ba3 : Below x2.heap.size x2 (x2.alloc (.cells #[.bool pl, .bool ph, .slice pa1 pn1 pc1, .slice pa2 pn2 pc2, .slice pa3 pn3 pc3] 27)) := (Below.refl _ _).alloc (Nat.le_refl _) _
    replace K := Lib.hid (K.out.after ba3)
    replace X := Lib.hid (X.out.after ba3)
    replace B := B.trans (ba3.mono B.size)
    clear ba3
    change Hid (OwnG (x2.alloc (.cells #[.bool pl, .bool ph, .slice pa1 pn1 pc1, .slice pa2 pn2 pc2, .slice pa3 pn3 pc3] 27)) _ 5 _ 1 _) at O
    go_upto_region 4 with fail
    generalize (x2.alloc (.cells #[.bool pl, .bool ph, .slice pa1 pn1 pc1, .slice pa2 pn2 pc2, .slice pa3 pn3 pc3] 27)) = x3 at *
    clear Y
    generalize x2.heap.size = B0 at *
    have k0 := K.out.cell 0 rfl
    cases p with
    | true =>
      have k1 := K.out.cell 1 rfl
      go_wp2_with fail
      clear k0 k1
      have OL := Lib.hid O.out.lt
      have hxl := X.out.lt
      have hzp : Hid (x3.heap.size = x3.heap.size) := Lib.hid rfl
      refine (winEnd_any ⟨#[110, 111, 116, 45, 98, 101, 102, 111, 114, 101]⟩ (by decide) f (by have := hp.out; simp at this; omega) (by have := hp.out; simp at this; omega) x3).mono ?_
      rintro e x4 ⟨⟨vl, vh, va1, vn1, vc1, va2, vn2, vc2, va3, vn3, vc3⟩, rfl, rv, bx4⟩
      replace K := Lib.hid (K.out.after bx4)
      replace X := Lib.hid (X.out.after bx4)
      replace O := Lib.hid (O.out.after bx4)
      replace KD := Lib.hid (fun i hi => (KD.out i hi).after bx4)
      replace B := B.trans (bx4.mono B.size)
      clear bx4
      unfold SV.val
      replace rv : Hid (RdI (okO (fun b => w.heap.size ≤ b ∧ b ≠ w.heap.size + 1) (.slice (some ⟨B0, 0, none⟩) 1 1)) x4 ⟨vl, vh, va1, vn1, vc1, va2, vn2, vc2, va3, vn3, vc3⟩ (endS nbL f)) := Lib.hid (rv.mono (fun k hk => ⟨by show w.heap.size ≤ k ∧ k ≠ w.heap.size + 1; omega, fun e => by have := OL.out k e; omega⟩))
      clear OL hzp hxl
      have SR := Lib.hid (src1 x4 ⟨vl, vh, va1, vn1, vc1, va2, vn2, vc2, va3, vn3, vc3⟩)
      have Y := Lib.hid (Box.new x4 27 #[.bool vl, .bool vh, .slice va1 vn1 vc1, .slice va2 vn2 vc2, .slice va3 vn3 vc3])
      have ba5 : Below x4.heap.size x4 (x4.alloc (.cells #[.bool vl, .bool vh, .slice va1 vn1 vc1, .slice va2 vn2 vc2, .slice va3 vn3 vc3] 27)) := (Below.refl _ _).alloc (Nat.le_refl _) _
      replace K := Lib.hid (K.out.after ba5)
      replace X := Lib.hid (X.out.after ba5)
      replace O := Lib.hid (O.out.after ba5)
      replace rv := Lib.hid (rv.out.after ba5)
      replace KD := Lib.hid (fun i hi => (KD.out i hi).after ba5)
      replace B := B.trans (ba5.mono B.size)
      clear ba5
      clear Y
      have OL := Lib.hid O.out.lt
      have hxl := X.out.lt
      go_upto_region 6 with (refine wpList_append_K rfl _ _ rfl rfl O.out rfl SR.out (by omega) (by simp; simp at hxl; omega) ?_; intro v2 w2 ho2 hg2 hw2; rw [newsK_add] at ho2; obtain ⟨ta, tc, rfl, _⟩ := ho2.row; have kn : w2.cell? ⟨w.heap.size, 2, none⟩ = some (.bool q) := (Box.grown K.out hg2 (fun k hk => by have := OL.out k hk; omega)).cell 2 rfl)
      have K2 := Lib.hid (Box.grown K.out hg2 (fun k hk => by have := OL.out k hk; omega))
      have X2 := Lib.hid (Box.grown X.out hg2 (fun k hk => by have := OL.out k hk; omega))
      have B2 := B.grown hg2 B.size (fun k hk => by have := OL.out k hk; omega)
      have KD2 := Lib.hid (rows_more rfl KD.out rv.out hg2 hw2)
      have O2 := Lib.hid ho2
      clear K X B KD O rv SR OL ho2 hg2 hw2 hxl
      have K := K2
      clear K2
      have X := X2
      clear X2
      have B := B2
      clear B2
      have KD := KD2
      clear KD2
      have O := O2
      clear O2
      have k0 := K.out.cell 0 rfl
      have k2 := K.out.cell 2 rfl
      cases q with
      | true =>
        have k3 := K.out.cell 3 rfl
        go_wp2_with fail
        clear k0 k2 k3
        have OL := Lib.hid O.out.lt
        have hxl := X.out.lt
        have hzp : Hid (w2.heap.size = w2.heap.size) := Lib.hid rfl
        refine (winEnd_any ⟨#[110, 111, 116, 45, 97, 102, 116, 101, 114]⟩ (by decide) t (by have := hq.out; simp at this; omega) (by have := hq.out; simp at this; omega) w2).mono ?_
        rintro e x6 ⟨⟨vl, vh, va1, vn1, vc1, va2, vn2, vc2, va3, vn3, vc3⟩, rfl, rv, bx6⟩
        replace K := Lib.hid (K.out.after bx6)
        replace X := Lib.hid (X.out.after bx6)
        replace O := Lib.hid (O.out.after bx6)
        replace KD := Lib.hid (fun i hi => (KD.out i hi).after bx6)
        replace B := B.trans (bx6.mono B.size)
        clear bx6
        unfold SV.val
        replace rv : Hid (RdI (okO (fun b => w.heap.size ≤ b ∧ b ≠ w.heap.size + 1) (.slice ta 2 tc)) x6 ⟨vl, vh, va1, vn1, vc1, va2, vn2, vc2, va3, vn3, vc3⟩ (endS naL t)) := Lib.hid (rv.mono (fun k hk => ⟨by show w.heap.size ≤ k ∧ k ≠ w.heap.size + 1; omega, fun e => by have := OL.out k e; omega⟩))
        clear OL hzp hxl
        have SR := Lib.hid (src1 x6 ⟨vl, vh, va1, vn1, vc1, va2, vn2, vc2, va3, vn3, vc3⟩)
        have Y := Lib.hid (Box.new x6 27 #[.bool vl, .bool vh, .slice va1 vn1 vc1, .slice va2 vn2 vc2, .slice va3 vn3 vc3])
        have ba7 : Below x6.heap.size x6 (x6.alloc (.cells #[.bool vl, .bool vh, .slice va1 vn1 vc1, .slice va2 vn2 vc2, .slice va3 vn3 vc3] 27)) := (Below.refl _ _).alloc (Nat.le_refl _) _
        replace K := Lib.hid (K.out.after ba7)
        replace X := Lib.hid (X.out.after ba7)
        replace O := Lib.hid (O.out.after ba7)
        replace rv := Lib.hid (rv.out.after ba7)
        replace KD := Lib.hid (fun i hi => (KD.out i hi).after ba7)
        replace B := B.trans (ba7.mono B.size)
        clear ba7
        clear Y
        have OL := Lib.hid O.out.lt
        have hxl := X.out.lt
        go_wp2_with (refine wpList_append_K rfl _ _ rfl rfl O.out rfl SR.out (by omega) (by simp; simp at hxl; omega) ?_; intro v3 w3 ho2 hg2 hw2; rw [newsK_add] at ho2; obtain ⟨ta3, tc3, rfl, _⟩ := ho2.row)
        have K2 := Lib.hid (Box.grown K.out hg2 (fun k hk => by have := OL.out k hk; omega))
        have X2 := Lib.hid (Box.grown X.out hg2 (fun k hk => by have := OL.out k hk; omega))
        have B2 := B.grown hg2 B.size (fun k hk => by have := OL.out k hk; omega)
        have KD2 := Lib.hid (rows_more rfl KD.out rv.out hg2 hw2)
        have O2 := Lib.hid ho2
        clear K X B KD O rv SR OL ho2 hg2 hw2 hxl
        have K := K2
        clear K2
        have X := X2
        clear X2
        have B := B2
        clear B2
        have KD := KD2
        clear KD2
        have O := O2
        clear O2
        have HR := O.out.row
        obtain ⟨ra, rc, er, hrow, hin⟩ := HR
        cases er
        refine (listI_any (fun b => w.heap.size ≤ b ∧ b ≠ w.heap.size + 1) _ 3 _ _ _ w3 hrow (by omega) rfl (fun i hi => (KD.out i hi).mono (fun k hk => hk.1)) (fun b hb => by have := X.out.lt; show w.heap.size ≤ b ∧ b ≠ w.heap.size + 1; omega)).mono ?_
        rintro e x8 ⟨⟨ul, uh, ua1, un1, uc1, ua2, un2, uc2, ua3, un3, uc3⟩, rfl, ru, bx8⟩
        replace K := Lib.hid (K.out.after bx8)
        replace X := Lib.hid (X.out.after bx8)
        replace O := Lib.hid (O.out.after bx8)
        replace KD := Lib.hid (fun i hi => (KD.out i hi).after bx8)
        replace B := B.trans (bx8.mono B.size)
        clear bx8
        unfold SV.val
        clear hrow hin KD O
        go_wp2_with (refine wpList_store_box (cells := #[.bool ul, .bool uh, .slice ua1 un1 uc1, .slice ua2 un2 uc2, .slice ua3 un3 uc3]) rfl 27 _ _ rfl X.out (by rfl) (by rfl) rfl (by kernel_rfl) (by simp [Value.oneCell']) ?_; intro u9 X9 st9)
        have B9 := st9.below w.heap.size w (by omega) B
        have R9 := (ru.keep (w' := u9) (fun b hb => st9.other b hb.2)).mono (ok' := fun b => w.heap.size ≤ b) (fun _ h => h.1)
        exact bodyPost_ret (v := .tuple #[.agg #[.bool ul, .bool uh, .slice ua1 un1 uc1, .slice ua2 un2 uc2, .slice ua3 un3 uc3], .int .i64 0]) (box_result2 (p := 2) (q := 3) rfl _ _ (by rfl) X9 Tryd.underlying27 rfl (by kernel_rfl)) rfl (.inl ⟨HM.out, ⟨ul, uh, ua1, un1, uc1, ua2, un2, uc2, ua3, un3, uc3⟩, rfl, R9, B9⟩)
      | false =>
        go_wp2_with fail
        clear k0 k2
        have HR := O.out.row
        obtain ⟨ra, rc, er, hrow, hin⟩ := HR
        cases er
        refine (listI_any (fun b => w.heap.size ≤ b ∧ b ≠ w.heap.size + 1) _ 2 _ _ _ w2 hrow (by omega) rfl (fun i hi => (KD.out i hi).mono (fun k hk => hk.1)) (fun b hb => by have := X.out.lt; show w.heap.size ≤ b ∧ b ≠ w.heap.size + 1; omega)).mono ?_
        rintro e x6 ⟨⟨ul, uh, ua1, un1, uc1, ua2, un2, uc2, ua3, un3, uc3⟩, rfl, ru, bx6⟩
        replace K := Lib.hid (K.out.after bx6)
        replace X := Lib.hid (X.out.after bx6)
        replace O := Lib.hid (O.out.after bx6)
        replace KD := Lib.hid (fun i hi => (KD.out i hi).after bx6)
        replace B := B.trans (bx6.mono B.size)
        clear bx6
        unfold SV.val
        clear hrow hin KD O
        go_wp2_with (refine wpList_store_box (cells := #[.bool ul, .bool uh, .slice ua1 un1 uc1, .slice ua2 un2 uc2, .slice ua3 un3 uc3]) rfl 27 _ _ rfl X.out (by rfl) (by rfl) rfl (by kernel_rfl) (by simp [Value.oneCell']) ?_; intro u9 X9 st9)
        have B9 := st9.below w.heap.size w (by omega) B
        have R9 := (ru.keep (w' := u9) (fun b hb => st9.other b hb.2)).mono (ok' := fun b => w.heap.size ≤ b) (fun _ h => h.1)
        exact bodyPost_ret (v := .tuple #[.agg #[.bool ul, .bool uh, .slice ua1 un1 uc1, .slice ua2 un2 uc2, .slice ua3 un3 uc3], .int .i64 0]) (box_result2 (p := 2) (q := 3) rfl _ _ (by rfl) X9 Tryd.underlying27 rfl (by kernel_rfl)) rfl (.inl ⟨HM.out, ⟨ul, uh, ua1, un1, uc1, ua2, un2, uc2, ua3, un3, uc3⟩, rfl, R9, B9⟩)
    | false =>
      have k2 := K.out.cell 2 rfl
      cases q with
      | true =>
        have k3 := K.out.cell 3 rfl
        go_wp2_with fail
        clear k0 k2 k3
        have OL := Lib.hid O.out.lt
        have hxl := X.out.lt
        have hzp : Hid (x3.heap.size = x3.heap.size) := Lib.hid rfl
        refine (winEnd_any ⟨#[110, 111, 116, 45, 97, 102, 116, 101, 114]⟩ (by decide) t (by have := hq.out; simp at this; omega) (by have := hq.out; simp at this; omega) x3).mono ?_
        rintro e x4 ⟨⟨vl, vh, va1, vn1, vc1, va2, vn2, vc2, va3, vn3, vc3⟩, rfl, rv, bx4⟩
        replace K := Lib.hid (K.out.after bx4)
        replace X := Lib.hid (X.out.after bx4)
        replace O := Lib.hid (O.out.after bx4)
        replace KD := Lib.hid (fun i hi => (KD.out i hi).after bx4)
        replace B := B.trans (bx4.mono B.size)
        clear bx4
        unfold SV.val
        replace rv : Hid (RdI (okO (fun b => w.heap.size ≤ b ∧ b ≠ w.heap.size + 1) (.slice (some ⟨B0, 0, none⟩) 1 1)) x4 ⟨vl, vh, va1, vn1, vc1, va2, vn2, vc2, va3, vn3, vc3⟩ (endS naL t)) := Lib.hid (rv.mono (fun k hk => ⟨by show w.heap.size ≤ k ∧ k ≠ w.heap.size + 1; omega, fun e => by have := OL.out k e; omega⟩))
        clear OL hzp hxl
        have SR := Lib.hid (src1 x4 ⟨vl, vh, va1, vn1, vc1, va2, vn2, vc2, va3, vn3, vc3⟩)
        have Y := Lib.hid (Box.new x4 27 #[.bool vl, .bool vh, .slice va1 vn1 vc1, .slice va2 vn2 vc2, .slice va3 vn3 vc3])
        have ba5 : Below x4.heap.size x4 (x4.alloc (.cells #[.bool vl, .bool vh, .slice va1 vn1 vc1, .slice va2 vn2 vc2, .slice va3 vn3 vc3] 27)) := (Below.refl _ _).alloc (Nat.le_refl _) _
        replace K := Lib.hid (K.out.after ba5)
        replace X := Lib.hid (X.out.after ba5)
        replace O := Lib.hid (O.out.after ba5)
        replace rv := Lib.hid (rv.out.after ba5)
        replace KD := Lib.hid (fun i hi => (KD.out i hi).after ba5)
        replace B := B.trans (ba5.mono B.size)
        clear ba5
        clear Y
        have OL := Lib.hid O.out.lt
        have hxl := X.out.lt
        go_wp2_with (refine wpList_append_K rfl _ _ rfl rfl O.out rfl SR.out (by omega) (by simp; simp at hxl; omega) ?_; intro v2 w2 ho2 hg2 hw2; rw [newsK_add] at ho2; obtain ⟨ta, tc, rfl, _⟩ := ho2.row)
        have K2 := Lib.hid (Box.grown K.out hg2 (fun k hk => by have := OL.out k hk; omega))
        have X2 := Lib.hid (Box.grown X.out hg2 (fun k hk => by have := OL.out k hk; omega))
        have B2 := B.grown hg2 B.size (fun k hk => by have := OL.out k hk; omega)
        have KD2 := Lib.hid (rows_more rfl KD.out rv.out hg2 hw2)
        have O2 := Lib.hid ho2
        clear K X B KD O rv SR OL ho2 hg2 hw2 hxl
        have K := K2
        clear K2
        have X := X2
        clear X2
        have B := B2
        clear B2
        have KD := KD2
        clear KD2
        have O := O2
        clear O2
        have HR := O.out.row
        obtain ⟨ra, rc, er, hrow, hin⟩ := HR
        cases er
        refine (listI_any (fun b => w.heap.size ≤ b ∧ b ≠ w.heap.size + 1) _ 2 _ _ _ w2 hrow (by omega) rfl (fun i hi => (KD.out i hi).mono (fun k hk => hk.1)) (fun b hb => by have := X.out.lt; show w.heap.size ≤ b ∧ b ≠ w.heap.size + 1; omega)).mono ?_
        rintro e x6 ⟨⟨ul, uh, ua1, un1, uc1, ua2, un2, uc2, ua3, un3, uc3⟩, rfl, ru, bx6⟩
        replace K := Lib.hid (K.out.after bx6)
        replace X := Lib.hid (X.out.after bx6)
        replace O := Lib.hid (O.out.after bx6)
        replace KD := Lib.hid (fun i hi => (KD.out i hi).after bx6)
        replace B := B.trans (bx6.mono B.size)
        clear bx6
        unfold SV.val
        clear hrow hin KD O
        go_wp2_with (refine wpList_store_box (cells := #[.bool ul, .bool uh, .slice ua1 un1 uc1, .slice ua2 un2 uc2, .slice ua3 un3 uc3]) rfl 27 _ _ rfl X.out (by rfl) (by rfl) rfl (by kernel_rfl) (by simp [Value.oneCell']) ?_; intro u9 X9 st9)
        have B9 := st9.below w.heap.size w (by omega) B
        have R9 := (ru.keep (w' := u9) (fun b hb => st9.other b hb.2)).mono (ok' := fun b => w.heap.size ≤ b) (fun _ h => h.1)
        exact bodyPost_ret (v := .tuple #[.agg #[.bool ul, .bool uh, .slice ua1 un1 uc1, .slice ua2 un2 uc2, .slice ua3 un3 uc3], .int .i64 0]) (box_result2 (p := 2) (q := 3) rfl _ _ (by rfl) X9 Tryd.underlying27 rfl (by kernel_rfl)) rfl (.inl ⟨HM.out, ⟨ul, uh, ua1, un1, uc1, ua2, un2, uc2, ua3, un3, uc3⟩, rfl, R9, B9⟩)
      | false =>
        go_wp2_with fail
        clear k0 k2
        have HR := O.out.row
        obtain ⟨ra, rc, er, hrow, hin⟩ := HR
        cases er
        refine (listI_any (fun b => w.heap.size ≤ b ∧ b ≠ w.heap.size + 1) _ 1 _ _ _ x3 hrow (by omega) rfl (fun i hi => (KD.out i hi).mono (fun k hk => hk.1)) (fun b hb => by have := X.out.lt; show w.heap.size ≤ b ∧ b ≠ w.heap.size + 1; omega)).mono ?_
        rintro e x4 ⟨⟨ul, uh, ua1, un1, uc1, ua2, un2, uc2, ua3, un3, uc3⟩, rfl, ru, bx4⟩
        replace K := Lib.hid (K.out.after bx4)
        replace X := Lib.hid (X.out.after bx4)
        replace O := Lib.hid (O.out.after bx4)
        replace KD := Lib.hid (fun i hi => (KD.out i hi).after bx4)
        replace B := B.trans (bx4.mono B.size)
        clear bx4
        unfold SV.val
        clear hrow hin KD O
        go_wp2_with (refine wpList_store_box (cells := #[.bool ul, .bool uh, .slice ua1 un1 uc1, .slice ua2 un2 uc2, .slice ua3 un3 uc3]) rfl 27 _ _ rfl X.out (by rfl) (by rfl) rfl (by kernel_rfl) (by simp [Value.oneCell']) ?_; intro u9 X9 st9)
        have B9 := st9.below w.heap.size w (by omega) B
        have R9 := (ru.keep (w' := u9) (fun b hb => st9.other b hb.2)).mono (ok' := fun b => w.heap.size ≤ b) (fun _ h => h.1)
        exact bodyPost_ret (v := .tuple #[.agg #[.bool ul, .bool uh, .slice ua1 un1 uc1, .slice ua2 un2 uc2, .slice ua3 un3 uc3], .int .i64 0]) (box_result2 (p := 2) (q := 3) rfl _ _ (by rfl) X9 Tryd.underlying27 rfl (by kernel_rfl)) rfl (.inl ⟨HM.out, ⟨ul, uh, ua1, un1, uc1, ua2, un2, uc2, ua3, un3, uc3⟩, rfl, R9, B9⟩)

end Go.Proofs.YtigopfeamjhdpaaDoor
namespace Go.Proofs.YtigopfeamjhdpaaDoor
open Go.RowKit
set_option linter.unusedSimpArgs false
set_option linter.unusedVariables false

/-- a row of the call's own is handed back -/
def RowO (n : Nat) (K : Nat → SV) (w : World) (e : Ending) (w' : World) : Prop := ∃ a c, e = .returned (.slice a n c) ∧ OwnG w' w.heap.size 5 (.slice a n c) n (newsK K n) ∧ Below w.heap.size w w'

set_option maxHeartbeats 2000000 in
set_option maxRecDepth 100000 in
theorem cloneO_any (a : Option Addr) (n c : Nat) (K : Nat → SV) (w : World) (hr : RowAt w a n c K) (hn : n ≤ 1000) : Calls Tryd.prog 34 #[.slice a n c] w (RowO n K w) := by
  cases a with
  | none =>
    have hc := hr.2.2.1 rfl
    have hle := hr.1
    obtain rfl : n = 0 := by omega
    subst hc
    clear hle hn
    have hnn : ∀ W, (binOp .eql 25 (.slice none 0 0) (.slice none 0 0)).run Tryd.prog W = .ok (.bool true) W := fun _ => rfl
    go_enter Tryd.func34, Tryd.ntmps34
    go_wp2_with fail
    go_ret
    exact ⟨none, 0, rfl, OwnG.nil _ _ _, Below.refl _ _⟩
  | some ad =>
    have hnn : ∀ W, (binOp .eql 25 (.slice (some ad) n c) (.slice none 0 0)).run Tryd.prog W = .ok (.bool false) W := fun _ => rfl
    have hb0 : Below w.heap.size w (w.alloc (.cells #[] 27)) := (Below.refl _ _).alloc (Nat.le_refl _) _
    have ho0 : OwnG (w.alloc (.cells #[] 27)) w.heap.size 5 (.slice (some ⟨w.heap.size, 0, none⟩) 0 0) 0 [] := OwnG.new w w.heap.size 5 (Nat.le_refl _) #[] 27 0 0 (Nat.le_refl _) (Nat.zero_le _) rfl
    have hsrc : Src Tryd.prog 5 25 (.slice (some ad) n c) n (newsK K n) (w.alloc (.cells #[] 27)) := by
      refine Src.ofSlice _ Tryd.underlying25 ad n c _ (newsK_len K n) ?_ (newsK_one K n)
      have hr' := hr.after hb0
      rcases hr'.2.2.2 with h0 | ⟨b, o, e, h4⟩
      · subst h0
        intro j u hu
        simp [newsK] at hu
      · cases e
        exact newsK_cells hr'
    have HO := Lib.hid ho0
    have HS := Lib.hid hsrc
    clear ho0 hsrc hr
    go_enter Tryd.func34, Tryd.ntmps34
    go_wp2_with (refine wpList_append_K rfl _ _ rfl rfl HO.out rfl HS.out (by omega) (by simp) ?_; intro v2 w2 ho2 hg2 hw2)
    rw [Nat.zero_add, List.nil_append] at ho2
    obtain ⟨a', c', rfl, h5, h6⟩ := ho2.row
    have HO2 := Lib.hid ho2
    have hB := hb0.grown hg2 (by simp) (fun k hk => by cases hk; exact Nat.le_refl _)
    clear ho2 hg2 hw2
    go_ret
    exact ⟨a', c', rfl, HO2.out, hB⟩

/-- a list whose row is the call's own -/
def ListO (n : Nat) (K : Nat → SV) (w : World) (e : Ending) (w' : World) : Prop := ∃ a c, e = .returned (.agg #[.bool true, .bool false, .slice none 0 0, .slice none 0 0, .slice a n c]) ∧ OwnG w' (w.heap.size + 1) 5 (.slice a n c) n (newsK K n) ∧ Below w.heap.size w w'

set_option maxHeartbeats 2000000 in
set_option maxRecDepth 100000 in
theorem listO_any (a : Option Addr) (n c : Nat) (K : Nat → SV) (w : World) (hr : RowAt w a n c K) (hn : n ≤ 1000) : Calls Tryd.prog 22 #[.slice a n c] w (ListO n K w) := by
  have hb0 : Below w.heap.size w (w.alloc (.cells SV.nil.cells 27)) := (Below.refl _ _).alloc (Nat.le_refl _) _
  have X0 := Box.new w 27 SV.nil.cells
  have HR := Lib.hid hr
  clear hr
  go_enter Tryd.func22, Tryd.ntmps22
  go_upto_region 1 with fail
  change Code.wp _ _ _ _ (w.alloc (.cells SV.nil.cells 27))
  generalize w.alloc (.cells SV.nil.cells 27) = v0 at *
  go_wp2_with fail
  refine (cloneO_any a n c K v0 (HR.out.after hb0) hn).mono ?_
  rintro e v1 ⟨a', c', rfl, hrow, hb1⟩
  have X1 := Lib.hid (X0.after hb1)
  have HS := Lib.hid hrow
  have hB1 := hb0.trans (hb1.mono hb0.size)
  have hz := X0.lt
  have hsz := hb0.size
  clear X0 hrow hb1 hb0
  go_wp2_with (refine wpList_store_box (cells := (SV.mk true false none 0 0 none 0 0 a' n c').cells) rfl 27 _ _ rfl X1.out (by rfl) (by rfl) rfl (by kernel_rfl) (SV.one _) ?_; intro v2 X2 st2)
  have hB2 := st2.below w.heap.size w (Nat.le_refl _) hB1
  have ho2 : OwnG v2 (w.heap.size + 1) 5 (.slice a' n c') n (newsK K n) := (HS.out.keep (w' := v2) (Nat.le_of_eq st2.size.symm) (fun k hk => st2.other k (by have := (HS.out.lt k hk).1; omega))).le (by omega)
  exact bodyPost_ret (v := (SV.mk true false none 0 0 none 0 0 a' n c').val) (box_result rfl _ _ (by rfl) X2 Tryd.underlying27 rfl (by kernel_rfl)) rfl ⟨a', c', rfl, ho2, hB2⟩

def caL : List UInt8 := [99, 97, 110, 99, 101, 108, 101, 100]
def sumsOk (ls : List (List UInt8)) : Bool := decide (ls.length ≤ 16) && ls.all (fun l => keyMay true l.length)
def sumsK (ls : List (List UInt8)) : List Sx := at1 caL :: ls.map (keyS true)
def SumsP (ls : List (List UInt8)) (w : World) (e : Ending) (w' : World) : Prop :=
  (sumsOk ls = true ∧ PutQ (li (sumsK ls)) (.bool true) w e w') ∨ (sumsOk ls = false ∧ e = .returned (.tuple #[.agg #[.bool false, .bool false, .slice none 0 0, .slice none 0 0, .slice none 0 0], .bool false]) ∧ Below w.heap.size w w')
theorem sumsK_snoc (ls : List (List UInt8)) (k : Nat) (h : k < ls.length) : sumsK (ls.take (k + 1)) = sumsK (ls.take k) ++ [keyS true ls[k]] := by
  unfold sumsK
  rw [List.take_succ_eq_append_getElem h, List.map_append]
  rfl
theorem sumsK_len (ls : List (List UInt8)) (k : Nat) (h : k ≤ ls.length) : (sumsK (ls.take k)).length = k + 1 := by
  unfold sumsK
  simp
  omega
theorem all_snoc (p : List UInt8 → Bool) (ls : List (List UInt8)) (k : Nat) (h : k < ls.length) : (ls.take (k + 1)).all p = ((ls.take k).all p && p ls[k]) := by
  rw [List.take_succ_eq_append_getElem h, List.all_append]
  simp only [List.all_cons, List.all_nil, Bool.and_true]
theorem all_not (p : List UInt8 → Bool) (ls : List (List UInt8)) (k : Nat) (h : k < ls.length) (hp : p ls[k] = false) : ls.all p = false := by
  rw [List.all_eq_false]
  exact ⟨_, List.getElem_mem h, by rw [hp]; simp⟩
theorem RowS.cellS {w : World} {a : Option Addr} {n c : Nat} {Z : Nat → S3} {ls : List (List UInt8)} (h : RowS w a n c Z ls) {i : Nat} (hi : i < n) : ∃ b o, a = some ⟨b, o, none⟩ ∧ w.cell? ⟨b, o + i, none⟩ = some (.slice (Z i).a (Z i).n (Z i).c) := by
  rcases h.2.2.2.2.1 with h4 | ⟨b, o, rfl, h4⟩
  · omega
  · exact ⟨b, o, rfl, h4 i hi⟩

end Go.Proofs.YtigopfeamjhdpaaDoor
namespace Go.Proofs.YtigopfeamjhdpaaDoor
open Go.RowKit
set_option linter.unusedSimpArgs false
set_option linter.unusedVariables false

def haL : List UInt8 := [104, 97, 115, 104]
def shL : List UInt8 := [115, 104, 97, 53, 49, 50]
def pkL : List UInt8 := [112, 117, 98, 108, 105, 99, 45, 107, 101, 121]
def edL : List UInt8 := [101, 100, 50, 53, 53, 49, 57]
def crL : List UInt8 := [99, 114, 108]
def isL : List UInt8 := [105, 115, 115, 117, 101, 114]
theorem keyS_true (l : List UInt8) : keyS true l = li [at1 haL, at1 shL, at1 l] := rfl
theorem keyS_false (l : List UInt8) : keyS false l = li [at1 pkL, li [at1 edL, at1 l]] := rfl

/-- the principal that may stand in a value -/
def keyTry (k : Sx) : Option (Bool × List UInt8) :=
  match k.ks with
  | [_, _, x] => some (true, x.da)
  | [_, y] => (match y.ks with | [_, x] => some (false, x.da) | _ => none)
  | _ => none
def keyGet (k : Sx) : Option (Bool × List UInt8) :=
  match keyTry k with
  | some (s, l) => if keyMay s l.length && k.same (keyS s l) then some (s, l) else none
  | none => none
theorem keyTry_keyS (s : Bool) (l : List UInt8) : keyTry (keyS s l) = some (s, l) := by cases s <;> rfl
theorem keyGet_iff (k : Sx) (s : Bool) (l : List UInt8) : keyGet k = some (s, l) ↔ keyMay s l.length = true ∧ k = keyS s l := by
  constructor
  · intro h
    unfold keyGet at h
    split at h
    · rename_i s' l' e
      split at h
      · rename_i hc
        rw [Bool.and_eq_true] at hc
        cases h
        exact ⟨hc.1, (Sx.same_iff _ _).1 hc.2⟩
      · cases h
    · cases h
  · rintro ⟨h, rfl⟩
    unfold keyGet
    rw [keyTry_keyS]
    simp [h, Sx.same_refl]
def plainB (x : Sx) (n : Nat) : Bool := !x.l && (!x.h && (x.da.length == n))
def hashB (k : Sx) : Bool := match k.ks with | [_, y, z] => atomB y shL && plainB z 64 | _ => false
def lastB (y : Sx) : Bool := match y.ks with | [_, z] => plainB z 32 | _ => false
def pubB (k : Sx) : Bool := match k.ks with | [_, y] => headL y edL && lastB y | _ => false
/-- what the document reads as a principal -/
def refKey (k : Sx) : Option (Bool × List UInt8) :=
  if headL k haL && hashB k then some (true, (k.ks.getD 2 Sx.nil).da)
  else if headL k pkL && pubB k then some (false, ((k.ks.getD 1 Sx.nil).ks.getD 1 Sx.nil).da)
  else none
theorem plainB_clean {x : Sx} {n : Nat} (hc : x.clean = true) (h : plainB x n = true) : x = at1 x.da ∧ x.da.length = n := by
  simp only [plainB, Bool.and_eq_true, Bool.not_eq_true', beq_iff_eq] at h
  exact ⟨atomB_clean hc (by simp [atomB, h.1, h.2.1]), h.2.2⟩
theorem refKey_iff (k : Sx) (hc : k.clean = true) (s : Bool) (l : List UInt8) : refKey k = some (s, l) ↔ keyMay s l.length = true ∧ k = keyS s l := by
  constructor
  · intro h
    unfold refKey at h
    split at h
    · rename_i hh
      rw [Bool.and_eq_true] at hh
      obtain ⟨r, rfl, hr⟩ := headL_clean hc hh.1
      have h2 := hh.2
      rcases r with _ | ⟨y, _ | ⟨z, _ | ⟨u, r⟩⟩⟩ <;> simp only [hashB, li, Sx.ks, Bool.and_eq_true, Bool.false_eq_true] at h2
      obtain ⟨h3, h4⟩ := h2
      obtain rfl := atomB_clean (hr y (by simp)) h3
      obtain ⟨e1, e2⟩ := plainB_clean (hr z (by simp)) h4
      simp only [li, Sx.ks, List.getD_cons_succ, List.getD_cons_zero] at h
      cases h
      refine ⟨by simp [keyMay, e2], ?_⟩
      rw [keyS_true, ← e1]
    · split at h
      · rename_i hh
        rw [Bool.and_eq_true] at hh
        obtain ⟨r, rfl, hr⟩ := headL_clean hc hh.1
        have h2 := hh.2
        rcases r with _ | ⟨y, _ | ⟨z, r⟩⟩ <;> simp only [pubB, li, Sx.ks, Bool.and_eq_true, Bool.false_eq_true] at h2
        obtain ⟨h3, h4⟩ := h2
        obtain ⟨r2, rfl, hr2⟩ := headL_clean (hr y (by simp)) h3
        rcases r2 with _ | ⟨z, _ | ⟨u, r⟩⟩ <;> simp only [lastB, li, Sx.ks, Bool.false_eq_true] at h4
        obtain ⟨e1, e2⟩ := plainB_clean (hr2 z (by simp)) h4
        simp only [li, Sx.ks, List.getD_cons_succ, List.getD_cons_zero] at h
        cases h
        refine ⟨by simp [keyMay, e2], ?_⟩
        rw [keyS_false, ← e1]
      · cases h
  · rintro ⟨h, rfl⟩
    cases s
    · have h32 : (l.length == 32) = true := h
      unfold refKey
      rw [keyS_false, headL_li]
      rw [show (pkL == haL) = false from rfl, Bool.false_and]
      simp only [Bool.false_eq_true, if_false]
      rw [headL_li, if_pos (by
        simp only [pubB, lastB, li, Sx.ks]
        rw [show Sx.mk true false [] [] [at1 edL, at1 l] = li [at1 edL, at1 l] from rfl, headL_li]
        simp [plainB, at1, Sx.l, Sx.h, Sx.da, h32])]
      rfl
    · have h64 : (l.length == 64) = true := h
      unfold refKey
      rw [keyS_true, headL_li, if_pos (by
        simp only [hashB, li, Sx.ks, atomB_at1]
        simp [plainB, at1, Sx.l, Sx.h, Sx.da, h64])]
      rfl
theorem key_agree (k : Sx) (hc : k.clean = true) : refKey k = keyGet k := by
  cases h : refKey k with
  | none =>
    cases h' : keyGet k with
    | none => rfl
    | some x => rw [(refKey_iff k hc x.1 x.2).2 ((keyGet_iff k x.1 x.2).1 h')] at h; cases h
  | some x => rw [(keyGet_iff k x.1 x.2).2 ((refKey_iff k hc x.1 x.2).1 h)]

/-- a list of canceled ones -/
structure Cr where
  s : Bool
  l : List UInt8
  ls : List (List UInt8)
  x : W4
def Cr.may (c : Cr) : Bool := keyMay c.s c.l.length && (sumsOk c.ls && c.x.may)
noncomputable def Cr.tree (c : Cr) : Sx := li ([at1 crL, li [at1 isL, keyS c.s c.l], li (sumsK c.ls)] ++ if c.x.p || c.x.q then [winS c.x] else [])

theorem wideL_no {ks : List Sx} {m : Nat} (h : ∀ k ∈ ks, k.wide m = false) : Sx.wideL ks m = false := by
  induction ks with
  | nil => rfl
  | cons a r ih => simp only [Sx.wideL]; rw [h a (by simp), ih (fun k hk => h k (by simp [hk]))]; rfl
theorem wide_li {ks : List Sx} {m : Nat} (hm : m ≤ 60) (hl : ks.length ≤ 700) (h : ∀ k ∈ ks, k.wide (m + 1) = false) : (li ks).wide m = false := by
  unfold li
  rw [wide_def, wideL_no h, decide_eq_false (by omega), decide_eq_false (by omega)]
  rfl
theorem wide_at {l : List UInt8} {m : Nat} (hm : m ≤ 60) (hl : l.length ≤ 5000) : (at1 l).wide m = false := by
  unfold at1
  rw [wide_def, decide_eq_false (by omega), decide_eq_false (by simp), decide_eq_false (by simp), decide_eq_false (by omega)]
  rfl
theorem wide_keyS (s : Bool) (l : List UInt8) (m : Nat) (hm : m ≤ 50) (hl : l.length ≤ 5000) : (keyS s l).wide m = false := by
  cases s
  · rw [keyS_false]
    refine wide_li (by omega) (by simp) (fun k hk => ?_)
    simp only [List.mem_cons, List.not_mem_nil, or_false] at hk
    rcases hk with rfl | rfl
    · exact wide_at (by omega) (by decide)
    · refine wide_li (by omega) (by simp) (fun k hk => ?_)
      simp only [List.mem_cons, List.not_mem_nil, or_false] at hk
      rcases hk with rfl | rfl
      · exact wide_at (by omega) (by decide)
      · exact wide_at (by omega) hl
  · rw [keyS_true]
    refine wide_li (by omega) (by simp) (fun k hk => ?_)
    simp only [List.mem_cons, List.not_mem_nil, or_false] at hk
    rcases hk with rfl | rfl | rfl
    · exact wide_at (by omega) (by decide)
    · exact wide_at (by omega) (by decide)
    · exact wide_at (by omega) hl
/-- bounds of a tree: clean, at most n values, at most d deep, at most f bytes -/
structure Bd (t : Sx) (n d f : Nat) : Prop where
  clean : t.clean = true
  nodes : t.nodes ≤ n
  deep : t.deep ≤ d
  form : t.form.length ≤ f
structure BdL (ts : List Sx) (n d f : Nat) : Prop where
  clean : Sx.cleanL ts = true
  nodes : Sx.nodesL ts ≤ n
  deep : Sx.deepL ts ≤ d
  form : (Sx.formL ts).length ≤ f
theorem BdL.nil : BdL [] 0 0 0 := ⟨rfl, Nat.le_refl _, Nat.le_refl _, Nat.le_refl _⟩
theorem BdL.cons {t : Sx} {ts : List Sx} {n d f n2 d2 f2 : Nat} (h : Bd t n d f) (h2 : BdL ts n2 d2 f2) : BdL (t :: ts) (n + n2) (max d d2) (f + f2) := by
  refine ⟨?_, ?_, ?_, ?_⟩
  · simp [Sx.cleanL, h.clean, h2.clean]
  · simp only [Sx.nodesL]; have := h.nodes; have := h2.nodes; omega
  · simp only [Sx.deepL]; have := h.deep; have := h2.deep; omega
  · simp only [Sx.formL, List.length_append]; have := h.form; have := h2.form; omega
theorem BdL.append {ts us : List Sx} {n d f n2 d2 f2 : Nat} (h : BdL ts n d f) (h2 : BdL us n2 d2 f2) : BdL (ts ++ us) (n + n2) (max d d2) (f + f2) := by
  induction ts generalizing n d f with
  | nil => exact ⟨h2.clean, by have := h2.nodes; simp; omega, by have := h2.deep; simp; omega, by have := h2.form; simp; omega⟩
  | cons t ts ih =>
    have hc := h.clean
    have hn := h.nodes
    have hd := h.deep
    have hf := h.form
    simp only [Sx.cleanL, Bool.and_eq_true] at hc
    simp only [Sx.nodesL] at hn
    simp only [Sx.deepL] at hd
    simp only [Sx.formL, List.length_append] at hf
    have := ih (n := Sx.nodesL ts) (d := Sx.deepL ts) (f := (Sx.formL ts).length) ⟨hc.2, Nat.le_refl _, Nat.le_refl _, Nat.le_refl _⟩
    refine ⟨?_, ?_, ?_, ?_⟩
    · simp [Sx.cleanL, hc.1, this.clean]
    · have := this.nodes; simp only [List.cons_append, Sx.nodesL]; omega
    · have := this.deep; simp only [List.cons_append, Sx.deepL]; omega
    · have := this.form; simp only [List.cons_append, Sx.formL, List.length_append]; omega
theorem BdL.li {ts : List Sx} {n d f : Nat} (h : BdL ts n d f) : Bd (li ts) (n + 1) (d + 1) (f + 2) := by
  refine ⟨?_, ?_, ?_, ?_⟩
  · unfold Proofs.YtigopfeamjhdpaaDoor.li; rw [clean_def, h.clean]; rfl
  · have := h.nodes; unfold Proofs.YtigopfeamjhdpaaDoor.li; simp only [Sx.nodes]; omega
  · have := h.deep; unfold Proofs.YtigopfeamjhdpaaDoor.li; simp only [Sx.deep, if_true]; omega
  · have := h.form; unfold Proofs.YtigopfeamjhdpaaDoor.li; rw [form_def]; simp; omega
theorem bd_at (l : List UInt8) (h : l.length ≤ 100000) : Bd (at1 l) 1 0 (l.length + 20) := by
  refine ⟨by rfl, by simp [at1, Sx.nodes, Sx.nodesL], by simp [at1, Sx.deep], ?_⟩
  have := textL_len l (by omega)
  unfold at1
  rw [form_def]
  simpa using this
theorem Bd.mono {t : Sx} {n d f n2 d2 f2 : Nat} (h : Bd t n d f) (h1 : n ≤ n2) (h2 : d ≤ d2) (h3 : f ≤ f2) : Bd t n2 d2 f2 := ⟨h.clean, Nat.le_trans h.nodes h1, Nat.le_trans h.deep h2, Nat.le_trans h.form h3⟩
theorem BdL.mono {t : List Sx} {n d f n2 d2 f2 : Nat} (h : BdL t n d f) (h1 : n ≤ n2) (h2 : d ≤ d2) (h3 : f ≤ f2) : BdL t n2 d2 f2 := ⟨h.clean, Nat.le_trans h.nodes h1, Nat.le_trans h.deep h2, Nat.le_trans h.form h3⟩
theorem Bd.may {t : Sx} {n d f : Nat} (h : Bd t n d f) (h1 : n ≤ 512) (h2 : d ≤ 16) (h3 : f ≤ 4096) : t.may = true := by
  unfold Sx.may
  rw [h.clean, decide_eq_true (Nat.le_trans h.nodes h1), decide_eq_true (Nat.le_trans h.deep h2), decide_eq_true (Nat.le_trans h.form h3)]
  rfl
theorem bd_keyS (s : Bool) (l : List UInt8) (h : keyMay s l.length = true) : Bd (keyS s l) 5 2 150 := by
  cases s
  · have h32 : l.length = 32 := by simpa [keyMay] using h
    rw [keyS_false]
    exact ((BdL.cons (bd_at pkL (by decide)) (BdL.cons ((BdL.cons (bd_at edL (by decide)) (BdL.cons (bd_at l (by omega)) BdL.nil)).li) BdL.nil)).li).mono (by omega) (by omega) (by rw [h32]; decide)
  · have h64 : l.length = 64 := by simpa [keyMay] using h
    rw [keyS_true]
    exact ((BdL.cons (bd_at haL (by decide)) (BdL.cons (bd_at shL (by decide)) (BdL.cons (bd_at l (by omega)) BdL.nil))).li).mono (by omega) (by omega) (by rw [h64]; decide)
theorem bdL_sums (ls : List (List UInt8)) (h : ls.all (fun l => keyMay true l.length) = true) : BdL (ls.map (keyS true)) (5 * ls.length) 2 (150 * ls.length) := by
  induction ls with
  | nil => exact BdL.nil.mono (by simp) (by omega) (by simp)
  | cons l r ih =>
    simp only [List.all_cons, Bool.and_eq_true] at h
    exact (BdL.cons (bd_keyS true l h.1) (ih h.2)).mono (by simp; omega) (by omega) (by simp; omega)
theorem bd_end (w : List UInt8) (n : Int) (hw : w.length ≤ 20) (h0 : 0 ≤ n) (h1 : n < 315569520000) : Bd (endS w n) 3 1 90 := by
  have := dateL_len n h0 h1
  unfold endS
  exact ((BdL.cons (bd_at w (by omega)) (BdL.cons (bd_at (dateL n) (by omega)) BdL.nil)).li).mono (by omega) (by omega) (by omega)
theorem bd_win (x : W4) (h : x.may = true) : Bd (winS x) 8 2 220 := by
  have hm := (winMay_iff x).1 h
  obtain ⟨p, f, q, t⟩ := x
  dsimp only at hm
  obtain ⟨h1, h2⟩ := hm
  unfold winS
  have e1 : BdL (if p then [endS nbL f] else []) 3 1 90 := by
    rcases h1 with ⟨rfl, h1, h1'⟩ | ⟨rfl, rfl⟩
    · exact BdL.cons (bd_end nbL f (by decide) h1 h1') BdL.nil
    · exact BdL.nil.mono (by omega) (by omega) (by omega)
  have e2 : BdL (if q then [endS naL t] else []) 3 1 90 := by
    rcases h2 with ⟨rfl, h2, h2'⟩ | ⟨rfl, rfl⟩
    · exact BdL.cons (bd_end naL t (by decide) h2 h2') BdL.nil
    · exact BdL.nil.mono (by omega) (by omega) (by omega)
  exact ((BdL.cons (bd_at vaL (by decide)) (e1.append e2)).li).mono (by omega) (by omega) (by decide)
theorem wide_win (x : W4) (h : x.may = true) (m : Nat) (hm : m ≤ 50) : (winS x).wide m = false := by
  have hw := (winMay_iff x).1 h
  obtain ⟨p, f, q, t⟩ := x
  dsimp only at hw
  have hend : ∀ (w : List UInt8) (n : Int), w.length ≤ 20 → 0 ≤ n → n < 315569520000 → (endS w n).wide (m + 1) = false := by
    intro w n h0 h1 h2
    have := dateL_len n h1 h2
    unfold endS
    refine wide_li (by omega) (by simp) (fun k hk => ?_)
    simp only [List.mem_cons, List.not_mem_nil, or_false] at hk
    rcases hk with rfl | rfl
    · exact wide_at (by omega) (by omega)
    · exact wide_at (by omega) (by omega)
  unfold winS
  refine wide_li (by omega) (by cases p <;> cases q <;> simp) (fun k hk => ?_)
  simp only [List.mem_cons, List.mem_append] at hk
  rcases hk with rfl | hk | hk
  · exact wide_at (by omega) (by decide)
  · rcases hw.1 with ⟨rfl, h1, h2⟩ | ⟨rfl, rfl⟩
    · simp only [if_true, List.mem_cons, List.not_mem_nil, or_false] at hk
      rw [hk]
      exact hend _ _ (by decide) h1 h2
    · simp at hk
  · rcases hw.2 with ⟨rfl, h1, h2⟩ | ⟨rfl, rfl⟩
    · simp only [if_true, List.mem_cons, List.not_mem_nil, or_false] at hk
      rw [hk]
      exact hend _ _ (by decide) h1 h2
    · simp at hk
theorem sumsOk_iff (ls : List (List UInt8)) : sumsOk ls = true ↔ ls.length ≤ 16 ∧ ls.all (fun l => keyMay true l.length) = true := by
  unfold sumsOk
  rw [Bool.and_eq_true, decide_eq_true_eq]
theorem Cr.may_tree (c : Cr) (h : c.may = true) : c.tree.may = true ∧ c.tree.wide 0 = false := by
  obtain ⟨s, l, ls, x⟩ := c
  simp only [Cr.may, Bool.and_eq_true] at h
  obtain ⟨h1, h2, h3⟩ := h
  obtain ⟨h4, h5⟩ := (sumsOk_iff ls).1 h2
  have hlen : l.length ≤ 64 := by cases s <;> (simp [keyMay] at h1; omega)
  have hall : ∀ k ∈ ls, k.length = 64 := fun k hk => by have := List.all_eq_true.1 h5 k hk; simpa [keyMay] using this
  have e1 : BdL [at1 crL, li [at1 isL, keyS s l], li (sumsK ls)] (5 * ls.length + 10) 4 (150 * ls.length + 250) := by
    refine (BdL.cons (bd_at crL (by decide)) (BdL.cons ((BdL.cons (bd_at isL (by decide)) (BdL.cons (bd_keyS s l h1) BdL.nil)).li) (BdL.cons ((BdL.cons (bd_at caL (by decide)) (bdL_sums ls h5)).li) BdL.nil))).mono (by omega) (by omega) ?_
    have a1 : crL.length = 3 := rfl
    have a2 : isL.length = 6 := rfl
    have a3 : caL.length = 8 := rfl
    omega
  have e2 : BdL (if x.p || x.q then [winS x] else []) 8 2 220 := by
    split
    · exact BdL.cons (bd_win x h3) BdL.nil
    · exact BdL.nil.mono (by omega) (by omega) (by omega)
  refine ⟨((e1.append e2).li).may (by omega) (by omega) (by omega), ?_⟩
  unfold Cr.tree
  refine wide_li (by omega) (by dsimp only; split <;> simp) (fun k hk => ?_)
  simp only [List.mem_append, List.mem_cons, List.not_mem_nil, or_false] at hk
  rcases hk with (rfl | rfl | rfl) | hk
  · exact wide_at (by omega) (by decide)
  · refine wide_li (by omega) (by simp) (fun k hk => ?_)
    simp only [List.mem_cons, List.not_mem_nil, or_false] at hk
    rcases hk with rfl | rfl
    · exact wide_at (by omega) (by decide)
    · exact wide_keyS s l _ (by omega) (by omega)
  · refine wide_li (by omega) (by simp [sumsK]; omega) (fun k hk => ?_)
    simp only [sumsK, List.mem_cons, List.mem_map] at hk
    rcases hk with rfl | ⟨z, hz, rfl⟩
    · exact wide_at (by omega) (by decide)
    · exact wide_keyS true z _ (by omega) (by have := hall z hz; omega)
  · split at hk
    · simp only [List.mem_cons, List.not_mem_nil, or_false] at hk
      rw [hk]
      exact wide_win x h3 _ (by omega)
    · simp at hk
/-- what the program takes for a list of canceled ones -/
def keyOr (k : Sx) : Bool × List UInt8 := (keyGet k).getD (false, [])
noncomputable def crlTry (v : Sx) : Cr := ⟨(keyOr ((v.ks.getD 1 Sx.nil).ks.getD 1 Sx.nil)).1, (keyOr ((v.ks.getD 1 Sx.nil).ks.getD 1 Sx.nil)).2, (v.ks.getD 2 Sx.nil).ks.tail.map (fun k => (keyOr k).2), if 3 < v.ks.length then (winGet (v.ks.getD 3 Sx.nil)).getD W4.nil else W4.nil⟩
def crlShape (v : Sx) : Bool := decide (3 ≤ v.ks.length) && (decide ((v.ks.getD 1 Sx.nil).ks.length = 2) && (decide (0 < (v.ks.getD 2 Sx.nil).ks.length) && v.may))
noncomputable def crlGet (v : Sx) : Option Cr := if crlShape v && ((crlTry v).may && v.same (crlTry v).tree) then some (crlTry v) else none
theorem W4.ends_not (x : W4) (h : x.may = true) (h' : ¬ (x.p || x.q) = true) : x = W4.nil := by
  have := (winMay_iff x).1 h
  obtain ⟨p, f, q, t⟩ := x
  dsimp only at this h'
  cases p <;> cases q <;> simp at h'
  simp at this
  obtain ⟨rfl, rfl⟩ := this
  rfl
theorem crlTry_tree (c : Cr) (h : c.may = true) : crlShape c.tree = true ∧ crlTry c.tree = c := by
  have hm := (c.may_tree h).1
  obtain ⟨s, l, ls, x⟩ := c
  simp only [Cr.may, Bool.and_eq_true] at h
  obtain ⟨h1, h2, h3⟩ := h
  obtain ⟨h4, h5⟩ := (sumsOk_iff ls).1 h2
  have hk : keyOr (keyS s l) = (s, l) := by unfold keyOr; rw [(keyGet_iff _ _ _).2 ⟨h1, rfl⟩]; rfl
  have hs : ls.map ((fun k => (keyOr k).2) ∘ keyS true) = ls := by
    have : ls.map ((fun k => (keyOr k).2) ∘ keyS true) = ls.map id := List.map_congr_left fun z hz => by
      have hz' := List.all_eq_true.1 h5 z hz
      simp only [Function.comp, keyOr]
      rw [(keyGet_iff _ _ _).2 ⟨hz', rfl⟩]
      rfl
    rw [this, List.map_id]
  refine ⟨?_, ?_⟩
  · unfold crlShape
    rw [hm]
    unfold Cr.tree
    simp [li, Sx.ks, sumsK]
  · unfold crlTry Cr.tree
    by_cases hw : (x.p || x.q) = true
    · simp [li, Sx.ks, sumsK, hk, hs, hw, (winGet_iff (winS x) x).2 ⟨h3, rfl⟩]
    · have hx := x.ends_not h3 hw
      simp only [li, Sx.ks, sumsK, hw, if_false]
      simp [hk, hs, hx, Sx.ks]
theorem crlGet_iff (v : Sx) (c : Cr) : crlGet v = some c ↔ c.may = true ∧ v = c.tree := by
  unfold crlGet
  constructor
  · intro h
    split at h
    · rename_i hc
      simp only [Bool.and_eq_true] at hc
      cases h
      exact ⟨hc.2.1, (Sx.same_iff _ _).1 hc.2.2⟩
    · cases h
  · rintro ⟨h, rfl⟩
    obtain ⟨e1, e2⟩ := crlTry_tree c h
    rw [e2, if_pos (by rw [e1, h, Sx.same_refl]; rfl)]
theorem li_ks (r : List Sx) : (li r).ks = r := rfl
/-- what the document reads -/
def refEnds (l : List Sx) : Option W4 := match l with
  | [] => some W4.nil
  | [k] => (match refWin k with | some x => if x.p || x.q then some x else none | none => none)
  | _ => none
def refOf (k : Sx) (w : List UInt8) : Bool := headL k w && decide (k.ks.length = 2)
def refSums : List Sx → Option (List (List UInt8))
  | [] => some []
  | k :: r => match refKey k with
    | some (true, l) => (refSums r).map (l :: ·)
    | _ => none
def refCrl (v : Sx) : Option Cr :=
  if v.may && (headL v crL && decide (3 ≤ v.ks.length)) then
    if refOf (v.ks.getD 1 Sx.nil) isL then
      match refKey ((v.ks.getD 1 Sx.nil).ks.getD 1 Sx.nil), refEnds (v.ks.drop 3) with
      | some (s, l), some x => if headL (v.ks.getD 2 Sx.nil) caL && decide ((v.ks.getD 2 Sx.nil).ks.length ≤ 17) then (refSums (v.ks.getD 2 Sx.nil).ks.tail).map (fun ls => ⟨s, l, ls, x⟩) else none
      | _, _ => none
    else none
  else none
theorem refSums_iff (ks : List Sx) (hc : ∀ k ∈ ks, k.clean = true) (ls : List (List UInt8)) : refSums ks = some ls ↔ ls.all (fun l => keyMay true l.length) = true ∧ ks = ls.map (keyS true) := by
  induction ks generalizing ls with
  | nil => cases ls <;> simp [refSums]
  | cons k r ih =>
    have hk := refKey_iff k (hc k (by simp))
    have ih := ih (fun k hk => hc k (by simp [hk]))
    constructor
    · intro h
      simp only [refSums] at h
      split at h
      · rename_i l e
        obtain ⟨ls', e', rfl⟩ := Option.map_eq_some_iff.1 h
        obtain ⟨h1, h2⟩ := (ih ls').1 e'
        obtain ⟨h3, h4⟩ := (hk true l).1 e
        simp [h1, h3, ← h2, h4]
      · cases h
    · rintro ⟨h1, h2⟩
      cases ls with
      | nil => cases h2
      | cons l ls =>
        simp only [List.all_cons, Bool.and_eq_true] at h1
        simp only [List.map_cons, List.cons.injEq] at h2
        simp only [refSums]
        rw [(hk true l).2 ⟨h1.1, h2.1⟩, (ih ls).2 ⟨h1.2, h2.2⟩]
        rfl
theorem may_clean {v : Sx} (h : v.may = true) : v.clean = true := by
  unfold Sx.may at h
  simp only [Bool.and_eq_true] at h
  exact h.1.1.1
theorem refCrl_iff (v : Sx) (c : Cr) : refCrl v = some c ↔ c.may = true ∧ v = c.tree := by
  constructor
  · intro h
    unfold refCrl at h
    split at h
    · rename_i hh
      simp only [Bool.and_eq_true, decide_eq_true_eq] at hh
      obtain ⟨hm, hd, hl⟩ := hh
      obtain ⟨r, rfl, hr⟩ := headL_clean (may_clean hm) hd
      rcases r with _ | ⟨k1, _ | ⟨k2, r⟩⟩
      · simp [li_ks] at hl
      · simp [li_ks] at hl
      · simp only [li_ks, List.getD_cons_succ, List.getD_cons_zero, List.drop_succ_cons, List.drop_zero] at h
        split at h
        · rename_i ho
          unfold refOf at ho
          simp only [Bool.and_eq_true, decide_eq_true_eq] at ho
          obtain ⟨r1, rfl, hr1⟩ := headL_clean (hr k1 (by simp)) ho.1
          rcases r1 with _ | ⟨x1, _ | ⟨x2, r1⟩⟩
          · simp [li_ks] at ho
          · try simp only [li_ks, List.getD_cons_succ, List.getD_cons_zero] at h
            split at h
            · rename_i s l x e1 e2
              obtain ⟨g1, rfl⟩ := (refKey_iff x1 (hr1 x1 (by simp)) s l).1 e1
              split at h
              · rename_i hcn
                simp only [Bool.and_eq_true, decide_eq_true_eq] at hcn
                obtain ⟨r2, rfl, hr2⟩ := headL_clean (hr k2 (by simp)) hcn.1
                obtain ⟨ls, e3, rfl⟩ := Option.map_eq_some_iff.1 h
                simp only [li_ks, List.tail_cons] at e3
                obtain ⟨g2, rfl⟩ := (refSums_iff r2 hr2 ls).1 e3
                have g3 : ls.length ≤ 16 := by have := hcn.2; simp [li_ks] at this; omega
                have g4 : x.may = true ∧ r = if x.p || x.q then [winS x] else [] := by
                  rcases r with _ | ⟨k, _ | ⟨k', r⟩⟩
                  · simp only [refEnds] at e2
                    cases e2
                    exact ⟨rfl, rfl⟩
                  · simp only [refEnds] at e2
                    split at e2
                    · rename_i x' e4
                      split at e2
                      · rename_i hpq
                        cases e2
                        obtain ⟨g5, rfl⟩ := (refWin_iff k (hr k (by simp)) x).1 e4
                        rw [if_pos hpq]
                        exact ⟨g5, rfl⟩
                      · cases e2
                    · cases e2
                  · simp [refEnds] at e2
                refine ⟨?_, ?_⟩
                · simp only [Cr.may]
                  rw [g1, (sumsOk_iff ls).2 ⟨g3, g2⟩, g4.1]
                  rfl
                · unfold Cr.tree sumsK
                  rw [g4.2]
                  rfl
              · cases h
            · cases h
          · simp [li_ks] at ho
        · cases h
    · cases h
  · rintro ⟨h, rfl⟩
    have hm := (c.may_tree h).1
    have hcl := may_clean hm
    obtain ⟨s, l, ls, x⟩ := c
    simp only [Cr.may, Bool.and_eq_true] at h
    obtain ⟨h1, h2, h3⟩ := h
    obtain ⟨h4, h5⟩ := (sumsOk_iff ls).1 h2
    have hkc : (keyS s l).clean = true := (bd_keyS s l h1).clean
    have hsc : ∀ k ∈ ls.map (keyS true), k.clean = true := fun k hk => by
      obtain ⟨z, hz, rfl⟩ := List.mem_map.1 hk
      exact (bd_keyS true z (List.all_eq_true.1 h5 z hz)).clean
    have e1 := (refKey_iff (keyS s l) hkc s l).2 ⟨h1, rfl⟩
    have e3 := (refSums_iff (ls.map (keyS true)) hsc ls).2 ⟨h5, rfl⟩
    have e2 : refEnds (if x.p || x.q then [winS x] else []) = some x := by
      by_cases hw : (x.p || x.q) = true
      · rw [if_pos hw]
        simp only [refEnds]
        rw [(refWin_iff (winS x) (bd_win x h3).clean x).2 ⟨h3, rfl⟩]
        simp only [hw, if_true]
      · rw [if_neg hw, x.ends_not h3 hw]
        rfl
    unfold refCrl
    rw [if_pos (by rw [hm]; unfold Cr.tree; simp [headL_li, li, Sx.ks, headL, atomB, at1, Sx.l, Sx.h, Sx.da])]
    unfold Cr.tree
    simp only [li, Sx.ks, List.cons_append, List.nil_append, List.getD_cons_succ, List.getD_cons_zero, List.drop_succ_cons, List.drop_zero]
    rw [if_pos (by simp [refOf, headL, atomB, at1, Sx.l, Sx.h, Sx.da, Sx.ks])]
    simp only [e1, e2, sumsK, List.tail_cons, e3, Option.map_some]
    rw [if_pos (by simp [headL, atomB, at1, Sx.l, Sx.h, Sx.da, Sx.ks]; omega)]
theorem crl_agree (v : Sx) : refCrl v = crlGet v := by
  cases h : refCrl v with
  | none =>
    cases h' : crlGet v with
    | none => rfl
    | some x => rw [(refCrl_iff v x).2 ((crlGet_iff v x).1 h')] at h; cases h
  | some x => rw [(crlGet_iff v x).2 ((refCrl_iff v x).1 h)]
end Go.Proofs.YtigopfeamjhdpaaDoor
namespace Go.Proofs.YtigopfeamjhdpaaDoor
open Go.RowKit
set_option linter.unusedSimpArgs false
set_option linter.unusedVariables false

theorem hashB_n (l h : Bool) (hi da : List UInt8) (ks : List Sx) (h3 : ks.length ≠ 3) : hashB (.mk l h hi da ks) = false := by
  match ks, h3 with
  | [], _ => rfl
  | [_], _ => rfl
  | [_, _], _ => rfl
  | [_, _, _], h => exact absurd rfl h
  | _ :: _ :: _ :: _ :: _, _ => rfl
theorem pubB_n (l h : Bool) (hi da : List UInt8) (ks : List Sx) (h2 : ks.length ≠ 2) : pubB (.mk l h hi da ks) = false := by
  match ks, h2 with
  | [], _ => rfl
  | [_], _ => rfl
  | [_, _], h => exact absurd rfl h
  | _ :: _ :: _ :: _, _ => rfl
theorem lastB_n (k : Sx) (h2 : k.ks.length ≠ 2) : lastB k = false := by
  obtain ⟨_, _, _, _, ks⟩ := k
  match ks, h2 with
  | [], _ => rfl
  | [_], _ => rfl
  | [_, _], h => exact absurd rfl h
  | _ :: _ :: _ :: _, _ => rfl
/-- what the document's Get of a principal answers -/
def RKeyP (ok : Nat → Prop) (k : Sx) (w : World) (e : Ending) (w' : World) : Prop :=
  (∃ s l, refKey k = some (s, l) ∧ ∃ a n c, e = .returned (.tuple #[.agg #[.bool s, .slice a n c], .bool true]) ∧ Sl w a n c l ∧ InB ok a n ∧ Below w.heap.size w w') ∨
  (refKey k = none ∧ e = .returned (.tuple #[.agg #[.bool false, .slice none 0 0], .bool false]) ∧ Below w.heap.size w w')

section
variable {P : Program} {ops : Array Oper}
theorem wpList_load_boxG {rest : List Oper} {o : Oper} {a : Act} {w : World} {Q : Exit → Act → World → Prop} (ty : TypeId) (x : Operand) (ho : o.op = .load ty x)
    {g : Nat} {T : TypeId} {cs : Array Value} (hg : Box w g T cs) (hx : a.eval x = .pointer (some ⟨g, 0, none⟩)) {d : TypeDesc}
    (hu : P.underlying ty = some d) (hd : (match d with | .struct _ | .array _ _ => true | _ => false) = true) (hi : (P.info? ty).map (·.size) = some cs.size)
    (hgd : Region.wanted o (yielded ops a.tmps) = true) (h : wpList P ops Q rest (a.put o.dst (.agg cs)) w) : wpList P ops Q (o :: rest) a w := wpList_load_box hgd ty x ho hg hx hu hd hi h
theorem wpList_load_midG {rest : List Oper} {op : Oper} {a : Act} {w : World} {Q : Exit → Act → World → Prop} (ty : TypeId) (x : Operand) (ho : op.op = .load ty x)
    (b o : Nat) (hx : a.eval x = .pointer (some ⟨b, o, none⟩)) (cs : List Value) (d : TypeDesc) (hc : w.rangeAt b o cs)
    (hu : P.underlying ty = some d) (hd : d.isRow = true) (hi : (P.info? ty).map (·.size) = some cs.length)
    (hgd : Region.wanted op (yielded ops a.tmps) = true) (h : wpList P ops Q rest (a.put op.dst (.agg cs.toArray)) w) : wpList P ops Q (op :: rest) a w := wpList_load_midW hgd ty x ho b o hx cs d hc hu hd hi h
end

theorem RKeyP.out {ok : Nat → Prop} {k : Sx} {w w' : World} {e : Ending} (h : RKeyP ok k w e w') : ∃ (s : Bool) (a : Option Addr) (n c : Nat), e = .returned (.tuple #[.agg #[.bool s, .slice a n c], .bool (refKey k).isSome]) ∧ (∀ s' l', refKey k = some (s', l') → s' = s ∧ Sl w a n c l' ∧ InB ok a n) ∧ Below w.heap.size w w' := by
  rcases h with ⟨s, l, h1, a, n, c, rfl, h2, h3, h4⟩ | ⟨h1, rfl, h4⟩
  · exact ⟨s, a, n, c, by rw [h1]; rfl, fun s' l' h => by rw [h1] at h; cases h; exact ⟨rfl, h2, h3⟩, h4⟩
  · exact ⟨false, none, 0, 0, by rw [h1]; rfl, (fun s' l' h => by rw [h1] at h; cases h), h4⟩

/-- the same principal? -/
def keySame (s : Bool) (l : List UInt8) (s2 : Bool) (l2 : List UInt8) : Bool := s == s2 && l == l2

end Go.Proofs.YtigopfeamjhdpaaDoor

/- The document's Is and Head; 'awake'. -/
import Derived.Test.YticjhogofoffmaaDoorCr4
namespace Go.Proofs.YticjhogofoffmaaDoor
open Go.RowKit
set_option linter.unusedSimpArgs false
set_option linter.unusedVariables false

section
variable {P : Program} {ops : Array Oper}
theorem wpList_load_midW {rest : List Oper} {op : Oper} {a : Act} {w : World} {Q : Exit → Act → World → Prop} (hgd : Region.wanted op (yielded ops a.tmps) = true) (ty : TypeId) (x : Operand) (ho : op.op = .load ty x)
    (b o : Nat) (hx : a.eval x = .pointer (some ⟨b, o, none⟩)) (cs : List Value) (d : TypeDesc) (hc : w.rangeAt b o cs)
    (hu : P.underlying ty = some d) (hd : d.isRow = true) (hi : (P.info? ty).map (·.size) = some cs.length)
    (h : wpList P ops Q rest (a.put op.dst (.agg cs.toArray)) w) : wpList P ops Q (op :: rest) a w :=
  wpList_want hgd fun _ hK => wp_load_mid ty x ho b o hx cs d hc hu hd hi (hK _ _ h)
end
/-- is a value an atom of these bytes? does a list begin with one? -/
def isB (s : Sx) (t : ByteArray) : Bool := !s.l && (!s.h && (s.da == t.toList))
def headB (s : Sx) (t : ByteArray) : Bool := s.l && (match s.ks with | [] => false | k :: _ => isB k t)

set_option maxHeartbeats 4000000 in
set_option maxRecDepth 100000 in
theorem is_any (s : Sx) (t : ByteArray) (v : SV) (w : World) (hr : Rd w v s) : Calls Tryd.prog 41 #[v.val, .string t] w fun e w' => e = .returned (.bool (isB s t)) ∧ Below w.heap.size w w' := by
  obtain ⟨l, hh, hi, da, ks⟩ := s
  obtain ⟨e1, e2, _, hs, hrest⟩ := hr.parts
  obtain ⟨vl, vh, va1, vn1, vc1, va2, vn2, vc2, va3, vn3, vc3⟩ := v
  replace e1 : vl = l := e1
  replace e2 : vh = hh := e2
  subst e1 e2
  replace hs : Sl w va2 vn2 vc2 da := hs
  rw [show isB (.mk vl vh hi da ks) t = (!vl && (!vh && (da == t.toList))) from rfl]
  unfold SV.val
  have B0 : Below w.heap.size w (w.alloc (.cells #[.bool vl, .bool vh, .slice va1 vn1 vc1, .slice va2 vn2 vc2, .slice va3 vn3 vc3] 37)) := (Below.refl _ _).alloc (Nat.le_refl _) _
  have X0 := Box.new w 37 #[.bool vl, .bool vh, .slice va1 vn1 vc1, .slice va2 vn2 vc2, .slice va3 vn3 vc3]
  have hcv := conv_sl (hs.after B0)
  have x0 := X0.cell 0 rfl
  have x1 := X0.cell 1 rfl
  have x3 := X0.cell 3 rfl
  clear X0 hs hr hrest
  show Calls _ _ #[.agg #[.bool vl, .bool vh, .slice va1 vn1 vc1, .slice va2 vn2 vc2, .slice va3 vn3 vc3], _] _ _
  cases vl with
  | true =>
    go_enter Tryd.func41, Tryd.ntmps41
    go_wp2_with fail
    go_ret
    exact ⟨rfl, B0⟩
  | false =>
    cases vh with
    | true =>
      go_enter Tryd.func41, Tryd.ntmps41
      go_wp2_with fail
      go_ret
      exact ⟨rfl, B0⟩
    | false =>
      go_enter Tryd.func41, Tryd.ntmps41
      go_wp2_with fail
      go_ret
      exact ⟨by simp, B0⟩

set_option maxHeartbeats 4000000 in
set_option maxRecDepth 100000 in
theorem head_any (s : Sx) (t : ByteArray) (v : SV) (w : World) (hr : Rd w v s) : Calls Tryd.prog 21 #[v.val, .string t] w fun e w' => e = .returned (.bool (headB s t)) ∧ Below w.heap.size w w' := by
  obtain ⟨l, hh, hi, da, ks⟩ := s
  obtain ⟨e1, e2, _, _, hn, hnc, hcm, K, hrow, hk⟩ := hr.parts
  obtain ⟨vl, vh, va1, vn1, vc1, va2, vn2, vc2, va3, vn3, vc3⟩ := v
  replace e1 : vl = l := e1
  subst e1
  replace hn : vn3 = ks.length := hn
  replace hnc : vn3 ≤ vc3 := hnc
  replace hcm : vc3 ≤ maxLen := hcm
  unfold maxLen at hcm
  replace hk : ∀ i (hi : i < ks.length), Rd w (K i) ks[i] := hk
  replace hrow : RowAt w va3 vn3 vc3 K := hrow
  unfold SV.val
  have B0 : Below w.heap.size w (w.alloc (.cells #[.bool vl, .bool vh, .slice va1 vn1 vc1, .slice va2 vn2 vc2, .slice va3 vn3 vc3] 37)) := (Below.refl _ _).alloc (Nat.le_refl _) _
  have X0 := Box.new w 37 #[.bool vl, .bool vh, .slice va1 vn1 vc1, .slice va2 vn2 vc2, .slice va3 vn3 vc3]
  have x0 := X0.cell 0 rfl
  have x4 := X0.cell 4 rfl
  show Calls _ _ #[.agg #[.bool vl, .bool vh, .slice va1 vn1 vc1, .slice va2 vn2 vc2, .slice va3 vn3 vc3], _] _ _
  have HN := Lib.hid hn
  clear X0 hr e2 hn
  cases vl with
  | false =>
    rw [show headB (.mk false hh hi da ks) t = false from rfl]
    go_enter Tryd.func21, Tryd.ntmps21
    go_wp2_with fail
    go_ret
    exact ⟨rfl, B0⟩
  | true =>
    cases ks with
    | nil =>
      rw [show headB (.mk true hh hi da []) t = false from rfl]
      have hn : vn3 = 0 := HN.out
      subst hn
      go_enter Tryd.func21, Tryd.ntmps21
      go_wp2_with fail
      go_ret
      exact ⟨rfl, B0⟩
    | cons k ks =>
      rw [show headB (.mk true hh hi da (k :: ks)) t = isB k t from rfl]
      have C := Lib.hid (fun w' h => is_any k t (K 0) w' h)
      obtain ⟨r, hr⟩ : ∃ r, r = isB k t := ⟨_, rfl⟩
      rw [← hr]
      simp only [← hr] at C
      clear hr
      have hlt : 0 < vn3 := by rw [HN.out]; simp
      obtain ⟨b, o, rfl, hld⟩ := (hrow.after B0).range hlt
      rw [Nat.zero_mul, Nat.add_zero] at hld
      have HL := Lib.hid hld
      have HK := Lib.hid ((hk 0 (by simp)).after B0)
      have HLT := Lib.hid hlt
      have hz : (0 : Int) < vn3 := by omega
      clear hld hrow hk
      go_enter Tryd.func21, Tryd.ntmps21
      go_wp2_with (refine wpList_load_midW rfl 37 _ rfl b _ rfl _ _ HL.out Tryd.underlying37 rfl (by kernel_rfl) ?_)
      refine (C.out _ HK.out).mono ?_
      rintro e w1 ⟨rfl, hb1⟩
      have B1 := B0.trans (hb1.mono B0.size)
      clear hb1 B0 HL HK C
      go_wp2_with fail
      go_ret
      exact ⟨by simp, B1⟩

theorem head_crl : headB (crl0S (List.replicate 32 0)) ⟨#[99, 114, 108]⟩ = true := by
  have h : (⟨#[99, 114, 108]⟩ : ByteArray).toList = [99, 114, 108] := by simp
  show (true && (!false && (!false && ([99, 114, 108] == ByteArray.toList ⟨#[99, 114, 108]⟩)))) = true
  rw [h]
  rfl
theorem head_can : headB (.mk true false [] [] [(.mk false false [] [99, 97, 110, 99, 101, 108, 101, 100] [])]) ⟨#[99, 97, 110, 99, 101, 108, 101, 100]⟩ = true := by
  have h : (⟨#[99, 97, 110, 99, 101, 108, 101, 100]⟩ : ByteArray).toList = [99, 97, 110, 99, 101, 108, 101, 100] := by simp
  show (true && (!false && (!false && ([99, 97, 110, 99, 101, 108, 101, 100] == ByteArray.toList ⟨#[99, 97, 110, 99, 101, 108, 101, 100]⟩)))) = true
  rw [h]
  rfl
theorem noughts_get (i : Nat) : (List.replicate 32 (0 : UInt8)).getD i 0 = 0 := by rw [List.getD_eq_getElem?_getD, List.getElem?_replicate]; split <;> rfl

/-- 32 noughts, made -/
theorem make32 (w : World) : ∃ w', (Instr.makeSlice 22 (.int .i64 32) (.int .i64 32)).run Tryd.prog w = .ok (.slice (some ⟨w.heap.size, 0, none⟩) 32 32) w' ∧ Sl w' (some ⟨w.heap.size, 0, none⟩) 32 32 (List.replicate 32 0) ∧ Below w.heap.size w w' := by
  obtain ⟨i0, hi, hi2⟩ := Option.map_eq_some_iff.1 (show (Tryd.prog.info? 5).map (fun i => (i.zero, i.size, i.bytes)) = some (some (.int .u8 0), 1, 1) by kernel_rfl)
  simp only [Prod.mk.injEq] at hi2
  obtain ⟨hz0, hz1, hz2⟩ := hi2
  refine ⟨_, run_makeSlice w 22 5 i0 (.int .u8 0) Tryd.underlying22 hi hz0 .i64 .i64 32 32 (by omega) (by omega) (by rw [hz1]; decide) (by rw [hz2]; decide) (by omega), ?_, (Below.refl _ _).alloc (Nat.le_refl _) _⟩
  rw [hz1]
  have X := Box.new w 5 (madeCells (Value.int .u8 0).cells ((32 : Int).toNat * 1))
  refine ⟨rfl, by decide, by decide, (fun h => by cases h), .inr ⟨_, 0, rfl, fun i hi => ?_⟩⟩
  rw [Nat.zero_add]
  refine X.cell i ?_
  have : ∀ i, i < 32 → (madeCells (Value.int .u8 0).cells ((32 : Int).toNat * 1))[i]? = some (.int .u8 (((List.replicate 32 (0 : UInt8)).getD i 0).toNat : Int)) := by
    intro i hi
    rw [noughts_get]
    simp [madeCells, Value.cells, hi, Nat.mod_one]
  exact this i hi

set_option maxHeartbeats 8000000 in
set_option maxRecDepth 100000 in
theorem awake_any (w : World) (ht : Tab w) : Calls Tryd.prog 8 #[] w fun e w' => e = .returned (.bool true) ∧ Below w.heap.size w w' := by
  obtain ⟨wm, hm, hs, B0⟩ := make32 w
  have C := Lib.hid (crlPut0_any _ 32 32 wm hs (ht.after B0))
  clear hs ht
  go_enter Tryd.func8, Tryd.ntmps8
  go_wp2_with fail
  refine C.out.mono ?_
  rintro e w1 ⟨⟨vl, vh, va1, vn1, vc1, va2, vn2, vc2, va3, vn3, vc3⟩, rfl, r1, hb1⟩
  have B1 := B0.trans (hb1.mono B0.size)
  have R1 := Lib.hid r1
  clear B0 hb1 r1 C hm
  go_upto_region 2 with (refine wpList_store_box (cells := #[.bool vl, .bool vh, .slice va1 vn1 vc1, .slice va2 vn2 vc2, .slice va3 vn3 vc3]) rfl 37 _ _ rfl (Box.new _ _ _) (by rfl) (by rfl) rfl (by kernel_rfl) (by simp [Value.oneCell']) ?_; intro u9 X9 st9)
  have b19 : Below w1.heap.size w1 u9 := st9.below w1.heap.size w1 (Nat.le_refl _) ((Below.refl _ _).alloc (Nat.le_refl _) _)
  replace B1 := B1.trans (b19.mono B1.size)
  have Y := Lib.hid X9
  replace R1 := Lib.hid (R1.out.after b19)
  clear st9 X9 b19
  generalize w1.heap.size = y at *
  obtain ⟨e1, e2, _, _, hn, hnc, hcm, K, hrow, hk⟩ := (R1.out.mono (ok' := fun _ => True) (fun _ _ => trivial)).parts
  replace hn : vn3 = 3 := hn
  subst hn
  replace hnc : 3 ≤ vc3 := hnc
  replace hcm : vc3 ≤ maxLen := hcm
  unfold maxLen at hcm
  replace hrow : RowAt u9 va3 3 vc3 K := hrow
  have HK := Lib.hid (show Rd u9 (K 2) (.mk true false [] [] [(.mk false false [] [99, 97, 110, 99, 101, 108, 101, 100] [])]) from hk 2 (show 2 < 3 by omega))
  obtain ⟨b, o, rfl, hld⟩ := hrow.range (i := 2) (by omega)
  have HW := Lib.hid hrow
  have HC1 := Lib.hid (fun w' h => head_any (crl0S (List.replicate 32 0)) ⟨#[99, 114, 108]⟩ ⟨vl, vh, va1, vn1, vc1, va2, vn2, vc2, some ⟨b, o, none⟩, 3, vc3⟩ w' h)
  rw [head_crl] at HC1
  have HC2 := Lib.hid (fun w' h => head_any (.mk true false [] [] [(.mk false false [] [99, 97, 110, 99, 101, 108, 101, 100] [])]) ⟨#[99, 97, 110, 99, 101, 108, 101, 100]⟩ (K 2) w' h)
  rw [head_can] at HC2
  clear hk hld e1 e2 hrow
  go_wp2_with (refine wpList_load_midW rfl 37 _ rfl y 0 rfl _ _ (Box.mid Y.out 0 #[.bool vl, .bool vh, .slice va1 vn1 vc1, .slice va2 vn2 vc2, .slice (some ⟨b, o, none⟩) 3 vc3].toList (fun j v hv => by simpa using hv)) Tryd.underlying37 rfl (by kernel_rfl) ?_)
  refine (HC1.out _ (R1.out.mono (fun _ _ => trivial))).mono ?_
  rintro e w2 ⟨rfl, hb2⟩
  have B2 := B1.trans (hb2.mono B1.size)
  have x4 := (Y.out.after hb2).cell 4 rfl
  obtain ⟨b', o', e', hld⟩ := (HW.out.after hb2).range (i := 2) (by omega)
  cases e'
  have HL := Lib.hid hld
  have HK2 := Lib.hid (HK.out.after hb2)
  clear hld B1 hb2 Y R1 HK HW HC1
  go_wp2_with (refine wpList_load_midW rfl 37 _ rfl b _ rfl _ _ HL.out Tryd.underlying37 rfl (by kernel_rfl) ?_)
  refine (HC2.out _ HK2.out).mono ?_
  rintro e w3 ⟨rfl, hb3⟩
  have B3 := B2.trans (hb3.mono B2.size)
  clear B2 hb3 HL HK2 x4 HC2
  go_wp2_with fail
  go_ret
  exact ⟨by simp, B3⟩

end Go.Proofs.YticjhogofoffmaaDoor

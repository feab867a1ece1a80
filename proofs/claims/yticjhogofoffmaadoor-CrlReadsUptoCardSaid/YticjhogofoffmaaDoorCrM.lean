/- The document's principals: plain, Get, Same. -/
import Derived.Test.YticjhogofoffmaaDoorCrP
namespace Go.Proofs.YticjhogofoffmaaDoor
open Go.RowKit
set_option linter.unusedSimpArgs false
set_option linter.unusedVariables false

theorem hashB_n (l h : Bool) (hi da : List UInt8) (ks : List Sx) (h3 : ks.length ≠ 3) : hashB (.mk l h hi da ks) = false := by
  match ks, h3 with
  | [], _ => rfl
  | [_], _ => rfl
  | [_, _], _ => rfl
  | [_, _, _], h => exact absurd rfl h
  | _ :: _ :: _ :: _ :: _, _ => rfl
theorem pubB_n (l h : Bool) (hi da : List UInt8) (ks : List Sx) (h2 : ks.length ≠ 2) : pubB (.mk l h hi da ks) = false := by
  match ks, h2 with
  | [], _ => rfl
  | [_], _ => rfl
  | [_, _], h => exact absurd rfl h
  | _ :: _ :: _ :: _, _ => rfl
theorem lastB_n (k : Sx) (h2 : k.ks.length ≠ 2) : lastB k = false := by
  obtain ⟨_, _, _, _, ks⟩ := k
  match ks, h2 with
  | [], _ => rfl
  | [_], _ => rfl
  | [_, _], h => exact absurd rfl h
  | _ :: _ :: _ :: _, _ => rfl
/-- what the document's Get of a principal answers -/
def RKeyP (ok : Nat → Prop) (k : Sx) (w : World) (e : Ending) (w' : World) : Prop :=
  (∃ s l, refKey k = some (s, l) ∧ ∃ a n c, e = .returned (.tuple #[.agg #[.bool s, .slice a n c], .bool true]) ∧ Sl w a n c l ∧ InB ok a n ∧ Below w.heap.size w w') ∨
  (refKey k = none ∧ e = .returned (.tuple #[.agg #[.bool false, .slice none 0 0], .bool false]) ∧ Below w.heap.size w w')

set_option maxHeartbeats 4000000 in
set_option maxRecDepth 100000 in
theorem plain_any (s : Sx) (n : Nat) (v : SV) (w : World) (hr : Rd w v s) : Calls Tryd.prog 50 #[v.val, .int .i64 n] w fun e w' => e = .returned (.bool (plainB s n)) ∧ Below w.heap.size w w' := by
  obtain ⟨l, hh, hi, da, ks⟩ := s
  obtain ⟨e1, e2, _, hs, hrest⟩ := hr.parts
  obtain ⟨vl, vh, va1, vn1, vc1, va2, vn2, vc2, va3, vn3, vc3⟩ := v
  replace e1 : vl = l := e1
  replace e2 : vh = hh := e2
  subst e1 e2
  replace hs : Sl w va2 vn2 vc2 da := hs
  rw [show plainB (.mk vl vh hi da ks) n = (!vl && (!vh && (da.length == n))) from rfl]
  unfold SV.val
  have B0 : Below w.heap.size w (w.alloc (.cells #[.bool vl, .bool vh, .slice va1 vn1 vc1, .slice va2 vn2 vc2, .slice va3 vn3 vc3] 37)) := (Below.refl _ _).alloc (Nat.le_refl _) _
  have X0 := Box.new w 37 #[.bool vl, .bool vh, .slice va1 vn1 vc1, .slice va2 vn2 vc2, .slice va3 vn3 vc3]
  have x0 := X0.cell 0 rfl
  have x1 := X0.cell 1 rfl
  have x3 := X0.cell 3 rfl
  have hq : ((vn2 : Int) == (n : Int)) = (da.length == n) := by rw [hs.1, Bool.eq_iff_iff]; simp only [beq_iff_eq]; omega
  generalize (da.length == n) = r at *
  clear X0 hs hr hrest
  show Calls _ _ #[.agg #[.bool vl, .bool vh, .slice va1 vn1 vc1, .slice va2 vn2 vc2, .slice va3 vn3 vc3], _] _ _
  cases vl with
  | true =>
    go_enter Tryd.func50, Tryd.ntmps50
    go_wp2_with fail
    go_ret
    exact ⟨rfl, B0⟩
  | false =>
    cases vh with
    | true =>
      go_enter Tryd.func50, Tryd.ntmps50
      go_wp2_with fail
      go_ret
      exact ⟨rfl, B0⟩
    | false =>
      go_enter Tryd.func50, Tryd.ntmps50
      go_wp2_with fail
      go_ret
      exact ⟨by simp, B0⟩

section
variable {P : Program} {ops : Array Oper}
theorem wpList_load_boxG {rest : List Oper} {o : Oper} {a : Act} {w : World} {Q : Exit → Act → World → Prop} (ty : TypeId) (x : Operand) (ho : o.op = .load ty x)
    {g : Nat} {T : TypeId} {cs : Array Value} (hg : Box w g T cs) (hx : a.eval x = .pointer (some ⟨g, 0, none⟩)) {d : TypeDesc}
    (hu : P.underlying ty = some d) (hd : (match d with | .struct _ | .array _ _ => true | _ => false) = true) (hi : (P.info? ty).map (·.size) = some cs.size)
    (hgd : Region.wanted o (yielded ops a.tmps) = true) (h : wpList P ops Q rest (a.put o.dst (.agg cs)) w) : wpList P ops Q (o :: rest) a w := wpList_load_box hgd ty x ho hg hx hu hd hi h
theorem wpList_load_midG {rest : List Oper} {op : Oper} {a : Act} {w : World} {Q : Exit → Act → World → Prop} (ty : TypeId) (x : Operand) (ho : op.op = .load ty x)
    (b o : Nat) (hx : a.eval x = .pointer (some ⟨b, o, none⟩)) (cs : List Value) (d : TypeDesc) (hc : w.rangeAt b o cs)
    (hu : P.underlying ty = some d) (hd : d.isRow = true) (hi : (P.info? ty).map (·.size) = some cs.length)
    (hgd : Region.wanted op (yielded ops a.tmps) = true) (h : wpList P ops Q rest (a.put op.dst (.agg cs.toArray)) w) : wpList P ops Q (op :: rest) a w := wpList_load_midW hgd ty x ho b o hx cs d hc hu hd hi h
end

set_option maxHeartbeats 8000000 in
set_option maxRecDepth 100000 in
theorem refKeyGet_any (ok : Nat → Prop) (k : Sx) (v : SV) (w : World) (hr : RdI ok w v k) : Calls Tryd.prog 33 #[v.val] w (RKeyP ok k w) := by
  obtain ⟨kl, kh, khi, kda, ks⟩ := k
  have HRV : Hid (Rd w _ _) := Lib.hid (hr.mono (fun _ _ => trivial))
  obtain ⟨e1, e2, _, _, hn, hnc, hcm, K, hrow, hk⟩ := hr.parts
  obtain ⟨vl, vh, va1, vn1, vc1, va2, vn2, vc2, va3, vn3, vc3⟩ := v
  replace hn : vn3 = ks.length := hn
  replace hnc : vn3 ≤ vc3 := hnc
  replace hcm : vc3 ≤ maxLen := hcm
  unfold maxLen at hcm
  replace hk : ∀ i (hi : i < ks.length), RdI ok w (K i) ks[i] := hk
  replace hrow : RowAt w va3 vn3 vc3 K := hrow
  have HN := Lib.hid hn
  have HK := Lib.hid hk
  have HROW := Lib.hid hrow
  unfold SV.val
  show Calls _ _ #[.agg #[.bool vl, .bool vh, .slice va1 vn1 vc1, .slice va2 vn2 vc2, .slice va3 vn3 vc3]] _ _
  have B : Below w.heap.size w ((w.alloc (.cells #[.bool vl, .bool vh, .slice va1 vn1 vc1, .slice va2 vn2 vc2, .slice va3 vn3 vc3] 37)).alloc (.cells #[.bool false, .slice none 0 0] 24)) := ((Below.refl _ _).alloc (Nat.le_refl _) _).alloc (by simp) _
  have V : Hid (Box ((w.alloc (.cells #[.bool vl, .bool vh, .slice va1 vn1 vc1, .slice va2 vn2 vc2, .slice va3 vn3 vc3] 37)).alloc (.cells #[.bool false, .slice none 0 0] 24)) w.heap.size 37 #[.bool vl, .bool vh, .slice va1 vn1 vc1, .slice va2 vn2 vc2, .slice va3 vn3 vc3]) := Lib.hid ((Box.new _ _ _).alloc _)
  have X : Hid (Box ((w.alloc (.cells #[.bool vl, .bool vh, .slice va1 vn1 vc1, .slice va2 vn2 vc2, .slice va3 vn3 vc3] 37)).alloc (.cells #[.bool false, .slice none 0 0] 24)) (w.heap.size + 1) 24 #[.bool false, .slice none 0 0]) := Lib.hid (by
    have := Box.new (w.alloc (.cells #[.bool vl, .bool vh, .slice va1 vn1 vc1, .slice va2 vn2 vc2, .slice va3 vn3 vc3] 37)) 24 #[.bool false, .slice none 0 0]
    simpa using this)
  have C1 := Lib.hid (fun w' h => head_any (.mk kl kh khi kda ks) ⟨#[104, 97, 115, 104]⟩ ⟨vl, vh, va1, vn1, vc1, va2, vn2, vc2, va3, vn3, vc3⟩ w' h)
  rw [headB_eq _ _ haL (by simp [haL])] at C1
  have C4 := Lib.hid (fun w' h => head_any (.mk kl kh khi kda ks) ⟨#[112, 117, 98, 108, 105, 99, 45, 107, 101, 121]⟩ ⟨vl, vh, va1, vn1, vc1, va2, vn2, vc2, va3, vn3, vc3⟩ w' h)
  rw [headB_eq _ _ pkL (by simp [pkL])] at C4
  have HRK : Hid (refKey (.mk kl kh khi kda ks) = if headL (.mk kl kh khi kda ks) haL && hashB (.mk kl kh khi kda ks) then some (true, (ks.getD 2 Sx.nil).da) else if headL (.mk kl kh khi kda ks) pkL && pubB (.mk kl kh khi kda ks) then some (false, ((ks.getD 1 Sx.nil).ks.getD 1 Sx.nil).da) else none) := Lib.hid rfl
  generalize headL (.mk kl kh khi kda ks) haL = r1 at *
  generalize headL (.mk kl kh khi kda ks) pkL = r4 at *
  clear hr e1 e2 hn hk hrow
  go_enter Tryd.func33, Tryd.ntmps33
  go_upto_region 1 with fail
  change Code.wp _ _ _ _ ((w.alloc (.cells #[.bool vl, .bool vh, .slice va1 vn1 vc1, .slice va2 vn2 vc2, .slice va3 vn3 vc3] 37)).alloc (.cells #[.bool false, .slice none 0 0] 24))
  generalize ((w.alloc (.cells #[.bool vl, .bool vh, .slice va1 vn1 vc1, .slice va2 vn2 vc2, .slice va3 vn3 vc3] 37)).alloc (.cells #[.bool false, .slice none 0 0] 24)) = x0 at *
  go_wp2_with (refine wpList_load_boxG 37 _ rfl V.out (by rfl) Tryd.underlying37 rfl (by kernel_rfl) rfl ?_)
  refine (C1.out x0 (HRV.out.after B)).mono ?_
  rintro e x1 ⟨rfl, bx1⟩
  replace V := Lib.hid (V.out.after bx1)
  replace X := Lib.hid (X.out.after bx1)
  replace B := B.trans (bx1.mono B.size)
  clear bx1
  have v4 := V.out.cell 4 rfl
  cases r1 with
  | false =>
    go_upto_region 3 with fail
    go_wp2_with (refine wpList_load_boxG 37 _ rfl V.out (by rfl) Tryd.underlying37 rfl (by kernel_rfl) rfl ?_)
    refine (C4.out x1 (HRV.out.after B)).mono ?_
    rintro e x2 ⟨rfl, bx2⟩
    replace V := Lib.hid (V.out.after bx2)
    replace X := Lib.hid (X.out.after bx2)
    replace B := B.trans (bx2.mono B.size)
    clear bx2
    have v4 := V.out.cell 4 rfl
    cases r4 with
    | false =>
      have HF : Hid (refKey (Sx.mk kl kh khi kda ks) = none) := Lib.hid (by rw [HRK.out]; rw [Bool.false_and, if_neg (by simp)]; rfl)
      go_upto_region 5 with fail
      go_wp2_with (refine wpList_store_box (cells := #[.bool false, .slice none 0 0]) rfl 24 _ _ rfl X.out (by rfl) (by rfl) rfl (by kernel_rfl) (by simp [Value.oneCell']) ?_; intro u9 X9 st9)
      have B9 := st9.below w.heap.size w (by omega) B
      exact bodyPost_ret (v := .tuple #[.agg #[.bool false, .slice none 0 0], .bool false]) (box_result2 (p := 2) (q := 3) rfl _ _ (by rfl) X9 Tryd.underlying24 rfl (by kernel_rfl)) rfl (.inr ⟨HF.out, rfl, B9⟩)
    | true =>
      by_cases h2 : vn3 = 2
      case neg =>
        have hq2 : ((vn3 : Int) == 2) = false := by simp; omega
        have HPB : Hid (pubB (Sx.mk kl kh khi kda ks) = false) := Lib.hid (pubB_n _ _ _ _ _ (by have := HN.out; omega))
        clear h2
        have HF : Hid (refKey (Sx.mk kl kh khi kda ks) = none) := Lib.hid (by rw [HRK.out]; rw [Bool.false_and, if_neg (by simp)]; rw [HPB.out]; rfl)
        go_upto_region 5 with fail
        go_wp2_with (refine wpList_store_box (cells := #[.bool false, .slice none 0 0]) rfl 24 _ _ rfl X.out (by rfl) (by rfl) rfl (by kernel_rfl) (by simp [Value.oneCell']) ?_; intro u9 X9 st9)
        have B9 := st9.below w.heap.size w (by omega) B
        exact bodyPost_ret (v := .tuple #[.agg #[.bool false, .slice none 0 0], .bool false]) (box_result2 (p := 2) (q := 3) rfl _ _ (by rfl) X9 Tryd.underlying24 rfl (by kernel_rfl)) rfl (.inr ⟨HF.out, rfl, B9⟩)
      case pos =>
        subst h2
        obtain ⟨k0, k1, rfl⟩ : ∃ k0 k1, ks = [k0, k1] := by
          have := HN.out
          rcases ks with _ | ⟨a, _ | ⟨b, _ | ⟨c, r⟩⟩⟩ <;> simp at this
          exact ⟨_, _, rfl⟩
        have R1 : Hid (RdI ok w (K 1) k1) := Lib.hid (HK.out 1 (by simp))
        obtain ⟨b, o, rfl, hl1⟩ := (HROW.out.after B).range (i := 1) (by omega)
        have c9 := hl1 4 _ rfl
        rw [show o + 1 * 5 + 4 = o + 9 by omega] at c9
        replace hl1 := Lib.hid hl1
        obtain ⟨_, _, _, _, hn1, hnc1, hcm1, K1, hrow1, hk1⟩ := R1.out.parts
        have HN1 := Lib.hid hn1
        have HROW1 := Lib.hid hrow1
        have HK1 := Lib.hid hk1
        unfold maxLen at hcm1
        clear hn1 hrow1 hk1
        have C5 := Lib.hid (fun w' h => head_any k1 ⟨#[101, 100, 50, 53, 53, 49, 57]⟩ (K 1) w' h)
        rw [headB_eq _ _ edL (by simp [edL])] at C5
        have HPB : Hid (pubB (Sx.mk kl kh khi kda [k0, k1]) = (headL k1 edL && lastB k1)) := Lib.hid rfl
        generalize headL k1 edL = r5 at *
        obtain ⟨kv1, hkv⟩ : ∃ z, K 1 = z := ⟨_, rfl⟩
        obtain ⟨pl, ph, pa1, pn1, pc1, pa2, pn2, pc2, pa3, pn3, pc3⟩ := kv1
        rw [hkv] at hnc1 hcm1 HN1 HROW1 R1 C5 c9 hl1
        have HKV := Lib.hid hkv
        clear hkv
        replace HN1 : Hid (pn3 = k1.ks.length) := HN1
        replace hnc1 : pn3 ≤ pc3 := hnc1
        replace hcm1 : pc3 ≤ 2 ^ 63 - 1 := hcm1
        replace HROW1 : Hid (RowAt w pa3 pn3 pc3 K1) := HROW1
        replace c9 : x2.cell? ⟨b, o + 9, none⟩ = some (.slice pa3 pn3 pc3) := c9
        go_wp2_with (refine wpList_load_midG 37 _ rfl b _ rfl _ _ hl1.out Tryd.underlying37 rfl (by kernel_rfl) rfl ?_)
        refine (C5.out x2 ((R1.out.after B).mono (fun _ _ => trivial))).mono ?_
        rintro e x3 ⟨rfl, bx3⟩
        replace V := Lib.hid (V.out.after bx3)
        replace X := Lib.hid (X.out.after bx3)
        replace B := B.trans (bx3.mono B.size)
        clear bx3
        have v4 := V.out.cell 4 rfl
        have c9 : x3.cell? ⟨b, o + 9, none⟩ = some (.slice pa3 pn3 pc3) := by have := (HROW.out.after B).rangeA (i := 1) (by omega) 4 _ rfl; rwa [show o + 1 * 5 + 4 = o + 9 by omega, HKV.out] at this
        cases r5 with
        | false =>
          have HF : Hid (refKey (Sx.mk kl kh khi kda [k0, k1]) = none) := Lib.hid (by rw [HRK.out]; rw [Bool.false_and, if_neg (by simp)]; rw [HPB.out]; rfl)
          go_upto_region 5 with fail
          go_wp2_with (refine wpList_store_box (cells := #[.bool false, .slice none 0 0]) rfl 24 _ _ rfl X.out (by rfl) (by rfl) rfl (by kernel_rfl) (by simp [Value.oneCell']) ?_; intro u9 X9 st9)
          have B9 := st9.below w.heap.size w (by omega) B
          exact bodyPost_ret (v := .tuple #[.agg #[.bool false, .slice none 0 0], .bool false]) (box_result2 (p := 2) (q := 3) rfl _ _ (by rfl) X9 Tryd.underlying24 rfl (by kernel_rfl)) rfl (.inr ⟨HF.out, rfl, B9⟩)
        | true =>
          by_cases h4 : pn3 = 2
          case neg =>
            have hq4 : ((pn3 : Int) == 2) = false := by simp; omega
            have HLB : Hid (lastB k1 = false) := Lib.hid (lastB_n _ (by have := HN1.out; omega))
            clear h4
            have HF : Hid (refKey (Sx.mk kl kh khi kda [k0, k1]) = none) := Lib.hid (by rw [HRK.out]; rw [Bool.false_and, if_neg (by simp)]; rw [HPB.out, HLB.out]; rfl)
            go_upto_region 5 with fail
            go_wp2_with (refine wpList_store_box (cells := #[.bool false, .slice none 0 0]) rfl 24 _ _ rfl X.out (by rfl) (by rfl) rfl (by kernel_rfl) (by simp [Value.oneCell']) ?_; intro u9 X9 st9)
            have B9 := st9.below w.heap.size w (by omega) B
            exact bodyPost_ret (v := .tuple #[.agg #[.bool false, .slice none 0 0], .bool false]) (box_result2 (p := 2) (q := 3) rfl _ _ (by rfl) X9 Tryd.underlying24 rfl (by kernel_rfl)) rfl (.inr ⟨HF.out, rfl, B9⟩)
          case pos =>
            subst h4
            obtain ⟨y0, y1, hyy⟩ : ∃ y0 y1, k1.ks = [y0, y1] := by
              have := HN1.out
              rcases hks : k1.ks with _ | ⟨a, _ | ⟨b, _ | ⟨c, r⟩⟩⟩ <;> rw [hks] at this <;> simp at this
              exact ⟨_, _, rfl⟩
            have RY : Hid (RdI ok w (K1 1) y1) := Lib.hid (by have := HK1.out 1 (by have := HN1.out; omega); simpa [hyy] using this)
            have HLB : Hid (lastB k1 = plainB y1 32) := Lib.hid (by unfold lastB; rw [hyy])
            have HGD : Hid ((((Sx.mk kl kh khi kda [k0, k1]).ks.getD 1 Sx.nil).ks.getD 1 Sx.nil).da = y1.da) := Lib.hid (by show ((k1).ks.getD 1 Sx.nil).da = y1.da; rw [hyy]; rfl)
            clear hyy
            obtain ⟨b1, o1, rfl, hl2⟩ := (HROW1.out.after B).range (i := 1) (by omega)
            have c8 := hl2 3 _ rfl
            rw [show o1 + 1 * 5 + 3 = o1 + 8 by omega] at c8
            replace hl2 := Lib.hid hl2
            have C6 := Lib.hid (fun w' h => plain_any y1 32 (K1 1) w' h)
            generalize plainB y1 32 = r6 at *
            go_wp2_with (refine wpList_load_midG 37 _ rfl b1 _ rfl _ _ hl2.out Tryd.underlying37 rfl (by kernel_rfl) rfl ?_)
            refine (C6.out x3 ((RY.out.after B).mono (fun _ _ => trivial))).mono ?_
            rintro e x4 ⟨rfl, bx4⟩
            replace V := Lib.hid (V.out.after bx4)
            replace X := Lib.hid (X.out.after bx4)
            replace B := B.trans (bx4.mono B.size)
            clear bx4
            have v4 := V.out.cell 4 rfl
            have c9 : x4.cell? ⟨b, o + 9, none⟩ = some (.slice (some ⟨b1, o1, none⟩) 2 pc3) := by have := (HROW.out.after B).rangeA (i := 1) (by omega) 4 _ rfl; rwa [show o + 1 * 5 + 4 = o + 9 by omega, HKV.out] at this
            have c8 : x4.cell? ⟨b1, o1 + 8, none⟩ = some (.slice (K1 1).a2 (K1 1).n2 (K1 1).c2) := by have := (HROW1.out.after B).rangeA (i := 1) (by omega) 3 _ rfl; rwa [show o1 + 1 * 5 + 3 = o1 + 8 by omega] at this
            cases r6 with
            | false =>
              have HF : Hid (refKey (Sx.mk kl kh khi kda [k0, k1]) = none) := Lib.hid (by rw [HRK.out]; rw [Bool.false_and, if_neg (by simp)]; rw [HPB.out, HLB.out]; rfl)
              go_upto_region 5 with fail
              go_wp2_with (refine wpList_store_box (cells := #[.bool false, .slice none 0 0]) rfl 24 _ _ rfl X.out (by rfl) (by rfl) rfl (by kernel_rfl) (by simp [Value.oneCell']) ?_; intro u9 X9 st9)
              have B9 := st9.below w.heap.size w (by omega) B
              exact bodyPost_ret (v := .tuple #[.agg #[.bool false, .slice none 0 0], .bool false]) (box_result2 (p := 2) (q := 3) rfl _ _ (by rfl) X9 Tryd.underlying24 rfl (by kernel_rfl)) rfl (.inr ⟨HF.out, rfl, B9⟩)
            | true =>
              have HF : Hid (refKey (Sx.mk kl kh khi kda [k0, k1]) = some (false, y1.da)) := Lib.hid (by rw [HRK.out]; rw [Bool.false_and, if_neg (by simp)]; rw [HPB.out, HLB.out]; exact congrArg (fun z => some (false, z)) HGD.out)
              have HSL := Lib.hid (And.intro RY.out.parts.2.2.2.1 RY.out.inb.2.1)
              go_upto_region 4 with fail
              go_wp2_with (refine wpList_store_box (cells := #[.bool false, .slice (K1 1).a2 (K1 1).n2 (K1 1).c2]) rfl 24 _ _ rfl X.out (by rfl) (by rfl) rfl (by kernel_rfl) (by simp [Value.oneCell']) ?_; intro u9 X9 st9)
              have B9 := st9.below w.heap.size w (by omega) B
              exact bodyPost_ret (v := .tuple #[.agg #[.bool false, .slice (K1 1).a2 (K1 1).n2 (K1 1).c2], .bool true]) (box_result2 (p := 2) (q := 3) rfl _ _ (by rfl) X9 Tryd.underlying24 rfl (by kernel_rfl)) rfl (.inl ⟨false, y1.da, HF.out, (K1 1).a2, (K1 1).n2, (K1 1).c2, rfl, HSL.out.1, HSL.out.2, B9⟩)
  | true =>
    by_cases h3 : vn3 = 3
    case neg =>
      have hq3 : ((vn3 : Int) == 3) = false := by simp; omega
      have HHB : Hid (hashB (Sx.mk kl kh khi kda ks) = false) := Lib.hid (hashB_n _ _ _ _ _ (by have := HN.out; omega))
      clear h3
      go_upto_region 3 with fail
      go_wp2_with (refine wpList_load_boxG 37 _ rfl V.out (by rfl) Tryd.underlying37 rfl (by kernel_rfl) rfl ?_)
      refine (C4.out x1 (HRV.out.after B)).mono ?_
      rintro e x2 ⟨rfl, bx2⟩
      replace V := Lib.hid (V.out.after bx2)
      replace X := Lib.hid (X.out.after bx2)
      replace B := B.trans (bx2.mono B.size)
      clear bx2
      have v4 := V.out.cell 4 rfl
      cases r4 with
      | false =>
        have HF : Hid (refKey (Sx.mk kl kh khi kda ks) = none) := Lib.hid (by rw [HRK.out]; rw [HHB.out, Bool.and_false, if_neg (by simp)]; rfl)
        go_upto_region 5 with fail
        go_wp2_with (refine wpList_store_box (cells := #[.bool false, .slice none 0 0]) rfl 24 _ _ rfl X.out (by rfl) (by rfl) rfl (by kernel_rfl) (by simp [Value.oneCell']) ?_; intro u9 X9 st9)
        have B9 := st9.below w.heap.size w (by omega) B
        exact bodyPost_ret (v := .tuple #[.agg #[.bool false, .slice none 0 0], .bool false]) (box_result2 (p := 2) (q := 3) rfl _ _ (by rfl) X9 Tryd.underlying24 rfl (by kernel_rfl)) rfl (.inr ⟨HF.out, rfl, B9⟩)
      | true =>
        by_cases h2 : vn3 = 2
        case neg =>
          have hq2 : ((vn3 : Int) == 2) = false := by simp; omega
          have HPB : Hid (pubB (Sx.mk kl kh khi kda ks) = false) := Lib.hid (pubB_n _ _ _ _ _ (by have := HN.out; omega))
          clear h2
          have HF : Hid (refKey (Sx.mk kl kh khi kda ks) = none) := Lib.hid (by rw [HRK.out]; rw [HHB.out, Bool.and_false, if_neg (by simp)]; rw [HPB.out]; rfl)
          go_upto_region 5 with fail
          go_wp2_with (refine wpList_store_box (cells := #[.bool false, .slice none 0 0]) rfl 24 _ _ rfl X.out (by rfl) (by rfl) rfl (by kernel_rfl) (by simp [Value.oneCell']) ?_; intro u9 X9 st9)
          have B9 := st9.below w.heap.size w (by omega) B
          exact bodyPost_ret (v := .tuple #[.agg #[.bool false, .slice none 0 0], .bool false]) (box_result2 (p := 2) (q := 3) rfl _ _ (by rfl) X9 Tryd.underlying24 rfl (by kernel_rfl)) rfl (.inr ⟨HF.out, rfl, B9⟩)
        case pos =>
          subst h2
          obtain ⟨k0, k1, rfl⟩ : ∃ k0 k1, ks = [k0, k1] := by
            have := HN.out
            rcases ks with _ | ⟨a, _ | ⟨b, _ | ⟨c, r⟩⟩⟩ <;> simp at this
            exact ⟨_, _, rfl⟩
          have R1 : Hid (RdI ok w (K 1) k1) := Lib.hid (HK.out 1 (by simp))
          obtain ⟨b, o, rfl, hl1⟩ := (HROW.out.after B).range (i := 1) (by omega)
          have c9 := hl1 4 _ rfl
          rw [show o + 1 * 5 + 4 = o + 9 by omega] at c9
          replace hl1 := Lib.hid hl1
          obtain ⟨_, _, _, _, hn1, hnc1, hcm1, K1, hrow1, hk1⟩ := R1.out.parts
          have HN1 := Lib.hid hn1
          have HROW1 := Lib.hid hrow1
          have HK1 := Lib.hid hk1
          unfold maxLen at hcm1
          clear hn1 hrow1 hk1
          have C5 := Lib.hid (fun w' h => head_any k1 ⟨#[101, 100, 50, 53, 53, 49, 57]⟩ (K 1) w' h)
          rw [headB_eq _ _ edL (by simp [edL])] at C5
          have HPB : Hid (pubB (Sx.mk kl kh khi kda [k0, k1]) = (headL k1 edL && lastB k1)) := Lib.hid rfl
          generalize headL k1 edL = r5 at *
          obtain ⟨kv1, hkv⟩ : ∃ z, K 1 = z := ⟨_, rfl⟩
          obtain ⟨pl, ph, pa1, pn1, pc1, pa2, pn2, pc2, pa3, pn3, pc3⟩ := kv1
          rw [hkv] at hnc1 hcm1 HN1 HROW1 R1 C5 c9 hl1
          have HKV := Lib.hid hkv
          clear hkv
          replace HN1 : Hid (pn3 = k1.ks.length) := HN1
          replace hnc1 : pn3 ≤ pc3 := hnc1
          replace hcm1 : pc3 ≤ 2 ^ 63 - 1 := hcm1
          replace HROW1 : Hid (RowAt w pa3 pn3 pc3 K1) := HROW1
          replace c9 : x2.cell? ⟨b, o + 9, none⟩ = some (.slice pa3 pn3 pc3) := c9
          go_wp2_with (refine wpList_load_midG 37 _ rfl b _ rfl _ _ hl1.out Tryd.underlying37 rfl (by kernel_rfl) rfl ?_)
          refine (C5.out x2 ((R1.out.after B).mono (fun _ _ => trivial))).mono ?_
          rintro e x3 ⟨rfl, bx3⟩
          replace V := Lib.hid (V.out.after bx3)
          replace X := Lib.hid (X.out.after bx3)
          replace B := B.trans (bx3.mono B.size)
          clear bx3
          have v4 := V.out.cell 4 rfl
          have c9 : x3.cell? ⟨b, o + 9, none⟩ = some (.slice pa3 pn3 pc3) := by have := (HROW.out.after B).rangeA (i := 1) (by omega) 4 _ rfl; rwa [show o + 1 * 5 + 4 = o + 9 by omega, HKV.out] at this
          cases r5 with
          | false =>
            have HF : Hid (refKey (Sx.mk kl kh khi kda [k0, k1]) = none) := Lib.hid (by rw [HRK.out]; rw [HHB.out, Bool.and_false, if_neg (by simp)]; rw [HPB.out]; rfl)
            go_upto_region 5 with fail
            go_wp2_with (refine wpList_store_box (cells := #[.bool false, .slice none 0 0]) rfl 24 _ _ rfl X.out (by rfl) (by rfl) rfl (by kernel_rfl) (by simp [Value.oneCell']) ?_; intro u9 X9 st9)
            have B9 := st9.below w.heap.size w (by omega) B
            exact bodyPost_ret (v := .tuple #[.agg #[.bool false, .slice none 0 0], .bool false]) (box_result2 (p := 2) (q := 3) rfl _ _ (by rfl) X9 Tryd.underlying24 rfl (by kernel_rfl)) rfl (.inr ⟨HF.out, rfl, B9⟩)
          | true =>
            by_cases h4 : pn3 = 2
            case neg =>
              have hq4 : ((pn3 : Int) == 2) = false := by simp; omega
              have HLB : Hid (lastB k1 = false) := Lib.hid (lastB_n _ (by have := HN1.out; omega))
              clear h4
              have HF : Hid (refKey (Sx.mk kl kh khi kda [k0, k1]) = none) := Lib.hid (by rw [HRK.out]; rw [HHB.out, Bool.and_false, if_neg (by simp)]; rw [HPB.out, HLB.out]; rfl)
              go_upto_region 5 with fail
              go_wp2_with (refine wpList_store_box (cells := #[.bool false, .slice none 0 0]) rfl 24 _ _ rfl X.out (by rfl) (by rfl) rfl (by kernel_rfl) (by simp [Value.oneCell']) ?_; intro u9 X9 st9)
              have B9 := st9.below w.heap.size w (by omega) B
              exact bodyPost_ret (v := .tuple #[.agg #[.bool false, .slice none 0 0], .bool false]) (box_result2 (p := 2) (q := 3) rfl _ _ (by rfl) X9 Tryd.underlying24 rfl (by kernel_rfl)) rfl (.inr ⟨HF.out, rfl, B9⟩)
            case pos =>
              subst h4
              obtain ⟨y0, y1, hyy⟩ : ∃ y0 y1, k1.ks = [y0, y1] := by
                have := HN1.out
                rcases hks : k1.ks with _ | ⟨a, _ | ⟨b, _ | ⟨c, r⟩⟩⟩ <;> rw [hks] at this <;> simp at this
                exact ⟨_, _, rfl⟩
              have RY : Hid (RdI ok w (K1 1) y1) := Lib.hid (by have := HK1.out 1 (by have := HN1.out; omega); simpa [hyy] using this)
              have HLB : Hid (lastB k1 = plainB y1 32) := Lib.hid (by unfold lastB; rw [hyy])
              have HGD : Hid ((((Sx.mk kl kh khi kda [k0, k1]).ks.getD 1 Sx.nil).ks.getD 1 Sx.nil).da = y1.da) := Lib.hid (by show ((k1).ks.getD 1 Sx.nil).da = y1.da; rw [hyy]; rfl)
              clear hyy
              obtain ⟨b1, o1, rfl, hl2⟩ := (HROW1.out.after B).range (i := 1) (by omega)
              have c8 := hl2 3 _ rfl
              rw [show o1 + 1 * 5 + 3 = o1 + 8 by omega] at c8
              replace hl2 := Lib.hid hl2
              have C6 := Lib.hid (fun w' h => plain_any y1 32 (K1 1) w' h)
              generalize plainB y1 32 = r6 at *
              go_wp2_with (refine wpList_load_midG 37 _ rfl b1 _ rfl _ _ hl2.out Tryd.underlying37 rfl (by kernel_rfl) rfl ?_)
              refine (C6.out x3 ((RY.out.after B).mono (fun _ _ => trivial))).mono ?_
              rintro e x4 ⟨rfl, bx4⟩
              replace V := Lib.hid (V.out.after bx4)
              replace X := Lib.hid (X.out.after bx4)
              replace B := B.trans (bx4.mono B.size)
              clear bx4
              have v4 := V.out.cell 4 rfl
              have c9 : x4.cell? ⟨b, o + 9, none⟩ = some (.slice (some ⟨b1, o1, none⟩) 2 pc3) := by have := (HROW.out.after B).rangeA (i := 1) (by omega) 4 _ rfl; rwa [show o + 1 * 5 + 4 = o + 9 by omega, HKV.out] at this
              have c8 : x4.cell? ⟨b1, o1 + 8, none⟩ = some (.slice (K1 1).a2 (K1 1).n2 (K1 1).c2) := by have := (HROW1.out.after B).rangeA (i := 1) (by omega) 3 _ rfl; rwa [show o1 + 1 * 5 + 3 = o1 + 8 by omega] at this
              cases r6 with
              | false =>
                have HF : Hid (refKey (Sx.mk kl kh khi kda [k0, k1]) = none) := Lib.hid (by rw [HRK.out]; rw [HHB.out, Bool.and_false, if_neg (by simp)]; rw [HPB.out, HLB.out]; rfl)
                go_upto_region 5 with fail
                go_wp2_with (refine wpList_store_box (cells := #[.bool false, .slice none 0 0]) rfl 24 _ _ rfl X.out (by rfl) (by rfl) rfl (by kernel_rfl) (by simp [Value.oneCell']) ?_; intro u9 X9 st9)
                have B9 := st9.below w.heap.size w (by omega) B
                exact bodyPost_ret (v := .tuple #[.agg #[.bool false, .slice none 0 0], .bool false]) (box_result2 (p := 2) (q := 3) rfl _ _ (by rfl) X9 Tryd.underlying24 rfl (by kernel_rfl)) rfl (.inr ⟨HF.out, rfl, B9⟩)
              | true =>
                have HF : Hid (refKey (Sx.mk kl kh khi kda [k0, k1]) = some (false, y1.da)) := Lib.hid (by rw [HRK.out]; rw [HHB.out, Bool.and_false, if_neg (by simp)]; rw [HPB.out, HLB.out]; exact congrArg (fun z => some (false, z)) HGD.out)
                have HSL := Lib.hid (And.intro RY.out.parts.2.2.2.1 RY.out.inb.2.1)
                go_upto_region 4 with fail
                go_wp2_with (refine wpList_store_box (cells := #[.bool false, .slice (K1 1).a2 (K1 1).n2 (K1 1).c2]) rfl 24 _ _ rfl X.out (by rfl) (by rfl) rfl (by kernel_rfl) (by simp [Value.oneCell']) ?_; intro u9 X9 st9)
                have B9 := st9.below w.heap.size w (by omega) B
                exact bodyPost_ret (v := .tuple #[.agg #[.bool false, .slice (K1 1).a2 (K1 1).n2 (K1 1).c2], .bool true]) (box_result2 (p := 2) (q := 3) rfl _ _ (by rfl) X9 Tryd.underlying24 rfl (by kernel_rfl)) rfl (.inl ⟨false, y1.da, HF.out, (K1 1).a2, (K1 1).n2, (K1 1).c2, rfl, HSL.out.1, HSL.out.2, B9⟩)
    case pos =>
      subst h3
      obtain ⟨k0, k1, k2, rfl⟩ : ∃ k0 k1 k2, ks = [k0, k1, k2] := by
        have := HN.out
        rcases ks with _ | ⟨a, _ | ⟨b, _ | ⟨c, _ | ⟨d, r⟩⟩⟩⟩ <;> simp at this
        exact ⟨_, _, _, rfl⟩
      have R1 : Hid (RdI ok w (K 1) k1) := Lib.hid (HK.out 1 (by simp))
      have R2 : Hid (RdI ok w (K 2) k2) := Lib.hid (HK.out 2 (by simp))
      obtain ⟨b, o, rfl, hl1⟩ := (HROW.out.after B).range (i := 1) (by omega)
      replace hl1 := Lib.hid hl1
      have C2 := Lib.hid (fun w' h => is_any k1 ⟨#[115, 104, 97, 53, 49, 50]⟩ (K 1) w' h)
      rw [isB_eq _ _ shL (by simp [shL])] at C2
      have C3 := Lib.hid (fun w' h => plain_any k2 64 (K 2) w' h)
      have HHB : Hid (hashB (Sx.mk kl kh khi kda [k0, k1, k2]) = (atomB k1 shL && plainB k2 64)) := Lib.hid rfl
      generalize atomB k1 shL = r2 at *
      generalize plainB k2 64 = r3 at *
      go_wp2_with (refine wpList_load_midG 37 _ rfl b _ rfl _ _ hl1.out Tryd.underlying37 rfl (by kernel_rfl) rfl ?_)
      refine (C2.out x1 ((R1.out.after B).mono (fun _ _ => trivial))).mono ?_
      rintro e x2 ⟨rfl, bx2⟩
      replace V := Lib.hid (V.out.after bx2)
      replace X := Lib.hid (X.out.after bx2)
      replace B := B.trans (bx2.mono B.size)
      clear bx2
      have v4 := V.out.cell 4 rfl
      cases r2 with
      | false =>
        go_upto_region 3 with fail
        go_wp2_with (refine wpList_load_boxG 37 _ rfl V.out (by rfl) Tryd.underlying37 rfl (by kernel_rfl) rfl ?_)
        refine (C4.out x2 (HRV.out.after B)).mono ?_
        rintro e x3 ⟨rfl, bx3⟩
        replace V := Lib.hid (V.out.after bx3)
        replace X := Lib.hid (X.out.after bx3)
        replace B := B.trans (bx3.mono B.size)
        clear bx3
        have v4 := V.out.cell 4 rfl
        cases r4 with
        | false =>
          have HF : Hid (refKey (Sx.mk kl kh khi kda [k0, k1, k2]) = none) := Lib.hid (by rw [HRK.out]; rw [HHB.out, if_neg (by simp)]; rfl)
          go_upto_region 5 with fail
          go_wp2_with (refine wpList_store_box (cells := #[.bool false, .slice none 0 0]) rfl 24 _ _ rfl X.out (by rfl) (by rfl) rfl (by kernel_rfl) (by simp [Value.oneCell']) ?_; intro u9 X9 st9)
          have B9 := st9.below w.heap.size w (by omega) B
          exact bodyPost_ret (v := .tuple #[.agg #[.bool false, .slice none 0 0], .bool false]) (box_result2 (p := 2) (q := 3) rfl _ _ (by rfl) X9 Tryd.underlying24 rfl (by kernel_rfl)) rfl (.inr ⟨HF.out, rfl, B9⟩)
        | true =>
          have HF : Hid (refKey (Sx.mk kl kh khi kda [k0, k1, k2]) = none) := Lib.hid (by rw [HRK.out]; rw [HHB.out, if_neg (by simp)]; rw [pubB_n _ _ _ _ _ (by have := HN.out; omega)]; rfl)
          go_upto_region 5 with fail
          go_wp2_with (refine wpList_store_box (cells := #[.bool false, .slice none 0 0]) rfl 24 _ _ rfl X.out (by rfl) (by rfl) rfl (by kernel_rfl) (by simp [Value.oneCell']) ?_; intro u9 X9 st9)
          have B9 := st9.below w.heap.size w (by omega) B
          exact bodyPost_ret (v := .tuple #[.agg #[.bool false, .slice none 0 0], .bool false]) (box_result2 (p := 2) (q := 3) rfl _ _ (by rfl) X9 Tryd.underlying24 rfl (by kernel_rfl)) rfl (.inr ⟨HF.out, rfl, B9⟩)
      | true =>
        have hl2 := Lib.hid ((HROW.out.after B).rangeA (i := 2) (by omega))
        go_wp2_with (refine wpList_load_midG 37 _ rfl b _ rfl _ _ hl2.out Tryd.underlying37 rfl (by kernel_rfl) rfl ?_)
        refine (C3.out x2 ((R2.out.after B).mono (fun _ _ => trivial))).mono ?_
        rintro e x3 ⟨rfl, bx3⟩
        replace V := Lib.hid (V.out.after bx3)
        replace X := Lib.hid (X.out.after bx3)
        replace B := B.trans (bx3.mono B.size)
        clear bx3
        have v4 := V.out.cell 4 rfl
        cases r3 with
        | false =>
          go_upto_region 3 with fail
          go_wp2_with (refine wpList_load_boxG 37 _ rfl V.out (by rfl) Tryd.underlying37 rfl (by kernel_rfl) rfl ?_)
          refine (C4.out x3 (HRV.out.after B)).mono ?_
          rintro e x4 ⟨rfl, bx4⟩
          replace V := Lib.hid (V.out.after bx4)
          replace X := Lib.hid (X.out.after bx4)
          replace B := B.trans (bx4.mono B.size)
          clear bx4
          have v4 := V.out.cell 4 rfl
          cases r4 with
          | false =>
            have HF : Hid (refKey (Sx.mk kl kh khi kda [k0, k1, k2]) = none) := Lib.hid (by rw [HRK.out]; rw [HHB.out, if_neg (by simp)]; rfl)
            go_upto_region 5 with fail
            go_wp2_with (refine wpList_store_box (cells := #[.bool false, .slice none 0 0]) rfl 24 _ _ rfl X.out (by rfl) (by rfl) rfl (by kernel_rfl) (by simp [Value.oneCell']) ?_; intro u9 X9 st9)
            have B9 := st9.below w.heap.size w (by omega) B
            exact bodyPost_ret (v := .tuple #[.agg #[.bool false, .slice none 0 0], .bool false]) (box_result2 (p := 2) (q := 3) rfl _ _ (by rfl) X9 Tryd.underlying24 rfl (by kernel_rfl)) rfl (.inr ⟨HF.out, rfl, B9⟩)
          | true =>
            have HF : Hid (refKey (Sx.mk kl kh khi kda [k0, k1, k2]) = none) := Lib.hid (by rw [HRK.out]; rw [HHB.out, if_neg (by simp)]; rw [pubB_n _ _ _ _ _ (by have := HN.out; omega)]; rfl)
            go_upto_region 5 with fail
            go_wp2_with (refine wpList_store_box (cells := #[.bool false, .slice none 0 0]) rfl 24 _ _ rfl X.out (by rfl) (by rfl) rfl (by kernel_rfl) (by simp [Value.oneCell']) ?_; intro u9 X9 st9)
            have B9 := st9.below w.heap.size w (by omega) B
            exact bodyPost_ret (v := .tuple #[.agg #[.bool false, .slice none 0 0], .bool false]) (box_result2 (p := 2) (q := 3) rfl _ _ (by rfl) X9 Tryd.underlying24 rfl (by kernel_rfl)) rfl (.inr ⟨HF.out, rfl, B9⟩)
        | true =>
          have c13 : x3.cell? ⟨b, o + 13, none⟩ = some (.slice (K 2).a2 (K 2).n2 (K 2).c2) := by have := (HROW.out.after B).rangeA (i := 2) (by omega) 3 _ rfl; rwa [show o + 2 * 5 + 3 = o + 13 by omega] at this
          have HF : Hid (refKey (Sx.mk kl kh khi kda [k0, k1, k2]) = some (true, k2.da)) := Lib.hid (by rw [HRK.out]; rw [HHB.out]; rfl)
          have HSL := Lib.hid (And.intro R2.out.parts.2.2.2.1 R2.out.inb.2.1)
          go_upto_region 2 with fail
          go_wp2_with (refine wpList_store_box (cells := #[.bool true, .slice (K 2).a2 (K 2).n2 (K 2).c2]) rfl 24 _ _ rfl X.out (by rfl) (by rfl) rfl (by kernel_rfl) (by simp [Value.oneCell']) ?_; intro u9 X9 st9)
          have B9 := st9.below w.heap.size w (by omega) B
          exact bodyPost_ret (v := .tuple #[.agg #[.bool true, .slice (K 2).a2 (K 2).n2 (K 2).c2], .bool true]) (box_result2 (p := 2) (q := 3) rfl _ _ (by rfl) X9 Tryd.underlying24 rfl (by kernel_rfl)) rfl (.inl ⟨true, k2.da, HF.out, (K 2).a2, (K 2).n2, (K 2).c2, rfl, HSL.out.1, HSL.out.2, B9⟩)

theorem RKeyP.out {ok : Nat → Prop} {k : Sx} {w w' : World} {e : Ending} (h : RKeyP ok k w e w') : ∃ (s : Bool) (a : Option Addr) (n c : Nat), e = .returned (.tuple #[.agg #[.bool s, .slice a n c], .bool (refKey k).isSome]) ∧ (∀ s' l', refKey k = some (s', l') → s' = s ∧ Sl w a n c l' ∧ InB ok a n) ∧ Below w.heap.size w w' := by
  rcases h with ⟨s, l, h1, a, n, c, rfl, h2, h3, h4⟩ | ⟨h1, rfl, h4⟩
  · exact ⟨s, a, n, c, by rw [h1]; rfl, fun s' l' h => by rw [h1] at h; cases h; exact ⟨rfl, h2, h3⟩, h4⟩
  · exact ⟨false, none, 0, 0, by rw [h1]; rfl, (fun s' l' h => by rw [h1] at h; cases h), h4⟩

/-- the same principal? -/
def keySame (s : Bool) (l : List UInt8) (s2 : Bool) (l2 : List UInt8) : Bool := s == s2 && l == l2

set_option maxHeartbeats 4000000 in
set_option maxRecDepth 100000 in
theorem refKeySame_any (s : Bool) (a : Option Addr) (n c : Nat) (l : List UInt8) (s2 : Bool) (a2 : Option Addr) (n2 c2 : Nat) (l2 : List UInt8) (w : World) (hs : Sl w a n c l) (hs2 : Sl w a2 n2 c2 l2) :
    Calls Tryd.prog 35 #[.agg #[.bool s, .slice a n c], .agg #[.bool s2, .slice a2 n2 c2]] w fun e w' => e = .returned (.bool (keySame s l s2 l2)) ∧ Below w.heap.size w w' := by
  have B0 : Below w.heap.size w ((w.alloc (.cells #[.bool s, .slice a n c] 24)).alloc (.cells #[.bool s2, .slice a2 n2 c2] 24)) := ((Below.refl _ _).alloc (Nat.le_refl _) _).alloc (by simp) _
  have V : Box ((w.alloc (.cells #[.bool s, .slice a n c] 24)).alloc (.cells #[.bool s2, .slice a2 n2 c2] 24)) w.heap.size 24 #[.bool s, .slice a n c] := (Box.new _ _ _).alloc _
  have X : Box ((w.alloc (.cells #[.bool s, .slice a n c] 24)).alloc (.cells #[.bool s2, .slice a2 n2 c2] 24)) (w.heap.size + 1) 24 #[.bool s2, .slice a2 n2 c2] := by
    have := Box.new (w.alloc (.cells #[.bool s, .slice a n c] 24)) 24 #[.bool s2, .slice a2 n2 c2]
    simpa using this
  have x0 := V.cell 0 rfl
  have x1 := V.cell 1 rfl
  have y0 := X.cell 0 rfl
  have y1 := X.cell 1 rfl
  have hc1 := conv_sl (hs.after B0)
  have hc2 := conv_sl (hs2.after B0)
  clear V X hs hs2
  unfold keySame
  by_cases hq : s = s2
  · have e1 : (s == s2) = true := by simp [hq]
    clear hq
    go_enter Tryd.func35, Tryd.ntmps35
    go_upto_region 1 with fail
    change Code.wp _ _ _ _ ((w.alloc (.cells #[.bool s, .slice a n c] 24)).alloc (.cells #[.bool s2, .slice a2 n2 c2] 24))
    generalize ((w.alloc (.cells #[.bool s, .slice a n c] 24)).alloc (.cells #[.bool s2, .slice a2 n2 c2] 24)) = x0w at *
    go_wp2_with fail
    go_ret
    exact ⟨by rw [e1]; simp, B0⟩
  · have e1 : (s == s2) = false := by simp [hq]
    go_enter Tryd.func35, Tryd.ntmps35
    go_upto_region 1 with fail
    change Code.wp _ _ _ _ ((w.alloc (.cells #[.bool s, .slice a n c] 24)).alloc (.cells #[.bool s2, .slice a2 n2 c2] 24))
    generalize ((w.alloc (.cells #[.bool s, .slice a n c] 24)).alloc (.cells #[.bool s2, .slice a2 n2 c2] 24)) = x0w at *
    go_wp2_with fail
    go_ret
    exact ⟨by rw [e1]; rfl, B0⟩

end Go.Proofs.YticjhogofoffmaaDoor

/- The document's Form and May: what they compute. -/
import Derived.Test.YtcflgoddfakepaaDoorSx4
namespace Go.Proofs.YtcflgoddfakepaaDoor
open Go.RowKit
set_option linter.unusedSimpArgs false
set_option linter.unusedVariables false

theorem Box.grown {w w' : World} {g : Nat} {T : TypeId} {cs : Array Value} (h : Box w g T cs) {row : Option Nat} (hg : w.grownBy w' row) (hne : ∀ k, row = some k → g ≠ k) : Box w' g T cs :=
  (hg.block g h.lt (fun e => hne g e.symm rfl)).trans h
theorem OwnB.empty (w : World) (B : Nat) (hB : B ≤ w.heap.size) : OwnB (w.alloc (.cells #[] 5)) B (.slice (some ⟨w.heap.size, 0, none⟩) 0 0) [] := by
  have := OwnG.new w B 1 hB #[] 5 0 0 (Nat.le_refl _) (Nat.zero_le _) rfl
  simpa [OwnB, Lib.byteCells] using this
/-- an append to bytes of the call's own, in a world that has come of w -/
theorem OwnB.alloc {w : World} {B : Nat} {v : Value} {l : List UInt8} (h : OwnB w B v l) (o : Obj) : OwnB (w.alloc o) B v l := OwnG.alloc h o
theorem own_step {w w1 w2 : World} {v : Value} {l : List UInt8} (hb : Below w.heap.size w w1) (ho : OwnB w1 (w.heap.size + 1) v l) (hg : w1.grownBy w2 v.ownBlock) :
    Below w.heap.size w w2 ∧ (∀ T cs, Box w1 w.heap.size T cs → Box w2 w.heap.size T cs) ∧ w1.heap.size ≤ w2.heap.size :=
  ⟨below_grown hb hg (fun k hk => by have := (ho.own k hk).1; omega) hb.size, fun T cs hx => hx.grown hg (fun k hk => by have := (ho.own k hk).1; omega), hg.size⟩

set_option maxHeartbeats 4000000 in
set_option maxRecDepth 100000 in
theorem form_any (s : Sx) : ∀ (v : SV) (w : World), Rd w v s → s.form.length ≤ 70368744177664 → Calls Tryd.prog 20 #[v.val] w (OutP s.form w) := by
  induction s using Sx.ind with
  | h l hh hi da ks ih =>
  intro v w hr hlen
  have HRR := Lib.hid hr
  obtain ⟨hvl, hvh, hs1, hs2, hn, hnc, hcm, K, hrow, hk⟩ := hr.parts
  obtain ⟨vl, vh, a1, n1, k1, a2, n2, k2, a3, n3, k3⟩ := v
  dsimp only at hn hnc hcm hrow hk hvl hvh hs1 hs2
  obtain rfl : vl = l := hvl
  obtain rfl : vh = hh := hvh
  replace hn : n3 = ks.length := hn
  replace hs1 : Sl w a1 n1 k1 hi := hs1
  replace hs2 : Sl w a2 n2 k2 da := hs2
  replace hk : ∀ i (hi : i < ks.length), RdI (fun _ => True) w (K i) ks[i] := hk
  obtain ⟨l1, hl1⟩ : ∃ l1, l1 = hi := ⟨_, rfl⟩
  have hn1 := hs1.1
  have hn2 := hs2.1
  have hm1 := hs1.2.1
  have hm2 := hs2.2.1
  have hx1 := hs1.2.2.1
  have hx2 := hs2.2.2.1
  have IH := Lib.hid ih
  have HK := Lib.hid hk
  have HR := Lib.hid hrow
  have HS1 := Lib.hid hs1
  have HS2 := Lib.hid hs2
  have HN1 := Lib.hid hn1
  have HN2 := Lib.hid hn2
  clear ih hk hrow hr hs1 hs2 hn1 hn2 hl1
  subst hn
  unfold maxLen at hcm hx1 hx2
  cases vl with
  | true =>
    rw [form_def, if_pos rfl] at hlen ⊢
    have HLEN := Lib.hid hlen
    simp only [List.length_cons, List.length_append, List.length_nil] at hlen
    have hb0 : Below w.heap.size w ((w.alloc (.cells #[.bool true, .bool vh, .slice a1 n1 k1, .slice a2 n2 k2, .slice a3 ks.length k3] 25)).alloc (.cells #[] 5)) := ((Below.refl _ _).alloc (Nat.le_refl _) _).alloc (by simp) _
    have hx0 : Box ((w.alloc (.cells #[.bool true, .bool vh, .slice a1 n1 k1, .slice a2 n2 k2, .slice a3 ks.length k3] 25)).alloc (.cells #[] 5)) w.heap.size 25 #[.bool true, .bool vh, .slice a1 n1 k1, .slice a2 n2 k2, .slice a3 ks.length k3] := (Box.new w 25 #[.bool true, .bool vh, .slice a1 n1 k1, .slice a2 n2 k2, .slice a3 ks.length k3]).alloc _
    have ho0 : OwnB ((w.alloc (.cells #[.bool true, .bool vh, .slice a1 n1 k1, .slice a2 n2 k2, .slice a3 ks.length k3] 25)).alloc (.cells #[] 5)) (w.heap.size + 1) (.slice (some ⟨w.heap.size + 1, 0, none⟩) 0 0) [] := by
      have := OwnB.empty (w.alloc (.cells #[.bool true, .bool vh, .slice a1 n1 k1, .slice a2 n2 k2, .slice a3 ks.length k3] 25)) (w.heap.size + 1) (by simp)
      simpa using this
    have zz : w.heap.size + 1 + 1 ≤ ((w.alloc (.cells #[.bool true, .bool vh, .slice a1 n1 k1, .slice a2 n2 k2, .slice a3 ks.length k3] 25)).alloc (.cells #[] 5)).heap.size := by simp
    show Calls _ _ #[.agg #[.bool true, .bool vh, .slice a1 n1 k1, .slice a2 n2 k2, .slice a3 ks.length k3]] _ _
    go_enter Tryd.func20, Tryd.ntmps20
    go_upto_region 2 with fail
    change Code.wp _ _ _ _ ((w.alloc (.cells #[.bool true, .bool vh, .slice a1 n1 k1, .slice a2 n2 k2, .slice a3 ks.length k3] 25)).alloc (.cells #[] 5))
    generalize ((w.alloc (.cells #[.bool true, .bool vh, .slice a1 n1 k1, .slice a2 n2 k2, .slice a3 ks.length k3] 25)).alloc (.cells #[] 5)) = v0 at *
    have HO := Lib.hid ho0
    clear ho0
    have c0 := hx0.cell 0 rfl
    go_upto_region 4 with (refine wpList_append_B rfl _ _ rfl rfl (HO.out.alloc _) (l2 := [40]) rfl (sl_cell1 _ 40 _ rfl) (by simp) (by simp; omega) ?_; intro v1 w1 ho1 hg1)
    obtain ⟨hb1, hxx1, z1⟩ := own_step (hb0.alloc (by omega) _) (HO.out.alloc _) hg1
    have hx1 := hxx1 _ _ (hx0.alloc _)
    clear hxx1 hg1 HO c0 hx0 hb0
    have HO := Lib.hid ho1
    clear ho1
    simp only [World.size_alloc] at z1
    have c4 := hx1.cell 4 rfl
    go_wp2_with fail
    go_loopw [3, 4, 14] (fun s i k wr => ∃ n : Nat, n ≤ ks.length ∧ k = .int .i64 n ∧ OwnB wr (w.heap.size + 1) s (40 :: Sx.formL (ks.take n)) ∧ Below w.heap.size w wr ∧ w.heap.size + 1 ≤ wr.heap.size ∧ Box wr w.heap.size 25 #[.bool true, .bool vh, .slice a1 n1 k1, .slice a2 n2 k2, .slice a3 ks.length k3]) (fun _ _ k _ => ks.length - (intOf k).toNat)
    case atStart => exact ⟨0, Nat.zero_le _, rfl, HO.out, hb1, by omega, hx1⟩
    case round =>
      clear HO hb1 hx1 c4 z1
      rename_i s0 k0 _ _
      obtain ⟨n, hnl, rfl, ho, hb, hz, hx⟩ := hrel
      have HO := Lib.hid ho
      clear ho
      have c4 := hx.cell 4 rfl
      have htk := Sx.formL_take ks n
      by_cases hlt : n < ks.length
      · obtain ⟨b, o, rfl, hld⟩ := (HR.out.after hb).range hlt
        have HL := Lib.hid hld
        have hrd := (HK.out n hlt).after hb
        have HRd := Lib.hid hrd
        have hkd := Sx.formL_mem (List.getElem_mem hlt)
        have hsn := Sx.formL_snoc ks n hlt
        have hbl : (Sx.formL (ks.take (n + 1))).length ≤ (Sx.formL ks).length := Sx.formL_take ks (n + 1)
        rw [hsn, List.length_append] at hbl
        have HS := Lib.hid hsn
        clear hrd hld hsn
        go_wp2_with (refine wpList_load_sv rfl _ rfl b _ rfl _ HL.out ?_)
        refine (IH.out _ (List.getElem_mem hlt) _ _ HRd.out (by omega)).mono ?_
        rintro e w2 ⟨v2, rfl, ho2, hb2⟩
        obtain ⟨a2', c2', rfl, hs2⟩ := ho2.sl
        have HS2' := Lib.hid hs2
        have z2 := hb2.size
        have HB := hb.trans (hb2.mono hb.size)
        have HX := hx.after hb2
        have HO2 := Lib.hid (HO.out.after hb2)
        clear hs2 HO c4 ho2
        go_upto_region 8 with (refine wpList_append_B rfl _ _ rfl rfl HO2.out (l2 := (ks[n].form)) rfl (HS2'.out) (by simp only [List.length_cons]; omega) (by omega) ?_; intro v3 w3 ho3 hg3)
        obtain ⟨hb3, hxx3, z3⟩ := own_step HB HO2.out hg3
        have hx3 := hxx3 _ _ HX
        clear hxx3 hg3 HO2 HB HX hb2 hx hb
        have HO3 := Lib.hid ho3
        clear ho3
        go_wp2_with fail
        go_roundw
        case rel => exact ⟨n + 1, by omega, by go_num, by have := HO3.out; rw [HS.out]; simpa using this, hb3, by omega, hx3⟩
        case measure => simp [intOf]; omega
      · have hnn : n = ks.length := by omega
        subst hnn
        rw [List.take_length] at HO
        go_wp2_with (refine wpList_append_B rfl _ _ rfl rfl (HO.out.alloc _) (l2 := [41]) rfl (sl_cell1 _ 41 _ rfl) (by simp only [List.length_cons]; omega) (by simp; omega) ?_; intro v3 w3 ho3 hg3)
        obtain ⟨hb3, hxx3, z3⟩ := own_step (hb.alloc (by omega) _) (HO.out.alloc _) hg3
        go_ret
        exact ⟨v3, rfl, OwnB.le (by simpa using ho3) (Nat.le_succ _), hb3⟩
  | false =>
    rw [form_def, if_neg (by simp)] at hlen ⊢
    have HLEN := Lib.hid hlen
    have hn1 : n1 ≤ hi.length := Nat.le_of_eq HN1.out
    have hn2 : n2 ≤ da.length := Nat.le_of_eq HN2.out
    have hn1' : hi.length ≤ n1 := Nat.le_of_eq HN1.out.symm
    have hn2' : da.length ≤ n2 := Nat.le_of_eq HN2.out.symm
    cases vh with
    | false =>
      simp only [Bool.false_eq_true, if_false, List.nil_append] at hlen ⊢
      have hln : da.length ≤ (textL da).length := by simp [textL]; omega
      have hb0 : Below w.heap.size w ((w.alloc (.cells #[.bool false, .bool false, .slice a1 n1 k1, .slice a2 n2 k2, .slice a3 ks.length k3] 25)).alloc (.cells #[] 5)) := ((Below.refl _ _).alloc (Nat.le_refl _) _).alloc (by simp) _
      have hx0 : Box ((w.alloc (.cells #[.bool false, .bool false, .slice a1 n1 k1, .slice a2 n2 k2, .slice a3 ks.length k3] 25)).alloc (.cells #[] 5)) w.heap.size 25 #[.bool false, .bool false, .slice a1 n1 k1, .slice a2 n2 k2, .slice a3 ks.length k3] := (Box.new w 25 #[.bool false, .bool false, .slice a1 n1 k1, .slice a2 n2 k2, .slice a3 ks.length k3]).alloc _
      have ho0 : OwnB ((w.alloc (.cells #[.bool false, .bool false, .slice a1 n1 k1, .slice a2 n2 k2, .slice a3 ks.length k3] 25)).alloc (.cells #[] 5)) (w.heap.size + 1) (.slice (some ⟨w.heap.size + 1, 0, none⟩) 0 0) [] := by
        have := OwnB.empty (w.alloc (.cells #[.bool false, .bool false, .slice a1 n1 k1, .slice a2 n2 k2, .slice a3 ks.length k3] 25)) (w.heap.size + 1) (by simp)
        simpa using this
      have zz : w.heap.size + 1 + 1 ≤ ((w.alloc (.cells #[.bool false, .bool false, .slice a1 n1 k1, .slice a2 n2 k2, .slice a3 ks.length k3] 25)).alloc (.cells #[] 5)).heap.size := by simp
      show Calls _ _ #[.agg #[.bool false, .bool false, .slice a1 n1 k1, .slice a2 n2 k2, .slice a3 ks.length k3]] _ _
      go_enter Tryd.func20, Tryd.ntmps20
      go_upto_region 2 with fail
      change Code.wp _ _ _ _ ((w.alloc (.cells #[.bool false, .bool false, .slice a1 n1 k1, .slice a2 n2 k2, .slice a3 ks.length k3] 25)).alloc (.cells #[] 5))
      generalize ((w.alloc (.cells #[.bool false, .bool false, .slice a1 n1 k1, .slice a2 n2 k2, .slice a3 ks.length k3] 25)).alloc (.cells #[] 5)) = v0 at *
      have HO := Lib.hid ho0
      clear ho0
      have c0 := hx0.cell 0 rfl
      have c1 := hx0.cell 1 rfl
      have c3 := hx0.cell 3 rfl
      go_wp2_with fail
      refine (refText_any _ _ _ da _ (HS2.out.after hb0) (by omega)).mono ?_
      rintro e w6 ⟨v6, rfl, ho6, hb6⟩
      obtain ⟨a6, c6, rfl, hs6⟩ := ho6.sl
      have HS6 := Lib.hid hs6
      have z6 := hb6.size
      have HB6 := hb0.trans (hb6.mono hb0.size)
      have HX6 := hx0.after hb6
      have HO6 := Lib.hid (HO.out.after hb6)
      clear hs6 ho6
      go_wp2_with (refine wpList_append_B rfl _ _ rfl rfl HO6.out (l2 := (textL da)) rfl (HS6.out) (by simp only [List.length_cons, List.length_append, List.length_nil] at hlen ⊢; omega) (by omega) ?_; intro v7 w7 ho7 hg7)
      obtain ⟨hb7, hxx7, z7⟩ := own_step HB6 HO6.out hg7
      go_ret
      exact ⟨v7, rfl, OwnB.le (by simpa using ho7) (Nat.le_succ _), hb7⟩
    | true =>
      simp only [if_true] at hlen ⊢
      have hln : da.length ≤ (textL da).length := by simp [textL]; omega
      have hlh : hi.length ≤ (textL hi).length := by simp [textL]; omega
      simp only [List.length_cons, List.length_append, List.length_nil] at hlen
      have hb0 : Below w.heap.size w ((w.alloc (.cells #[.bool false, .bool true, .slice a1 n1 k1, .slice a2 n2 k2, .slice a3 ks.length k3] 25)).alloc (.cells #[] 5)) := ((Below.refl _ _).alloc (Nat.le_refl _) _).alloc (by simp) _
      have hx0 : Box ((w.alloc (.cells #[.bool false, .bool true, .slice a1 n1 k1, .slice a2 n2 k2, .slice a3 ks.length k3] 25)).alloc (.cells #[] 5)) w.heap.size 25 #[.bool false, .bool true, .slice a1 n1 k1, .slice a2 n2 k2, .slice a3 ks.length k3] := (Box.new w 25 #[.bool false, .bool true, .slice a1 n1 k1, .slice a2 n2 k2, .slice a3 ks.length k3]).alloc _
      have ho0 : OwnB ((w.alloc (.cells #[.bool false, .bool true, .slice a1 n1 k1, .slice a2 n2 k2, .slice a3 ks.length k3] 25)).alloc (.cells #[] 5)) (w.heap.size + 1) (.slice (some ⟨w.heap.size + 1, 0, none⟩) 0 0) [] := by
        have := OwnB.empty (w.alloc (.cells #[.bool false, .bool true, .slice a1 n1 k1, .slice a2 n2 k2, .slice a3 ks.length k3] 25)) (w.heap.size + 1) (by simp)
        simpa using this
      have zz : w.heap.size + 1 + 1 ≤ ((w.alloc (.cells #[.bool false, .bool true, .slice a1 n1 k1, .slice a2 n2 k2, .slice a3 ks.length k3] 25)).alloc (.cells #[] 5)).heap.size := by simp
      show Calls _ _ #[.agg #[.bool false, .bool true, .slice a1 n1 k1, .slice a2 n2 k2, .slice a3 ks.length k3]] _ _
      go_enter Tryd.func20, Tryd.ntmps20
      go_upto_region 2 with fail
      change Code.wp _ _ _ _ ((w.alloc (.cells #[.bool false, .bool true, .slice a1 n1 k1, .slice a2 n2 k2, .slice a3 ks.length k3] 25)).alloc (.cells #[] 5))
      generalize ((w.alloc (.cells #[.bool false, .bool true, .slice a1 n1 k1, .slice a2 n2 k2, .slice a3 ks.length k3] 25)).alloc (.cells #[] 5)) = v0 at *
      have HO := Lib.hid ho0
      clear ho0
      have c0 := hx0.cell 0 rfl
      have c1 := hx0.cell 1 rfl
      go_upto_region 12 with (refine wpList_append_B rfl _ _ rfl rfl (HO.out.alloc _) (l2 := [91]) rfl (sl_cell1 _ 91 _ rfl) (by simp) (by simp; omega) ?_; intro v1 w1 ho1 hg1)
      obtain ⟨hb1, hxx1, z1⟩ := own_step (hb0.alloc (by omega) _) (HO.out.alloc _) hg1
      have hx1 := hxx1 _ _ (hx0.alloc _)
      clear hxx1 hg1 HO c0 c1 hx0 hb0
      have HO := Lib.hid ho1
      clear ho1
      simp only [World.size_alloc] at z1
      have c2 := hx1.cell 2 rfl
      go_wp2_with fail
      refine (refText_any _ _ _ hi _ (HS1.out.after hb1) (by omega)).mono ?_
      rintro e w2 ⟨v2, rfl, ho2, hb2⟩
      obtain ⟨a2', c2', rfl, hs2⟩ := ho2.sl
      have HS2' := Lib.hid hs2
      have z2 := hb2.size
      have HB := hb1.trans (hb2.mono hb1.size)
      have HX := hx1.after hb2
      have HO2 := Lib.hid (HO.out.after hb2)
      clear hs2 HO c2 ho2
      go_upto_region 13 with (refine wpList_append_B rfl _ _ rfl rfl HO2.out (l2 := (textL hi)) rfl (HS2'.out) (by simp only [List.length_cons, List.length_append, List.length_nil]; omega) (by omega) ?_; intro v3 w3 ho3 hg3)
      obtain ⟨hb3, hxx3, z3⟩ := own_step HB HO2.out hg3
      have hx3 := hxx3 _ _ HX
      clear hxx3 hg3 HO2 HB HX hb2 hx1 hb1
      have HO3 := Lib.hid ho3
      clear ho3
      go_upto_region 14 with (refine wpList_append_B rfl _ _ rfl rfl (HO3.out.alloc _) (l2 := [93]) rfl (sl_cell1 _ 93 _ rfl) (by simp only [List.length_cons, List.length_append, List.length_nil]; omega) (by simp; omega) ?_; intro v4 w4 ho4 hg4)
      obtain ⟨hb4, hxx4, z4⟩ := own_step (hb3.alloc (by omega) _) (HO3.out.alloc _) hg4
      have hx4 := hxx4 _ _ (hx3.alloc _)
      clear hxx4 hg4 HO3 hx3 hb3
      have HO4 := Lib.hid ho4
      clear ho4
      simp only [World.size_alloc] at z4
      have c3 := hx4.cell 3 rfl
      go_wp2_with fail
      refine (refText_any _ _ _ da _ (HS2.out.after hb4) (by omega)).mono ?_
      rintro e w6 ⟨v6, rfl, ho6, hb6⟩
      obtain ⟨a6, c6, rfl, hs6⟩ := ho6.sl
      have HS6 := Lib.hid hs6
      have z6 := hb6.size
      have HB6 := hb4.trans (hb6.mono hb4.size)
      have HX6 := hx4.after hb6
      have HO6 := Lib.hid (HO4.out.after hb6)
      clear hs6 ho6
      go_wp2_with (refine wpList_append_B rfl _ _ rfl rfl HO6.out (l2 := (textL da)) rfl (HS6.out) (by simp only [List.length_cons, List.length_append, List.length_nil] at hlen ⊢; omega) (by omega) ?_; intro v7 w7 ho7 hg7)
      obtain ⟨hb7, hxx7, z7⟩ := own_step HB6 HO6.out hg7
      go_ret
      exact ⟨v7, rfl, OwnB.le (by simpa using ho7) (Nat.le_succ _), hb7⟩

end Go.Proofs.YtcflgoddfakepaaDoor

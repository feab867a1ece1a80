/- Principals: key.May, key.Put: what they compute. -/
import Derived.Test.YticjhogofoffmaaDoorCrG5
namespace Go.Proofs.YticjhogofoffmaaDoor
open Go.RowKit
set_option linter.unusedSimpArgs false
set_option linter.unusedVariables false

/-- one value, three values in a row -/
def oneK (u : SV) : Nat → SV := fun _ => u
def threeK (u v z : SV) : Nat → SV
  | 0 => u
  | 1 => v
  | _ => z

/-- a value through blocks that are ok -/
def ValI (ok : Nat → Prop) (s : Sx) (w : World) (e : Ending) (w' : World) : Prop := ∃ v, e = .returned v.val ∧ RdI ok w' v s ∧ Below w.heap.size w w'
theorem rd_atomI {ok : Nat → Prop} {w : World} {a : Option Addr} {n c : Nat} {l : List UInt8} (h : Sl w a n c l) (hi : InB ok a n) : RdI ok w ⟨false, false, none, 0, 0, a, n, c, none, 0, 0⟩ (.mk false false [] l []) :=
  .mk _ [] l [] (fun _ => SV.nil) (Sl.nil w) (.inl rfl) h hi ⟨Nat.le_refl _, Nat.zero_le _, fun _ => rfl, .inl rfl⟩ (.inl rfl) rfl (fun i hi => by cases hi)
theorem OwnB.parts {w : World} {B : Nat} {v : Value} {l : List UInt8} (h : OwnB w B v l) : ∃ a n c, v = .slice a n c ∧ Sl w a n c l ∧ InB (fun k => B ≤ k) a n := by
  obtain ⟨a, c, rfl, hs⟩ := h.sl
  refine ⟨a, _, c, rfl, hs, ?_⟩
  cases a with
  | none => exact .inr fun b o s e => by cases e
  | some ad =>
    refine .inr fun b o s e => ?_
    cases e
    rcases h.2 with ⟨h1, _⟩ | ⟨g, o', cap, h1, h2, _⟩
    · cases h1
    · cases h1
      exact h2

set_option maxHeartbeats 2000000 in
set_option maxRecDepth 100000 in
theorem atomI_any (ok : Nat → Prop) (s : ByteArray) (hs : s.size ≤ 140737488355328) (w : World) (hok : ∀ b, w.heap.size ≤ b → ok b) : Calls Tryd.prog 40 #[.string s] w (ValI ok (.mk false false [] s.data.toList []) w) := by
  have hb0 : Below w.heap.size w (w.alloc (.cells SV.nil.cells 37)) := (Below.refl _ _).alloc (Nat.le_refl _) _
  have X0 := Box.new w 37 SV.nil.cells
  go_enter Tryd.func40, Tryd.ntmps40
  go_upto_region 1 with fail
  change Code.wp _ _ _ _ (w.alloc (.cells SV.nil.cells 37))
  generalize w.alloc (.cells SV.nil.cells 37) = v0 at *
  obtain ⟨v, v1, hr, ho, hb1⟩ := conv_own v0 s hs
  obtain ⟨a, c, rfl, hsl⟩ := ho.sl
  have hown : ∀ b o s, a = some ⟨b, o, s⟩ → v0.heap.size ≤ b := fun b o s e => by subst e; exact (ho.own b rfl).1
  have X1 := Lib.hid (X0.after hb1)
  have HS := Lib.hid hsl
  have hB1 := hb0.trans (hb1.mono hb0.size)
  have hz := X0.lt
  have hsz := hb0.size
  obtain ⟨n, hn⟩ : ∃ n, n = s.data.toList.length := ⟨_, rfl⟩
  rw [← hn] at hr HS
  have HOW := Lib.hid hown
  clear X0 ho hsl hb1 hb0 hn hown
  go_wp2_with (refine wpList_store_box (cells := (SV.mk false false none 0 0 a n c none 0 0).cells) rfl 37 _ _ rfl X1.out (by rfl) (by rfl) rfl (by kernel_rfl) (SV.one _) ?_; intro v2 X2 st2)
  have hB2 := st2.below w.heap.size w (Nat.le_refl _) hB1
  have hsl2 := HS.out.keep (w' := v2) (.inr fun b o s e => st2.other b (by have := HOW.out b o s e; omega))
  exact bodyPost_ret (v := (SV.mk false false none 0 0 a n c none 0 0).val) (box_result rfl _ _ (by rfl) X2 Tryd.underlying37 rfl (by kernel_rfl)) rfl ⟨_, rfl, rd_atomI hsl2 (.inr fun b o s e => hok b (by have := HOW.out b o s e; have := hsz; omega)), hB2⟩

set_option maxHeartbeats 2000000 in
set_option maxRecDepth 100000 in
theorem listI_any (ok : Nat → Prop) (a : Option Addr) (n c : Nat) (K : Nat → SV) (ks : List Sx) (w : World) (hr : RowAt w a n c K) (hn : n ≤ 1000) (hnk : n = ks.length) (hk : ∀ i (hi : i < ks.length), RdI ok w (K i) ks[i]) (hok : ∀ b, w.heap.size ≤ b → ok b) : Calls Tryd.prog 39 #[.slice a n c] w (ValI ok (.mk true false [] [] ks) w) := by
  have hb0 : Below w.heap.size w (w.alloc (.cells SV.nil.cells 37)) := (Below.refl _ _).alloc (Nat.le_refl _) _
  have X0 := Box.new w 37 SV.nil.cells
  have HR := Lib.hid hr
  have HK := Lib.hid hk
  have HN := Lib.hid hnk
  clear hr hk hnk
  go_enter Tryd.func39, Tryd.ntmps39
  go_upto_region 1 with fail
  change Code.wp _ _ _ _ (w.alloc (.cells SV.nil.cells 37))
  generalize w.alloc (.cells SV.nil.cells 37) = v0 at *
  go_wp2_with fail
  refine (cloneK_any a n c K v0 (HR.out.after hb0) hn).mono ?_
  rintro e v1 ⟨a', c', rfl, hrow, hin, hb1⟩
  have X1 := Lib.hid (X0.after hb1)
  have HS := Lib.hid hrow
  have HI := Lib.hid hin
  have hB1 := hb0.trans (hb1.mono hb0.size)
  have hz := X0.lt
  have hsz := hb0.size
  clear X0 hrow hin hb1 hb0
  go_wp2_with (refine wpList_store_box (cells := (SV.mk true false none 0 0 none 0 0 a' n c').cells) rfl 37 _ _ rfl X1.out (by rfl) (by rfl) rfl (by kernel_rfl) (SV.one _) ?_; intro v2 X2 st2)
  have hB2 := st2.below w.heap.size w (Nat.le_refl _) hB1
  have hrow2 := HS.out.keep (w' := v2) (HI.out.imp id fun h b o s e => st2.other b (by have := h b o s e; omega))
  exact bodyPost_ret (v := (SV.mk true false none 0 0 none 0 0 a' n c').val) (box_result rfl _ _ (by rfl) X2 Tryd.underlying37 rfl (by kernel_rfl)) rfl ⟨_, rfl, rd_list hrow2 (HI.out.imp id fun h b o s e => hok b (by have := h b o s e; have := hsz; omega)) HN.out (fun i hi => (HK.out i hi).after hB2), hB2⟩

theorem row_one (w : World) (u : SV) (T : TypeId) : RowAt (w.alloc (.cells #[.bool u.l, .bool u.h, .slice u.a1 u.n1 u.c1, .slice u.a2 u.n2 u.c2, .slice u.a3 u.n3 u.c3] T)) (some ⟨w.heap.size, 0, none⟩) 1 1 (oneK u) := by
  refine ⟨Nat.le_refl _, by unfold maxLen; omega, (fun h => by cases h), .inr ⟨_, 0, rfl, fun i hi j x hx => ?_⟩⟩
  have hb := Box.new w T #[.bool u.l, .bool u.h, .slice u.a1 u.n1 u.c1, .slice u.a2 u.n2 u.c2, .slice u.a3 u.n3 u.c3]
  rw [Nat.zero_add]
  have hj : j < 5 := by
    have := (Array.getElem?_eq_some_iff.1 hx).1
    rwa [SV.cells_size] at this
  refine hb.cell (i * 5 + j) ?_
  match i, hi, j, hj with
  | 0, _, 0, _ => exact hx
  | 0, _, 1, _ => exact hx
  | 0, _, 2, _ => exact hx
  | 0, _, 3, _ => exact hx
  | 0, _, 4, _ => exact hx
theorem row_three (w : World) (u v z : SV) (T : TypeId) : RowAt (w.alloc (.cells #[.bool u.l, .bool u.h, .slice u.a1 u.n1 u.c1, .slice u.a2 u.n2 u.c2, .slice u.a3 u.n3 u.c3, .bool v.l, .bool v.h, .slice v.a1 v.n1 v.c1, .slice v.a2 v.n2 v.c2, .slice v.a3 v.n3 v.c3, .bool z.l, .bool z.h, .slice z.a1 z.n1 z.c1, .slice z.a2 z.n2 z.c2, .slice z.a3 z.n3 z.c3] T)) (some ⟨w.heap.size, 0, none⟩) 3 3 (threeK u v z) := by
  refine ⟨Nat.le_refl _, by unfold maxLen; omega, (fun h => by cases h), .inr ⟨_, 0, rfl, fun i hi j x hx => ?_⟩⟩
  have hb := Box.new w T #[.bool u.l, .bool u.h, .slice u.a1 u.n1 u.c1, .slice u.a2 u.n2 u.c2, .slice u.a3 u.n3 u.c3, .bool v.l, .bool v.h, .slice v.a1 v.n1 v.c1, .slice v.a2 v.n2 v.c2, .slice v.a3 v.n3 v.c3, .bool z.l, .bool z.h, .slice z.a1 z.n1 z.c1, .slice z.a2 z.n2 z.c2, .slice z.a3 z.n3 z.c3]
  rw [Nat.zero_add]
  have hj : j < 5 := by
    have := (Array.getElem?_eq_some_iff.1 hx).1
    rwa [SV.cells_size] at this
  refine hb.cell (i * 5 + j) ?_
  match i, hi, j, hj with
  | 0, _, 0, _ => exact hx
  | 0, _, 1, _ => exact hx
  | 0, _, 2, _ => exact hx
  | 0, _, 3, _ => exact hx
  | 0, _, 4, _ => exact hx
  | 1, _, 0, _ => exact hx
  | 1, _, 1, _ => exact hx
  | 1, _, 2, _ => exact hx
  | 1, _, 3, _ => exact hx
  | 1, _, 4, _ => exact hx
  | 2, _, 0, _ => exact hx
  | 2, _, 1, _ => exact hx
  | 2, _, 2, _ => exact hx
  | 2, _, 3, _ => exact hx
  | 2, _, 4, _ => exact hx

/-- may a principal be? its tree -/
def keyMay (s : Bool) (n : Nat) : Bool := if s then n == 64 else n == 32
def keyS (s : Bool) (l : List UInt8) : Sx :=
  if s then .mk true false [] [] [(.mk false false [] [104, 97, 115, 104] []), (.mk false false [] [115, 104, 97, 53, 49, 50] []), .mk false false [] l []] else .mk true false [] [] [(.mk false false [] [112, 117, 98, 108, 105, 99, 45, 107, 101, 121] []), .mk true false [] [] [(.mk false false [] [101, 100, 50, 53, 53, 49, 57] []), .mk false false [] l []]]
def KeyP (s : Bool) (l : List UInt8) (w : World) (e : Ending) (w' : World) : Prop :=
  (keyMay s l.length = true ∧ ∃ v : SV, e = .returned (.tuple #[.agg #[.bool v.l, .bool v.h, .slice v.a1 v.n1 v.c1, .slice v.a2 v.n2 v.c2, .slice v.a3 v.n3 v.c3], .int .i64 0]) ∧ RdI (fun b => w.heap.size ≤ b) w' v (keyS s l) ∧ Below w.heap.size w w') ∨
  (keyMay s l.length = false ∧ e = .returned (.tuple #[.agg #[.bool false, .bool false, .slice none 0 0, .slice none 0 0, .slice none 0 0], .int .i64 7]) ∧ Below w.heap.size w w')

set_option maxHeartbeats 2000000 in
set_option maxRecDepth 100000 in
theorem keyMay_any (s : Bool) (a : Option Addr) (n c : Nat) (w : World) (hn : n ≤ 1000000) : Calls Tryd.prog 52 #[.agg #[.bool s, .slice a n c]] w fun e w' => e = .returned (.bool (keyMay s n)) ∧ Below w.heap.size w w' := by
  have B0 : Below w.heap.size w (w.alloc (.cells #[.bool s, .slice a n c] 24)) := (Below.refl _ _).alloc (Nat.le_refl _) _
  have X0 := Box.new w 24 #[.bool s, .slice a n c]
  have x0 : (w.alloc (.cells #[.bool s, .slice a n c] 24)).cell? ⟨w.heap.size, 0, none⟩ = some (.bool s) := X0.cell 0 rfl
  have x1 : (w.alloc (.cells #[.bool s, .slice a n c] 24)).cell? ⟨w.heap.size, 1, none⟩ = some (.slice a n c) := X0.cell 1 rfl
  clear X0
  cases s with
  | false =>
    obtain ⟨r, hr⟩ : ∃ r, r = keyMay false n := ⟨_, rfl⟩
    have hq : ((n : Int) == 32) = r := by rw [hr]; show ((n : Int) == 32) = (n == 32); rw [Bool.eq_iff_iff]; simp only [beq_iff_eq]; omega
    rw [← hr]
    clear hr
    go_enter Tryd.func52, Tryd.ntmps52
    go_wp2_with fail
    go_ret
    exact ⟨rfl, B0⟩
  | true =>
    obtain ⟨r, hr⟩ : ∃ r, r = keyMay true n := ⟨_, rfl⟩
    have hq : ((n : Int) == 64) = r := by rw [hr]; show ((n : Int) == 64) = (n == 64); rw [Bool.eq_iff_iff]; simp only [beq_iff_eq]; omega
    rw [← hr]
    clear hr
    go_enter Tryd.func52, Tryd.ntmps52
    go_wp2_with fail
    go_ret
    exact ⟨rfl, B0⟩

set_option maxHeartbeats 8000000 in
set_option maxRecDepth 100000 in
theorem keyPut_any (s : Bool) (a : Option Addr) (n c : Nat) (l : List UInt8) (w : World) (hs : Sl w a n c l) (hn : n ≤ 100000) : Calls Tryd.prog 36 #[.agg #[.bool s, .slice a n c]] w (KeyP s l w) := by
  have HS := Lib.hid hs
  have HLN := Lib.hid hs.1
  have B0 : Below w.heap.size w ((w.alloc (.cells #[.bool s, .slice a n c] 24)).alloc (.cells #[.bool false, .bool false, .slice none 0 0, .slice none 0 0, .slice none 0 0] 37)) := ((Below.refl _ _).alloc (Nat.le_refl _) _).alloc (by simp) _
  have K0 : Box ((w.alloc (.cells #[.bool s, .slice a n c] 24)).alloc (.cells #[.bool false, .bool false, .slice none 0 0, .slice none 0 0, .slice none 0 0] 37)) w.heap.size 24 #[.bool s, .slice a n c] := (Box.new _ _ _).alloc _
  have X0 : Box ((w.alloc (.cells #[.bool s, .slice a n c] 24)).alloc (.cells #[.bool false, .bool false, .slice none 0 0, .slice none 0 0, .slice none 0 0] 37)) (w.heap.size + 1) 37 #[.bool false, .bool false, .slice none 0 0, .slice none 0 0, .slice none 0 0] := by
    have := Box.new (w.alloc (.cells #[.bool s, .slice a n c] 24)) 37 #[.bool false, .bool false, .slice none 0 0, .slice none 0 0, .slice none 0 0]
    simpa using this
  obtain ⟨r, hr⟩ : ∃ r, r = keyMay s n := ⟨_, rfl⟩
  have HRR := Lib.hid hr
  have CM := Lib.hid (fun w' => keyMay_any s a n c w' (by omega))
  rw [← hr] at CM
  have x1 : (((w.alloc (.cells #[.bool s, .slice a n c] 24)).alloc (.cells #[.bool false, .bool false, .slice none 0 0, .slice none 0 0, .slice none 0 0] 37))).cell? ⟨w.heap.size, 1, none⟩ = some (.slice a n c) := K0.cell 1 rfl
  clear hs hr
  go_enter Tryd.func36, Tryd.ntmps36
  go_upto_region 1 with fail
  change Code.wp _ _ _ _ ((w.alloc (.cells #[.bool s, .slice a n c] 24)).alloc (.cells #[.bool false, .bool false, .slice none 0 0, .slice none 0 0, .slice none 0 0] 37))
  replace K0 := Lib.hid K0
  replace X0 := Lib.hid X0
  generalize ((w.alloc (.cells #[.bool s, .slice a n c] 24)).alloc (.cells #[.bool false, .bool false, .slice none 0 0, .slice none 0 0, .slice none 0 0] 37)) = u0 at *
  go_wp2_with fail
  refine (bclone_any a n c l u0 (HS.out.after B0) (by omega)).mono ?_
  rintro e w1 ⟨v1, rfl, ho1, hb1⟩
  obtain ⟨p, m, q, rfl, hsl, hib⟩ := (OwnB.parts ho1)
  have K1 := Lib.hid (K0.out.after hb1)
  have X1 := Lib.hid (X0.out.after hb1)
  have B1 := B0.trans (hb1.mono B0.size)
  have HSL := Lib.hid hsl
  have HIB : Hid (InB (fun b => w.heap.size ≤ b ∧ b ≠ w.heap.size + 1) p m) := Lib.hid (hib.imp id fun h b o s e => by have := h b o s e; have := X0.out.lt; show w.heap.size ≤ b ∧ b ≠ w.heap.size + 1; omega)
  have hm : m = n := by have := hsl.1; have := HLN.out; omega
  subst hm
  clear ho1 hb1 hsl hib x1 K0 X0 B0
  go_upto_region 2 with (refine wpList_store_box (cells := #[.bool false, .bool false, .slice none 0 0, .slice p m q, .slice none 0 0]) rfl 37 _ _ rfl (Box.new _ _ _) (by rfl) (by rfl) rfl (by kernel_rfl) (by simp [Value.oneCell']) ?_; intro u9 X9 st9)
  have b19 : Below w1.heap.size w1 u9 := st9.below w1.heap.size w1 (Nat.le_refl _) ((Below.refl _ _).alloc (Nat.le_refl _) _)
  have B2 := B1.trans (b19.mono B1.size)
  have HY2 := Lib.hid X9
  have K2 := Lib.hid (K1.out.after b19)
  have X2 := Lib.hid (X1.out.after b19)
  have HRD2 : Hid (RdI (fun b => w.heap.size ≤ b ∧ b ≠ w.heap.size + 1) u9 ⟨false, false, none, 0, 0, p, m, q, none, 0, 0⟩ (.mk false false [] l [])) := Lib.hid (rd_atomI (HSL.out.after b19) HIB.out)
  clear st9 X9 K1 X1 B1 HSL HIB b19
  generalize w1.heap.size = y at *
  go_wp2_with (refine wpList_load_box rfl 24 _ rfl K2.out (by rfl) Tryd.underlying24 rfl (by kernel_rfl) ?_)
  refine (CM.out _).mono ?_
  rintro e w3 ⟨rfl, hb3⟩
  have B3 := B2.trans (hb3.mono B2.size)
  have HY := Lib.hid (HY2.out.after hb3)
  have K3 := Lib.hid (K2.out.after hb3)
  have HX := Lib.hid (X2.out.after hb3)
  have HRD := Lib.hid (HRD2.out.after hb3)
  clear hb3 B2 HY2 K2 X2 HRD2
  cases r with
  | false =>
    go_wp2_with (refine wpList_store_box (cells := #[.bool false, .bool false, .slice none 0 0, .slice none 0 0, .slice none 0 0]) rfl 37 _ _ rfl HX.out (by rfl) (by rfl) rfl (by kernel_rfl) (by simp [Value.oneCell']) ?_; intro u9 X9 st9)
    have B9 := st9.below w.heap.size w (by omega) B3
    exact bodyPost_ret (v := .tuple #[.agg #[.bool false, .bool false, .slice none 0 0, .slice none 0 0, .slice none 0 0], .int .i64 7]) (box_result2 (p := 2) (q := 3) rfl _ _ (by rfl) X9 Tryd.underlying37 rfl (by kernel_rfl)) rfl (.inr ⟨by rw [← HLN.out]; exact HRR.out.symm, rfl, B9⟩)
  | true =>
    have k0 : w3.cell? ⟨w.heap.size, 0, none⟩ = some (.bool s) := K3.out.cell 0 rfl
    cases s with
    | true =>
      go_upto_region 5 with fail
      have hKS : Keeps (fun w' => Box w' y 37 #[.bool false, .bool false, .slice none 0 0, .slice p m q, .slice none 0 0] ∧ RdI (fun b => w.heap.size ≤ b ∧ b ≠ w.heap.size + 1) w' ⟨false, false, none, 0, 0, p, m, q, none, 0, 0⟩ (.mk false false [] l []) ∧ Box w' (w.heap.size + 1) 37 #[.bool false, .bool false, .slice none 0 0, .slice none 0 0, .slice none 0 0] ∧ Below w.heap.size w w') := fun w1 w2 h b => ⟨h.1.after b, h.2.1.after b, h.2.2.1.after b, h.2.2.2.trans (b.mono h.2.2.2.size)⟩
      refine wp_region_W (w := w3) [5] (fun w' => Box w' y 37 #[.bool false, .bool false, .slice none 0 0, .slice p m q, .slice none 0 0] ∧ RdI (fun b => w.heap.size ≤ b ∧ b ≠ w.heap.size + 1) w' ⟨false, false, none, 0, 0, p, m, q, none, 0, 0⟩ (.mk false false [] l []) ∧ Box w' (w.heap.size + 1) 37 #[.bool false, .bool false, .slice none 0 0, .slice none 0 0, .slice none 0 0] ∧ Below w.heap.size w w') rfl (hKS _ _ ⟨HY.out, HRD.out, HX.out, B3⟩ (Below.refl _ _).drew) ?_
      refine wpW_val 2 hKS rfl (by kernel_rfl) (by kernel_rfl) (by kernel_rfl) (by kernel_rfl) rfl (fun _ _ _ _ h => h) (.agg #[.bool false, .bool false, .slice none 0 0, .slice p m q, .slice none 0 0]) (fun w' h => run_load_box rfl h.1 (by rfl) Tryd.underlying37 rfl (by kernel_rfl)) ?_
      simp only [Act.put, List.setIfInBounds_toArray, List.set_cons_zero, List.set_cons_succ]
      refine wpW_one 0 rfl (by kernel_rfl) rfl rfl ?_
      intro z10 b10 s10
      refine wp_callR 40 #[.string ⟨#[104, 97, 115, 104]⟩] (by simp [go_sem]) _ (atomI_any (fun b => w.heap.size ≤ b ∧ b ≠ w.heap.size + 1) ⟨#[104, 97, 115, 104]⟩ (by decide) z10 (fun b hb => by have := s10.2.2.1.lt; omega)) ?_
      rintro e z11 ⟨vA, rfl, rA, b11⟩
      refine ⟨_, rfl, hKS _ _ s10 b11, ?_⟩
      simp only [Act.put, List.setIfInBounds_toArray, List.set_cons_zero, List.set_cons_succ]
      refine wpW_one 1 rfl (by kernel_rfl) rfl rfl ?_
      intro z12 b12 s12
      replace rA := rA.after b12
      refine wp_callR 40 #[.string ⟨#[115, 104, 97, 53, 49, 50]⟩] (by simp [go_sem]) _ (atomI_any (fun b => w.heap.size ≤ b ∧ b ≠ w.heap.size + 1) ⟨#[115, 104, 97, 53, 49, 50]⟩ (by decide) z12 (fun b hb => by have := s12.2.2.1.lt; omega)) ?_
      rintro e z13 ⟨vB, rfl, rB, b13⟩
      replace rA := rA.after b13
      refine ⟨_, rfl, hKS _ _ s12 b13, ?_⟩
      simp only [Act.put, List.setIfInBounds_toArray, List.set_cons_zero, List.set_cons_succ]
      refine wpW_one 3 rfl (by kernel_rfl) rfl rfl ?_
      intro z14 b14 s14
      replace rA := rA.after b14
      replace rB := rB.after b14
      refine wp_of_run (.slice (some ⟨z14.heap.size, 0, none⟩) 3 3) (z14.alloc (.cells #[.bool vA.l, .bool vA.h, .slice vA.a1 vA.n1 vA.c1, .slice vA.a2 vA.n2 vA.c2, .slice vA.a3 vA.n3 vA.c3, .bool vB.l, .bool vB.h, .slice vB.a1 vB.n1 vB.c1, .slice vB.a2 vB.n2 vB.c2, .slice vB.a3 vB.n3 vB.c3, .bool (⟨false, false, none, 0, 0, p, m, q, none, 0, 0⟩ : SV).l, .bool (⟨false, false, none, 0, 0, p, m, q, none, 0, 0⟩ : SV).h, .slice (⟨false, false, none, 0, 0, p, m, q, none, 0, 0⟩ : SV).a1 (⟨false, false, none, 0, 0, p, m, q, none, 0, 0⟩ : SV).n1 (⟨false, false, none, 0, 0, p, m, q, none, 0, 0⟩ : SV).c1, .slice (⟨false, false, none, 0, 0, p, m, q, none, 0, 0⟩ : SV).a2 (⟨false, false, none, 0, 0, p, m, q, none, 0, 0⟩ : SV).n2 (⟨false, false, none, 0, 0, p, m, q, none, 0, 0⟩ : SV).c2, .slice (⟨false, false, none, 0, 0, p, m, q, none, 0, 0⟩ : SV).a3 (⟨false, false, none, 0, 0, p, m, q, none, 0, 0⟩ : SV).n3 (⟨false, false, none, 0, 0, p, m, q, none, 0, 0⟩ : SV).c3] 37)) (by simp [go_sem, SV.val]) ?_
      have a15 : Below z14.heap.size z14 (z14.alloc (.cells #[.bool vA.l, .bool vA.h, .slice vA.a1 vA.n1 vA.c1, .slice vA.a2 vA.n2 vA.c2, .slice vA.a3 vA.n3 vA.c3, .bool vB.l, .bool vB.h, .slice vB.a1 vB.n1 vB.c1, .slice vB.a2 vB.n2 vB.c2, .slice vB.a3 vB.n3 vB.c3, .bool (⟨false, false, none, 0, 0, p, m, q, none, 0, 0⟩ : SV).l, .bool (⟨false, false, none, 0, 0, p, m, q, none, 0, 0⟩ : SV).h, .slice (⟨false, false, none, 0, 0, p, m, q, none, 0, 0⟩ : SV).a1 (⟨false, false, none, 0, 0, p, m, q, none, 0, 0⟩ : SV).n1 (⟨false, false, none, 0, 0, p, m, q, none, 0, 0⟩ : SV).c1, .slice (⟨false, false, none, 0, 0, p, m, q, none, 0, 0⟩ : SV).a2 (⟨false, false, none, 0, 0, p, m, q, none, 0, 0⟩ : SV).n2 (⟨false, false, none, 0, 0, p, m, q, none, 0, 0⟩ : SV).c2, .slice (⟨false, false, none, 0, 0, p, m, q, none, 0, 0⟩ : SV).a3 (⟨false, false, none, 0, 0, p, m, q, none, 0, 0⟩ : SV).n3 (⟨false, false, none, 0, 0, p, m, q, none, 0, 0⟩ : SV).c3] 37)) := (Below.refl _ _).alloc (Nat.le_refl _) _
      have row15 := row_three z14 vA vB (⟨false, false, none, 0, 0, p, m, q, none, 0, 0⟩ : SV) 37
      replace rA := rA.after a15
      replace rB := rB.after a15
      refine ⟨hKS _ _ s14 a15, ?_⟩
      simp only [Act.put, List.setIfInBounds_toArray, List.set_cons_zero, List.set_cons_succ]
      generalize (z14.alloc (.cells #[.bool vA.l, .bool vA.h, .slice vA.a1 vA.n1 vA.c1, .slice vA.a2 vA.n2 vA.c2, .slice vA.a3 vA.n3 vA.c3, .bool vB.l, .bool vB.h, .slice vB.a1 vB.n1 vB.c1, .slice vB.a2 vB.n2 vB.c2, .slice vB.a3 vB.n3 vB.c3, .bool (⟨false, false, none, 0, 0, p, m, q, none, 0, 0⟩ : SV).l, .bool (⟨false, false, none, 0, 0, p, m, q, none, 0, 0⟩ : SV).h, .slice (⟨false, false, none, 0, 0, p, m, q, none, 0, 0⟩ : SV).a1 (⟨false, false, none, 0, 0, p, m, q, none, 0, 0⟩ : SV).n1 (⟨false, false, none, 0, 0, p, m, q, none, 0, 0⟩ : SV).c1, .slice (⟨false, false, none, 0, 0, p, m, q, none, 0, 0⟩ : SV).a2 (⟨false, false, none, 0, 0, p, m, q, none, 0, 0⟩ : SV).n2 (⟨false, false, none, 0, 0, p, m, q, none, 0, 0⟩ : SV).c2, .slice (⟨false, false, none, 0, 0, p, m, q, none, 0, 0⟩ : SV).a3 (⟨false, false, none, 0, 0, p, m, q, none, 0, 0⟩ : SV).n3 (⟨false, false, none, 0, 0, p, m, q, none, 0, 0⟩ : SV).c3] 37)) = y16 at *
      refine wpW_one 4 rfl (by kernel_rfl) rfl rfl ?_
      intro z17 b17 s17
      replace rA := rA.after b17
      replace rB := rB.after b17
      replace row15 := row15.after b17
      refine wp_callR 39 #[.slice (some ⟨_, 0, none⟩) 3 3] (by simp [go_sem]) _ (listI_any (fun b => w.heap.size ≤ b ∧ b ≠ w.heap.size + 1) _ 3 3 _ [(.mk false false [] [104, 97, 115, 104] []), (.mk false false [] [115, 104, 97, 53, 49, 50] []), .mk false false [] l []] z17 row15 (by omega) rfl (fun i hi => match i, hi with | 0, _ => rA | 1, _ => rB | 2, _ => s17.2.1) (fun b hb => by have := s17.2.2.1.lt; omega)) ?_
      rintro e z18 ⟨vL, rfl, rL, b18⟩
      replace rA := rA.after b18
      replace rB := rB.after b18
      refine ⟨_, rfl, hKS _ _ s17 b18, ?_⟩
      simp only [Act.put, List.setIfInBounds_toArray, List.set_cons_zero, List.set_cons_succ]
      refine wpW_write 5 rfl (by kernel_rfl) (by kernel_rfl) rfl ?_
      intro zz bz sz
      replace rL := rL.after bz
      obtain ⟨vl, vh, a1, n1, c1, a2, n2, c2, a3, n3, c3⟩ := vL
      refine wp_store_box 37 _ _ rfl sz.2.2.1 (by rfl) (by rfl) rfl (by kernel_rfl) (by simp [Value.oneCell']) (cells := #[.bool vl, .bool vh, .slice a1 n1 c1, .slice a2 n2 c2, .slice a3 n3 c3]) ?_
      intro zx Xx stx
      have RLx := rL.keep (w' := zx) (fun b hb => stx.other b hb.2)
      have Bx := stx.below w.heap.size w (by omega) sz.2.2.2
      clear rL sz stx
      simp only [Act.put, List.setIfInBounds_toArray, List.set_cons_zero, List.set_cons_succ]
      refine wpU_val 6 keeps_true rfl (by kernel_rfl) (by kernel_rfl) (by kernel_rfl) rfl (fun _ _ _ _ h => h) (.int .i64 0) (fun w' _ => by simp [go_sem]) ?_
      simp only [Act.put, List.setIfInBounds_toArray, List.set_cons_zero, List.set_cons_succ]
      refine wpU_done rfl (fun w9 b9 _ => ?_)
      have B9 := Bx.trans (b9.mono Bx.size)
      have X9 := Xx.after b9
      have R9 := RLx.after b9
      go_wp2_with fail
      exact bodyPost_ret (v := .tuple #[.agg #[.bool vl, .bool vh, .slice a1 n1 c1, .slice a2 n2 c2, .slice a3 n3 c3], .int .i64 0]) (box_result2 (p := 2) (q := 3) rfl _ _ (by rfl) X9 Tryd.underlying37 rfl (by kernel_rfl)) rfl (.inl ⟨by rw [← HLN.out]; exact HRR.out.symm, ⟨vl, vh, a1, n1, c1, a2, n2, c2, a3, n3, c3⟩, rfl, R9.mono (fun _ h => h.1), B9⟩)
    | false =>
      go_upto_region 6 with fail
      have hKS : Keeps (fun w' => Box w' y 37 #[.bool false, .bool false, .slice none 0 0, .slice p m q, .slice none 0 0] ∧ RdI (fun b => w.heap.size ≤ b ∧ b ≠ w.heap.size + 1) w' ⟨false, false, none, 0, 0, p, m, q, none, 0, 0⟩ (.mk false false [] l []) ∧ Box w' (w.heap.size + 1) 37 #[.bool false, .bool false, .slice none 0 0, .slice none 0 0, .slice none 0 0] ∧ Below w.heap.size w w') := fun w1 w2 h b => ⟨h.1.after b, h.2.1.after b, h.2.2.1.after b, h.2.2.2.trans (b.mono h.2.2.2.size)⟩
      refine wp_region_W (w := w3) [7] (fun w' => Box w' y 37 #[.bool false, .bool false, .slice none 0 0, .slice p m q, .slice none 0 0] ∧ RdI (fun b => w.heap.size ≤ b ∧ b ≠ w.heap.size + 1) w' ⟨false, false, none, 0, 0, p, m, q, none, 0, 0⟩ (.mk false false [] l []) ∧ Box w' (w.heap.size + 1) 37 #[.bool false, .bool false, .slice none 0 0, .slice none 0 0, .slice none 0 0] ∧ Below w.heap.size w w') rfl (hKS _ _ ⟨HY.out, HRD.out, HX.out, B3⟩ (Below.refl _ _).drew) ?_
      refine wpW_val 2 hKS rfl (by kernel_rfl) (by kernel_rfl) (by kernel_rfl) (by kernel_rfl) rfl (fun _ _ _ _ h => h) (.agg #[.bool false, .bool false, .slice none 0 0, .slice p m q, .slice none 0 0]) (fun w' h => run_load_box rfl h.1 (by rfl) Tryd.underlying37 rfl (by kernel_rfl)) ?_
      simp only [Act.put, List.setIfInBounds_toArray, List.set_cons_zero, List.set_cons_succ]
      refine wpW_one 0 rfl (by kernel_rfl) rfl rfl ?_
      intro z10 b10 s10
      refine wp_callR 40 #[.string ⟨#[112, 117, 98, 108, 105, 99, 45, 107, 101, 121]⟩] (by simp [go_sem]) _ (atomI_any (fun b => w.heap.size ≤ b ∧ b ≠ w.heap.size + 1) ⟨#[112, 117, 98, 108, 105, 99, 45, 107, 101, 121]⟩ (by decide) z10 (fun b hb => by have := s10.2.2.1.lt; omega)) ?_
      rintro e z11 ⟨vA, rfl, rA, b11⟩
      refine ⟨_, rfl, hKS _ _ s10 b11, ?_⟩
      simp only [Act.put, List.setIfInBounds_toArray, List.set_cons_zero, List.set_cons_succ]
      refine wpW_one 1 rfl (by kernel_rfl) rfl rfl ?_
      intro z12 b12 s12
      replace rA := rA.after b12
      refine wp_callR 40 #[.string ⟨#[101, 100, 50, 53, 53, 49, 57]⟩] (by simp [go_sem]) _ (atomI_any (fun b => w.heap.size ≤ b ∧ b ≠ w.heap.size + 1) ⟨#[101, 100, 50, 53, 53, 49, 57]⟩ (by decide) z12 (fun b hb => by have := s12.2.2.1.lt; omega)) ?_
      rintro e z13 ⟨vB, rfl, rB, b13⟩
      replace rA := rA.after b13
      refine ⟨_, rfl, hKS _ _ s12 b13, ?_⟩
      simp only [Act.put, List.setIfInBounds_toArray, List.set_cons_zero, List.set_cons_succ]
      refine wpW_one 3 rfl (by kernel_rfl) rfl rfl ?_
      intro z14 b14 s14
      replace rA := rA.after b14
      replace rB := rB.after b14
      refine wp_of_run (.slice (some ⟨z14.heap.size, 0, none⟩) 2 2) (z14.alloc (.cells #[.bool vB.l, .bool vB.h, .slice vB.a1 vB.n1 vB.c1, .slice vB.a2 vB.n2 vB.c2, .slice vB.a3 vB.n3 vB.c3, .bool (⟨false, false, none, 0, 0, p, m, q, none, 0, 0⟩ : SV).l, .bool (⟨false, false, none, 0, 0, p, m, q, none, 0, 0⟩ : SV).h, .slice (⟨false, false, none, 0, 0, p, m, q, none, 0, 0⟩ : SV).a1 (⟨false, false, none, 0, 0, p, m, q, none, 0, 0⟩ : SV).n1 (⟨false, false, none, 0, 0, p, m, q, none, 0, 0⟩ : SV).c1, .slice (⟨false, false, none, 0, 0, p, m, q, none, 0, 0⟩ : SV).a2 (⟨false, false, none, 0, 0, p, m, q, none, 0, 0⟩ : SV).n2 (⟨false, false, none, 0, 0, p, m, q, none, 0, 0⟩ : SV).c2, .slice (⟨false, false, none, 0, 0, p, m, q, none, 0, 0⟩ : SV).a3 (⟨false, false, none, 0, 0, p, m, q, none, 0, 0⟩ : SV).n3 (⟨false, false, none, 0, 0, p, m, q, none, 0, 0⟩ : SV).c3] 37)) (by simp [go_sem, SV.val]) ?_
      have a15 : Below z14.heap.size z14 (z14.alloc (.cells #[.bool vB.l, .bool vB.h, .slice vB.a1 vB.n1 vB.c1, .slice vB.a2 vB.n2 vB.c2, .slice vB.a3 vB.n3 vB.c3, .bool (⟨false, false, none, 0, 0, p, m, q, none, 0, 0⟩ : SV).l, .bool (⟨false, false, none, 0, 0, p, m, q, none, 0, 0⟩ : SV).h, .slice (⟨false, false, none, 0, 0, p, m, q, none, 0, 0⟩ : SV).a1 (⟨false, false, none, 0, 0, p, m, q, none, 0, 0⟩ : SV).n1 (⟨false, false, none, 0, 0, p, m, q, none, 0, 0⟩ : SV).c1, .slice (⟨false, false, none, 0, 0, p, m, q, none, 0, 0⟩ : SV).a2 (⟨false, false, none, 0, 0, p, m, q, none, 0, 0⟩ : SV).n2 (⟨false, false, none, 0, 0, p, m, q, none, 0, 0⟩ : SV).c2, .slice (⟨false, false, none, 0, 0, p, m, q, none, 0, 0⟩ : SV).a3 (⟨false, false, none, 0, 0, p, m, q, none, 0, 0⟩ : SV).n3 (⟨false, false, none, 0, 0, p, m, q, none, 0, 0⟩ : SV).c3] 37)) := (Below.refl _ _).alloc (Nat.le_refl _) _
      have row15 := row_two z14 vB (⟨false, false, none, 0, 0, p, m, q, none, 0, 0⟩ : SV) 37
      replace rA := rA.after a15
      replace rB := rB.after a15
      refine ⟨hKS _ _ s14 a15, ?_⟩
      simp only [Act.put, List.setIfInBounds_toArray, List.set_cons_zero, List.set_cons_succ]
      generalize (z14.alloc (.cells #[.bool vB.l, .bool vB.h, .slice vB.a1 vB.n1 vB.c1, .slice vB.a2 vB.n2 vB.c2, .slice vB.a3 vB.n3 vB.c3, .bool (⟨false, false, none, 0, 0, p, m, q, none, 0, 0⟩ : SV).l, .bool (⟨false, false, none, 0, 0, p, m, q, none, 0, 0⟩ : SV).h, .slice (⟨false, false, none, 0, 0, p, m, q, none, 0, 0⟩ : SV).a1 (⟨false, false, none, 0, 0, p, m, q, none, 0, 0⟩ : SV).n1 (⟨false, false, none, 0, 0, p, m, q, none, 0, 0⟩ : SV).c1, .slice (⟨false, false, none, 0, 0, p, m, q, none, 0, 0⟩ : SV).a2 (⟨false, false, none, 0, 0, p, m, q, none, 0, 0⟩ : SV).n2 (⟨false, false, none, 0, 0, p, m, q, none, 0, 0⟩ : SV).c2, .slice (⟨false, false, none, 0, 0, p, m, q, none, 0, 0⟩ : SV).a3 (⟨false, false, none, 0, 0, p, m, q, none, 0, 0⟩ : SV).n3 (⟨false, false, none, 0, 0, p, m, q, none, 0, 0⟩ : SV).c3] 37)) = y16 at *
      refine wpW_one 4 rfl (by kernel_rfl) rfl rfl ?_
      intro z17 b17 s17
      replace rA := rA.after b17
      replace rB := rB.after b17
      replace row15 := row15.after b17
      refine wp_callR 39 #[.slice (some ⟨_, 0, none⟩) 2 2] (by simp [go_sem]) _ (listI_any (fun b => w.heap.size ≤ b ∧ b ≠ w.heap.size + 1) _ 2 2 _ [(.mk false false [] [101, 100, 50, 53, 53, 49, 57] []), .mk false false [] l []] z17 row15 (by omega) rfl (fun i hi => match i, hi with | 0, _ => rB | 1, _ => s17.2.1) (fun b hb => by have := s17.2.2.1.lt; omega)) ?_
      rintro e z18 ⟨vM, rfl, rM, b18⟩
      replace rA := rA.after b18
      replace rB := rB.after b18
      refine ⟨_, rfl, hKS _ _ s17 b18, ?_⟩
      simp only [Act.put, List.setIfInBounds_toArray, List.set_cons_zero, List.set_cons_succ]
      refine wpW_one 5 rfl (by kernel_rfl) rfl rfl ?_
      intro z19 b19 s19
      replace rA := rA.after b19
      replace rB := rB.after b19
      replace rM := rM.after b19
      refine wp_of_run (.slice (some ⟨z19.heap.size, 0, none⟩) 2 2) (z19.alloc (.cells #[.bool vA.l, .bool vA.h, .slice vA.a1 vA.n1 vA.c1, .slice vA.a2 vA.n2 vA.c2, .slice vA.a3 vA.n3 vA.c3, .bool vM.l, .bool vM.h, .slice vM.a1 vM.n1 vM.c1, .slice vM.a2 vM.n2 vM.c2, .slice vM.a3 vM.n3 vM.c3] 37)) (by simp [go_sem, SV.val]) ?_
      have a20 : Below z19.heap.size z19 (z19.alloc (.cells #[.bool vA.l, .bool vA.h, .slice vA.a1 vA.n1 vA.c1, .slice vA.a2 vA.n2 vA.c2, .slice vA.a3 vA.n3 vA.c3, .bool vM.l, .bool vM.h, .slice vM.a1 vM.n1 vM.c1, .slice vM.a2 vM.n2 vM.c2, .slice vM.a3 vM.n3 vM.c3] 37)) := (Below.refl _ _).alloc (Nat.le_refl _) _
      have row20 := row_two z19 vA vM 37
      replace rA := rA.after a20
      replace rB := rB.after a20
      replace rM := rM.after a20
      refine ⟨hKS _ _ s19 a20, ?_⟩
      simp only [Act.put, List.setIfInBounds_toArray, List.set_cons_zero, List.set_cons_succ]
      generalize (z19.alloc (.cells #[.bool vA.l, .bool vA.h, .slice vA.a1 vA.n1 vA.c1, .slice vA.a2 vA.n2 vA.c2, .slice vA.a3 vA.n3 vA.c3, .bool vM.l, .bool vM.h, .slice vM.a1 vM.n1 vM.c1, .slice vM.a2 vM.n2 vM.c2, .slice vM.a3 vM.n3 vM.c3] 37)) = y21 at *
      refine wpW_one 6 rfl (by kernel_rfl) rfl rfl ?_
      intro z22 b22 s22
      replace rA := rA.after b22
      replace rB := rB.after b22
      replace rM := rM.after b22
      replace row20 := row20.after b22
      refine wp_callR 39 #[.slice (some ⟨_, 0, none⟩) 2 2] (by simp [go_sem]) _ (listI_any (fun b => w.heap.size ≤ b ∧ b ≠ w.heap.size + 1) _ 2 2 _ [(.mk false false [] [112, 117, 98, 108, 105, 99, 45, 107, 101, 121] []), .mk true false [] [] [(.mk false false [] [101, 100, 50, 53, 53, 49, 57] []), .mk false false [] l []]] z22 row20 (by omega) rfl (fun i hi => match i, hi with | 0, _ => rA | 1, _ => rM) (fun b hb => by have := s22.2.2.1.lt; omega)) ?_
      rintro e z23 ⟨vL, rfl, rL, b23⟩
      replace rA := rA.after b23
      replace rB := rB.after b23
      replace rM := rM.after b23
      refine ⟨_, rfl, hKS _ _ s22 b23, ?_⟩
      simp only [Act.put, List.setIfInBounds_toArray, List.set_cons_zero, List.set_cons_succ]
      refine wpW_write 7 rfl (by kernel_rfl) (by kernel_rfl) rfl ?_
      intro zz bz sz
      replace rL := rL.after bz
      obtain ⟨vl, vh, a1, n1, c1, a2, n2, c2, a3, n3, c3⟩ := vL
      refine wp_store_box 37 _ _ rfl sz.2.2.1 (by rfl) (by rfl) rfl (by kernel_rfl) (by simp [Value.oneCell']) (cells := #[.bool vl, .bool vh, .slice a1 n1 c1, .slice a2 n2 c2, .slice a3 n3 c3]) ?_
      intro zx Xx stx
      have RLx := rL.keep (w' := zx) (fun b hb => stx.other b hb.2)
      have Bx := stx.below w.heap.size w (by omega) sz.2.2.2
      clear rL sz stx
      simp only [Act.put, List.setIfInBounds_toArray, List.set_cons_zero, List.set_cons_succ]
      refine wpU_val 8 keeps_true rfl (by kernel_rfl) (by kernel_rfl) (by kernel_rfl) rfl (fun _ _ _ _ h => h) (.int .i64 0) (fun w' _ => by simp [go_sem]) ?_
      simp only [Act.put, List.setIfInBounds_toArray, List.set_cons_zero, List.set_cons_succ]
      refine wpU_done rfl (fun w9 b9 _ => ?_)
      have B9 := Bx.trans (b9.mono Bx.size)
      have X9 := Xx.after b9
      have R9 := RLx.after b9
      go_wp2_with fail
      exact bodyPost_ret (v := .tuple #[.agg #[.bool vl, .bool vh, .slice a1 n1 c1, .slice a2 n2 c2, .slice a3 n3 c3], .int .i64 0]) (box_result2 (p := 2) (q := 3) rfl _ _ (by rfl) X9 Tryd.underlying37 rfl (by kernel_rfl)) rfl (.inl ⟨by rw [← HLN.out]; exact HRR.out.symm, ⟨vl, vh, a1, n1, c1, a2, n2, c2, a3, n3, c3⟩, rfl, R9.mono (fun _ h => h.1), B9⟩)

end Go.Proofs.YticjhogofoffmaaDoor

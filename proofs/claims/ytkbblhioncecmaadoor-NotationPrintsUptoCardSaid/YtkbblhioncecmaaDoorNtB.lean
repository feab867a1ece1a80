/- The program's reader of advanced forms: until. -/
import Derived.Test.YtkbblhioncecmaaDoorNtA
namespace Go.Proofs.YtkbblhioncecmaaDoor
open Go.RowKit
set_option linter.unusedSimpArgs false
set_option linter.unusedVariables false

theorem bld_keep {T e : TypeId} {B b : Nat} {bs : List Value} {w w' : World} (h : Lib.IsBuilder T e B b bs w) (hk : ∀ k, B ≤ k → k < w.heap.size → w'.heap[k]? = w.heap[k]?) : Lib.IsBuilder T e B b bs w' := by
  have one : ∀ p, Lib.BuilderAt T e B b p bs w → Lib.BuilderAt T e B b p bs w' := by
    rintro p ⟨hB, v, hb, hown, hne⟩
    have hlt : ∀ k o, w.heap[k]? = some o → k < w.heap.size := fun k o h => by
      rcases Nat.lt_or_ge k w.heap.size with h' | h'
      · exact h'
      · rw [Array.getElem?_eq_none h'] at h; cases h
    refine ⟨hB, v, (hk b hB (hlt b _ hb)).trans hb, ⟨hown.1, ?_⟩, hne⟩
    rcases hown.2 with h2 | ⟨g, cap, cur, h2, h3, h4, h5⟩
    · exact .inl h2
    · exact .inr ⟨g, cap, cur, h2, h3, (hk g h3 (hlt g _ h4)).trans h4, h5⟩
  exact h.imp (one _) (one _)
theorem bld_after {T e : TypeId} {B b : Nat} {bs : List Value} {w w' : World} (h : Lib.IsBuilder T e B b bs w) (hb : Below w.heap.size w w') : Lib.IsBuilder T e B b bs w' := bld_keep h fun k _ hk => hb.block k hk
theorem bld_set {T e : TypeId} {B b : Nat} {bs : List Value} {w : World} (h : Lib.IsBuilder T e B b bs w) {a : Addr} (ha : a.block < B) (v : Value) : Lib.IsBuilder T e B b bs (w.setCell a v) := bld_keep h fun k hk _ => Below.heap_setCell w a v k (fun e => by omega)

theorem but_below {S : Nat → Prop} {w w1 w2 : World} (h : But S w w1) (hb : Below w.heap.size w1 w2) : But S w w2 :=
  ⟨hb.os.trans h.os, hb.tape.trans h.tape, hb.output.trans h.output, Nat.le_trans h.size hb.size, fun k hk hS => (hb.block k hk).trans (h.block k hk hS)⟩
theorem pre_pre (a b : List UInt8) (R : BR) : (R.pre b).pre a = R.pre (a ++ b) := by
  unfold BR.pre
  by_cases h : R.e = 0
  · simp [h]
  · simp [h]
theorem pre_nil (R : BR) : R.pre [] = R := by
  unfold BR.pre
  split
  · rename_i h
    obtain ⟨b, p, e⟩ := R
    simp at h ⊢
    exact h.symm
  · rfl
theorem nSome_end {good : UInt8 → Bool} {en : UInt8} {l : List UInt8} {k : Nat} (h : l.length ≤ k) : nSome good en (l.drop k) k = BR.err k 2 := by rw [List.drop_eq_nil_of_le h]; rfl
theorem nSome_step {good : UInt8 → Bool} {en : UInt8} {l : List UInt8} {k : Nat} (h : k < l.length) : nSome good en (l.drop k) k = if l.getD k 0 = en then ⟨[], k, 0⟩ else if !good (l.getD k 0) && !blankB (l.getD k 0) then BR.err k 3 else
    (nSome good en (l.drop (k + 1)) (k + 1)).pre (if good (l.getD k 0) then [l.getD k 0] else []) := by
  rw [List.drop_eq_getElem_cons h]
  have e : l.getD k 0 = l[k] := by rw [List.getD_eq_getElem?_getD, List.getElem?_eq_getElem h]; rfl
  rw [e, nSome]
  split
  · rfl
  · split
    · rfl
    · unfold BR.pre
      generalize nSome good en (l.drop (k + 1)) (k + 1) = x
      by_cases hx : x.e = 0
      · simp only [hx, if_true]
        cases good l[k] <;> simp
      · simp only [hx, if_false]
/-- where the reader stands -/
def atN (w : World) (g : Nat) : Nat := match w.cell? ⟨g, 1, none⟩ with | some (.int _ z) => z.toNat | _ => 0
theorem atN_eq {w : World} {g : Nat} {s : ByteArray} {p m : Nat} (h : Box w g 72 (RdN s p m)) : atN w g = p := by
  unfold atN
  rw [h.cell 1 rfl]
  simp
/-- until: a fault, or what is read; the reader stands at the end -/
def UntilP (g : Nat) (s : ByteArray) (m : Nat) (R : BR) (w : World) (e : Ending) (w' : World) : Prop :=
  But (fun k => k = g) w w' ∧ ((R.e ≠ 0 ∧ e = FaultN R.p R.e) ∨ (R.e = 0 ∧ e = .returned (.string ⟨R.b.toArray⟩) ∧ Box w' g 72 (RdN s R.p m)))
theorem un_no {g : Nat} {s : ByteArray} {m p e : Nat} {R : BR} (h : R = BR.err p e) (he : e ≠ 0) {w w' : World} (hb : But (fun k => k = g) w w') : UntilP g s m R w (FaultN p e) w' := by
  subst h
  exact ⟨hb, .inl ⟨he, rfl⟩⟩
theorem un_yes {g : Nat} {s : ByteArray} {m p : Nat} {b : List UInt8} {R : BR} (h : R = ⟨b, p, 0⟩) {w w' : World} (hb : But (fun k => k = g) w w') (hX : Box w' g 72 (RdN s p m)) : UntilP g s m R w (.returned (.string ⟨b.toArray⟩)) w' := by
  subst h
  exact ⟨hb, .inr ⟨rfl, rfl, hX⟩⟩

set_option maxHeartbeats 8000000 in
set_option maxRecDepth 100000 in
theorem untilN_any (good : UInt8 → Bool) (en : UInt8) (S : ByteArray) (hgood : ∀ c, isIn S.data.toList c = good c) (g : Nat) (s : ByteArray) (p m : Nat) (w : World) (hX : Box w g 72 (RdN s p m)) (hs : s.size ≤ 1000000) (hp : p ≤ s.size) :
    Calls Tryd.prog 67 #[.pointer (some ⟨g, 0, none⟩), .string S, .int .u8 (en.toNat : Int)] w (UntilP g s m (nSome good en (s.data.toList.drop p) p) w) := by
  have HG := Lib.hid hgood
  obtain ⟨R, hR⟩ : ∃ R, R = nSome good en (s.data.toList.drop p) p := ⟨_, rfl⟩
  rw [← hR]
  have HR := Lib.hid hR
  have hgw := hX.lt
  have HX := Lib.hid hX
  have HL : Hid (s.data.toList.length = s.size) := Lib.hid (by simp)
  clear hgood hR hX
  go_enter Tryd.func67, Tryd.ntmps67
  go_wp2_with fail
  go_loopw [] (fun wr => ∃ (k : Nat) (d : List UInt8), k ≤ s.size ∧ d.length ≤ k ∧ Hid (R = (nSome good en (s.data.toList.drop k) k).pre d) ∧ Box wr g 72 (RdN s k m) ∧ Lib.IsBuilder 61 5 w.heap.size w.heap.size (Lib.byteCells d) wr ∧ But (fun k => k = g) w wr) (fun wr => s.size + 1 - atN wr g)
  case atStart => exact ⟨p, [], hp, Nat.zero_le _, Lib.hid (by rw [HR.out, pre_nil]), HX.out.after ((Below.refl _ _).alloc (Nat.le_refl _) _), Lib.fresh_isBuilder _ _ _, But.ofBelow ((Below.refl _ _).alloc (Nat.le_refl _) _)⟩
  case round =>
    obtain ⟨k, d, hk, hd, HRK, hX2, hbl, hbut⟩ := hrel
    clear HX HR
    have HAT := Lib.hid (atN_eq hX2)
    have HX := Lib.hid hX2
    have HBL := Lib.hid hbl
    have HBU := Lib.hid hbut
    clear hX2 hbl hbut
    go_wp2_with fail
    refine (peek_any g s k m wr HX.out hs).mono ?_
    rintro e w1 ⟨hb1, ⟨h1, rfl⟩ | ⟨h1, rfl⟩⟩
    · unfold FaultN
      go_wp2_with fail
      exact ⟨rfl, un_no (by rw [HRK.out, nSome_end (by rw [HL.out]; exact h1), show k = s.size by omega]; rfl) (by decide) (HBU.out.trans (But.ofBelow (S := fun _ => False) hb1) (fun _ h => h.elim))⟩
    · obtain ⟨x, hx⟩ : ∃ x, x = s.data.toList.getD k 0 := ⟨_, rfl⟩
      rw [← hx]
      have HST := Lib.hid (nSome_step (good := good) (en := en) (l := s.data.toList) (k := k) (by rw [HL.out]; exact h1))
      rw [← hx] at HST
      have X1 := Lib.hid (HX.out.after hb1)
      have L1 := Lib.hid (bld_after HBL.out hb1)
      have U1 := Lib.hid (HBU.out.trans (But.ofBelow (S := fun _ => False) hb1) (fun _ h => h.elim))
      clear hx hb1 HX HBL HBU
      by_cases he : x = en
      · have e1 : ((x.toNat : Int) == (en.toNat : Int)) = true := by rw [he]; simp
        have HE := Lib.hid he
        clear he
        go_wp2_with fail
        refine (bldOut _ _ _ _ L1.out U1.out.size).mono ?_
        rintro e w2 ⟨rfl, hb2⟩
        have HB2 := Lib.hid hb2
        clear hb2
        go_wp2_with fail
        go_ret
        exact un_yes (by rw [HRK.out, HST.out, if_pos HE.out]; simp [BR.pre]) (but_below U1.out HB2.out) (X1.out.below HB2.out hgw)
      · obtain ⟨z1, z2⟩ := byteNe he
        have HE := Lib.hid he
        clear he
        cases hgd : good x with
        | true =>
          have HGD := Lib.hid hgd
          clear hgd
          go_wp2_with fail
          refine (is_any S x _).mono ?_
          rintro e w2 ⟨rfl, rfl⟩
          rw [HG.out x, HGD.out]
          go_wp2_with fail
          refine (bldByte _ _ _ _ _ L1.out (by rw [byteCells_length]; omega) U1.out.size).mono ?_
          rintro e w3 ⟨rfl, hB3, hb3⟩
          rw [byteCells_snoc] at hB3
          have X3 := X1.out.below hb3 hgw
          have x1 := X3.cell 1 rfl
          have f1 := X3.frozen 1
          have HX3 := Lib.hid X3
          have L3 := Lib.hid hB3
          have U3 := Lib.hid (but_below U1.out hb3)
          clear hB3 hb3 X3
          have hk6 : (k : Int) ≤ 1000000 := by omega
          go_wp2_with fail
          have X4 : Box (w3.setCell ⟨g, 1, none⟩ (.int .i64 ((k : Int) + 1))) g 72 (RdN s (k + 1) m) := HX3.out.set 1 _
          have e4 := atN_eq X4
          go_roundw
          case rel => exact ⟨k + 1, d ++ [x], by omega, by simp; omega, Lib.hid (by rw [HRK.out, HST.out, if_neg HE.out, HGD.out]; simp [pre_pre]), X4, bld_set L3.out (a := ⟨g, 1, none⟩) hgw _, U3.out.setCell (p := ⟨g, 1, none⟩) (.inl rfl) _⟩
          case measure => rw [HAT.out, e4]; omega
        | false =>
          have HGD := Lib.hid hgd
          clear hgd
          go_wp2_with fail
          refine (is_any S x _).mono ?_
          rintro e w2 ⟨rfl, rfl⟩
          rw [HG.out x, HGD.out]
          have hib : isIn blankL x = blankB x := by have := isIn_blank ⟨x.toNat, x.toNat_lt⟩; rwa [byte_fin] at this
          cases hbb : blankB x with
          | true =>
            have HBB := Lib.hid hbb
            rw [hbb] at hib
            have HIB := Lib.hid hib
            clear hbb hib
            go_wp2_with fail
            refine (is_any _ x _).mono ?_
            rintro e w3 ⟨rfl, rfl⟩
            have hz : isIn (ByteArray.mk #[32, 9, 10, 11, 12, 13]).data.toList x = true := HIB.out
            rw [hz]
            clear hz
            have x1 := X1.out.cell 1 rfl
            have f1 := X1.out.frozen 1
            have hk6 : (k : Int) ≤ 1000000 := by omega
            go_wp2_with fail
            have X4 : Box (w3.setCell ⟨g, 1, none⟩ (.int .i64 ((k : Int) + 1))) g 72 (RdN s (k + 1) m) := X1.out.set 1 _
            have e4 := atN_eq X4
            go_roundw
            case rel => exact ⟨k + 1, d, by omega, by omega, Lib.hid (by rw [HRK.out, HST.out, if_neg HE.out, HGD.out, HBB.out]; simp [pre_nil]), X4, bld_set L1.out (a := ⟨g, 1, none⟩) hgw _, U1.out.setCell (p := ⟨g, 1, none⟩) (.inl rfl) _⟩
            case measure => rw [HAT.out, e4]; omega
          | false =>
            have HBB := Lib.hid hbb
            rw [hbb] at hib
            have HIB := Lib.hid hib
            clear hbb hib
            go_wp2_with fail
            refine (is_any _ x _).mono ?_
            rintro e w3 ⟨rfl, rfl⟩
            have hz : isIn (ByteArray.mk #[32, 9, 10, 11, 12, 13]).data.toList x = false := HIB.out
            rw [hz]
            clear hz
            have x1 := X1.out.cell 1 rfl
            go_wp2_with fail
            refine (wrong_any k 3 _).mono ?_
            rintro e w4 ⟨rfl, rfl⟩
            unfold FaultN
            go_wp2_with fail
            exact ⟨rfl, un_no (by rw [HRK.out, HST.out, if_neg HE.out, HGD.out, HBB.out]; rfl) (by decide) U1.out⟩

end Go.Proofs.YtkbblhioncecmaaDoor

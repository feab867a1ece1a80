/- A row of four values that is stored to; 'awake' of layer 16. -/
import Derived.Test.YthmigigclmogiaaDoorSjD
namespace Go.Proofs.YthmigigclmogiaaDoor
open Go.RowKit
set_option linter.unusedSimpArgs false
set_option linter.unusedVariables false

theorem setCells_part (g : Nat) (T : TypeId) : ∀ (vs : List Value) (o : Nat) (w : World) (pre mid suf : List Value), pre.length = o → mid.length = vs.length → Box w g T (pre ++ (mid ++ suf)).toArray →
    Box (w.setCells g o vs) g T (pre ++ (vs ++ suf)).toArray ∧ Stored w (w.setCells g o vs) g
  | [], o, w, pre, mid, suf, _, hl, h => by
    have : mid = [] := List.eq_nil_of_length_eq_zero hl
    subst this
    exact ⟨h, Stored.refl _ _⟩
  | v :: vs, o, w, pre, [], suf, _, hl, _ => by cases hl
  | v :: vs, o, w, pre, p :: mid, suf, hp, hl, h => by
    have h1 := h.set o v
    have e : (pre ++ (p :: mid ++ suf)).toArray.setIfInBounds o v = ((pre ++ [v]) ++ (mid ++ suf)).toArray := by
      subst hp
      simp
    rw [e] at h1
    have h2 := setCells_part g T vs (o + 1) (w.setCell ⟨g, o, none⟩ v) (pre ++ [v]) mid suf (by simp [hp]) (by simpa using hl) h1
    refine ⟨by simpa [World.setCells] using h2.1, ?_⟩
    have h3 := (Stored.refl w g).setCell o v
    exact ⟨fun k hk => (h2.2.other k hk).trans (h3.other k hk), h2.2.size.trans h3.size, fun B W hB hb => h2.2.below B W hB (h3.below B W hB hb)⟩
def fourK (a b c d : SV) : Nat → SV
  | 0 => a
  | 1 => b
  | 2 => c
  | _ => d
theorem row_four {w : World} {y : Nat} {A B C K : SV} {T : TypeId} (hb : Box w y T #[.bool A.l, .bool A.h, .slice A.a1 A.n1 A.c1, .slice A.a2 A.n2 A.c2, .slice A.a3 A.n3 A.c3, .bool B.l, .bool B.h, .slice B.a1 B.n1 B.c1, .slice B.a2 B.n2 B.c2, .slice B.a3 B.n3 B.c3, .bool C.l, .bool C.h, .slice C.a1 C.n1 C.c1, .slice C.a2 C.n2 C.c2, .slice C.a3 C.n3 C.c3, .bool K.l, .bool K.h, .slice K.a1 K.n1 K.c1, .slice K.a2 K.n2 K.c2, .slice K.a3 K.n3 K.c3]) : RowAt w (some ⟨y, 0, none⟩) 4 4 (fourK A B C K) := by
  refine ⟨Nat.le_refl _, by unfold maxLen; omega, (fun h => by cases h), .inr ⟨_, 0, rfl, fun i hi j x hx => ?_⟩⟩
  rw [Nat.zero_add]
  have hj : j < 5 := by
    have := (Array.getElem?_eq_some_iff.1 hx).1
    rwa [SV.cells_size] at this
  refine hb.cell (i * 5 + j) ?_
  match i, hi, j, hj with
  | 0, _, 0, _ => exact hx
  | 0, _, 1, _ => exact hx
  | 0, _, 2, _ => exact hx
  | 0, _, 3, _ => exact hx
  | 0, _, 4, _ => exact hx
  | 1, _, 0, _ => exact hx
  | 1, _, 1, _ => exact hx
  | 1, _, 2, _ => exact hx
  | 1, _, 3, _ => exact hx
  | 1, _, 4, _ => exact hx
  | 2, _, 0, _ => exact hx
  | 2, _, 1, _ => exact hx
  | 2, _, 2, _ => exact hx
  | 2, _, 3, _ => exact hx
  | 2, _, 4, _ => exact hx
  | 3, _, 0, _ => exact hx
  | 3, _, 1, _ => exact hx
  | 3, _, 2, _ => exact hx
  | 3, _, 3, _ => exact hx
  | 3, _, 4, _ => exact hx
/-- four values in a row, by the blocks they go through; the row's block is another one -/
def Row4 (ok : Nat → Prop) (w : World) (y : Nat) (A B C K : SV) (dl l : List UInt8) : Prop :=
  ok y ∧ Box w y 33 #[.bool A.l, .bool A.h, .slice A.a1 A.n1 A.c1, .slice A.a2 A.n2 A.c2, .slice A.a3 A.n3 A.c3, .bool B.l, .bool B.h, .slice B.a1 B.n1 B.c1, .slice B.a2 B.n2 B.c2, .slice B.a3 B.n3 B.c3, .bool C.l, .bool C.h, .slice C.a1 C.n1 C.c1, .slice C.a2 C.n2 C.c2, .slice C.a3 C.n3 C.c3, .bool K.l, .bool K.h, .slice K.a1 K.n1 K.c1, .slice K.a2 K.n2 K.c2, .slice K.a3 K.n3 K.c3] ∧ RdI (fun b => ok b ∧ b ≠ y) w A (at1 knL) ∧ RdI (fun b => ok b ∧ b ≠ y) w B (at1 [49]) ∧ RdI (fun b => ok b ∧ b ≠ y) w C (at1 dl) ∧ RdI (fun b => ok b ∧ b ≠ y) w K (keyS false l)
section
variable {ok ok' : Nat → Prop} {w w' : World} {y : Nat} {A B C K : SV} {dl l : List UInt8}
theorem Row4.after (h : Row4 ok w y A B C K dl l) (hb : Below w.heap.size w w') : Row4 ok w' y A B C K dl l :=
  ⟨h.1, h.2.1.after hb, h.2.2.1.after hb, h.2.2.2.1.after hb, h.2.2.2.2.1.after hb, h.2.2.2.2.2.after hb⟩
theorem Row4.mono (h : Row4 ok w y A B C K dl l) (hm : ∀ b, ok b → ok' b) : Row4 ok' w y A B C K dl l :=
  ⟨hm _ h.1, h.2.1, h.2.2.1.mono (fun b hb => ⟨hm b hb.1, hb.2⟩), h.2.2.2.1.mono (fun b hb => ⟨hm b hb.1, hb.2⟩), h.2.2.2.2.1.mono (fun b hb => ⟨hm b hb.1, hb.2⟩), h.2.2.2.2.2.mono (fun b hb => ⟨hm b hb.1, hb.2⟩)⟩
theorem Row4.there (h : Row4 ok w y A B C K dl l) : Row4 (fun b => ok b ∧ b < w.heap.size) w y A B C K dl l :=
  ⟨⟨h.1, h.2.1.lt⟩, h.2.1, h.2.2.1.there.mono (fun b hb => ⟨⟨hb.1.1, hb.2⟩, hb.1.2⟩), h.2.2.2.1.there.mono (fun b hb => ⟨⟨hb.1.1, hb.2⟩, hb.1.2⟩), h.2.2.2.2.1.there.mono (fun b hb => ⟨⟨hb.1.1, hb.2⟩, hb.1.2⟩), h.2.2.2.2.2.there.mono (fun b hb => ⟨⟨hb.1.1, hb.2⟩, hb.1.2⟩)⟩
theorem Row4.keep (h : Row4 ok w y A B C K dl l) (hk : ∀ b, ok b → w'.heap[b]? = w.heap[b]?) : Row4 ok w' y A B C K dl l :=
  ⟨h.1, (hk y h.1).trans h.2.1, h.2.2.1.keep (fun b hb => hk b hb.1), h.2.2.2.1.keep (fun b hb => hk b hb.1), h.2.2.2.2.1.keep (fun b hb => hk b hb.1), h.2.2.2.2.2.keep (fun b hb => hk b hb.1)⟩
theorem Row4.rd (h : Row4 ok w y A B C K dl l) : RdI ok w ⟨true, false, none, 0, 0, none, 0, 0, some ⟨y, 0, none⟩, 4, 4⟩ (li [at1 knL, at1 [49], at1 dl, keyS false l]) :=
  rd_list (row_four h.2.1) (.inr fun b o s e => by cases e; exact h.1) rfl (fun i hi => match i, hi with
    | 0, _ => h.2.2.1.mono (fun b hb => hb.1)
    | 1, _ => h.2.2.2.1.mono (fun b hb => hb.1)
    | 2, _ => h.2.2.2.2.1.mono (fun b hb => hb.1)
    | 3, _ => h.2.2.2.2.2.mono (fun b hb => hb.1))
theorem Row4.room (h : Row4 ok w y A B C K dl l) : w.there y 10 5 := fun j hj =>
  ⟨by rw [cell_of_row w y (10 + j) _ 33 _ h.2.1, Array.getElem?_eq_getElem (by simp; omega)]; rfl, h.2.1.frozen (10 + j)⟩
theorem Row4.store (h : Row4 ok w y A B C K dl l) (D : SV) (d2 : List UInt8) (hD : RdI (fun b => ok b ∧ b ≠ y) w D (at1 d2)) :
    Row4 ok (w.setCells y 10 [.bool D.l, .bool D.h, .slice D.a1 D.n1 D.c1, .slice D.a2 D.n2 D.c2, .slice D.a3 D.n3 D.c3]) y A B D K d2 l ∧ Stored w (w.setCells y 10 [.bool D.l, .bool D.h, .slice D.a1 D.n1 D.c1, .slice D.a2 D.n2 D.c2, .slice D.a3 D.n3 D.c3]) y := by
  have hs := setCells_part y 33 [.bool D.l, .bool D.h, .slice D.a1 D.n1 D.c1, .slice D.a2 D.n2 D.c2, .slice D.a3 D.n3 D.c3] 10 w [.bool A.l, .bool A.h, .slice A.a1 A.n1 A.c1, .slice A.a2 A.n2 A.c2, .slice A.a3 A.n3 A.c3, .bool B.l, .bool B.h, .slice B.a1 B.n1 B.c1, .slice B.a2 B.n2 B.c2, .slice B.a3 B.n3 B.c3] [.bool C.l, .bool C.h, .slice C.a1 C.n1 C.c1, .slice C.a2 C.n2 C.c2, .slice C.a3 C.n3 C.c3] [.bool K.l, .bool K.h, .slice K.a1 K.n1 K.c1, .slice K.a2 K.n2 K.c2, .slice K.a3 K.n3 K.c3] rfl rfl h.2.1
  have hk : ∀ b, (ok b ∧ b ≠ y) → (w.setCells y 10 [.bool D.l, .bool D.h, .slice D.a1 D.n1 D.c1, .slice D.a2 D.n2 D.c2, .slice D.a3 D.n3 D.c3]).heap[b]? = w.heap[b]? := fun b hb => hs.2.other b hb.2
  exact ⟨⟨h.1, hs.1, h.2.2.1.keep hk, h.2.2.2.1.keep hk, hD.keep hk, h.2.2.2.2.2.keep hk⟩, hs.2⟩
end
theorem join_may {dl l : List UInt8} (hd : dl.length = 1) (hl : l.length = 32) : (li [at1 knL, at1 [49], at1 dl, keyS false l]).may = true := by
  have hf : (li [at1 knL, at1 [49], at1 dl, keyS false l]).form.length ≤ 4096 := by
    have n1 := numL_len 1 (by omega)
    have n6 := numL_len 6 (by omega)
    have n7 := numL_len 7 (by omega)
    have n10 := numL_len 10 (by omega)
    have n2 := numL_len 32 (by omega)
    simp [form_def, Sx.formL, textL, li, at1, keyS_false, knL, pkL, edL, hd, hl]
    generalize (numL 1).length = x1 at *
    generalize (numL 6).length = x6 at *
    generalize (numL 7).length = x7 at *
    generalize (numL 10).length = x10 at *
    generalize (numL 32).length = x32 at *
    omega
  have h1 : (li [at1 knL, at1 [49], at1 dl, keyS false l]).clean = true := rfl
  have h2 : (li [at1 knL, at1 [49], at1 dl, keyS false l]).nodes ≤ 512 := Nat.le_of_ble_eq_true rfl
  have h3 : (li [at1 knL, at1 [49], at1 dl, keyS false l]).deep ≤ 16 := Nat.le_of_ble_eq_true rfl
  unfold Sx.may
  rw [h1, decide_eq_true hf, decide_eq_true h2, decide_eq_true h3]
  rfl
theorem joinJ_may {l : List UInt8} (hl : l.length = 32) : (Sj.mk 3 false [] [] 1 [.mk 1 false l [] 0 []]).may = true := by
  unfold Sj.may
  rw [show (Sj.mk 3 false [] [] 1 [.mk 1 false l [] 0 []]).value = li [at1 knL, at1 [49], at1 [49], keyS false l] by simp [Sj.value, Sj.valueL, numL_one, at1, li, knL], join_may rfl hl]
  simp [right_def, Sj.wrongL, pl, keyMay, badJ, hl]
theorem join_two (l : List UInt8) : (li [at1 knL, at1 [49], at1 [50], keyS false l]).same (li [at1 knL, at1 [49], at1 [49], keyS false l]) = false := by
  cases h : (li [at1 knL, at1 [49], at1 [50], keyS false l]).same (li [at1 knL, at1 [49], at1 [49], keyS false l]) with
  | false => rfl
  | true =>
    have := (Sx.same_iff _ _).1 h
    simp [li, at1] at this

set_option maxHeartbeats 64000000 in
set_option maxRecDepth 100000 in
theorem awakeJ_any (w : World) (ht : Tab w) : Calls Tryd.prog 6 #[] w fun e w' => e = .returned (.bool true) ∧ Below w.heap.size w w' := by
  obtain ⟨wm, hm, hs, B0⟩ := make32 w
  have HT0 := Lib.hid ht
  have C := Lib.hid (refVal0_any _ 32 32 (List.replicate 32 0) wm hs)
  clear hs
  go_enter Tryd.func6, Tryd.ntmps6
  go_wp2_with fail
  refine C.out.mono ?_
  rintro e w1 ⟨⟨kl, kh, ka1, kn1, kc1, ka2, kn2, kc2, ka3, kn3, kc3⟩, rfl, r1, hb1⟩
  have B := B0.trans (hb1.mono B0.size)
  have HK := Lib.hid r1
  simp only [SV.val]
  clear B0 hb1 r1 C hm
  go_upto_region 2 with (refine wpList_store_box (cells := #[.bool kl, .bool kh, .slice ka1 kn1 kc1, .slice ka2 kn2 kc2, .slice ka3 kn3 kc3]) rfl 33 _ _ rfl (Box.new _ _ _) (by rfl) (by rfl) rfl (by kernel_rfl) (by simp [Value.oneCell']) ?_; intro u9 X9 st9)
  have bs1 : Below w1.heap.size w1 u9 := st9.below w1.heap.size w1 (Nat.le_refl _) ((Below.refl _ _).alloc (Nat.le_refl _) _)
  have X := Lib.hid X9
  replace HK := Lib.hid (HK.out.after bs1)
  replace B := B.trans (bs1.mono B.size)
  clear bs1 st9 X9
  generalize u9 = x1 at *
  generalize w1.heap.size = y1 at *
  have HT := Lib.hid (HT0.out.after B)
  have hw1 := B.size
  have hKS : Keeps (fun w' => Box w' y1 33 #[.bool kl, .bool kh, .slice ka1 kn1 kc1, .slice ka2 kn2 kc2, .slice ka3 kn3 kc3] ∧ RdI (fun b => b < x1.heap.size) w' ⟨kl, kh, ka1, kn1, kc1, ka2, kn2, kc2, ka3, kn3, kc3⟩ (keyS false (List.replicate 32 0)) ∧ True ∧ Below x1.heap.size x1 w') := fun _ _ h b => ⟨h.1.after b, h.2.1.after b, trivial, h.2.2.2.trans (b.mono h.2.2.2.size)⟩
  refine wp_region_W (w := x1) [7] (fun w' => Box w' y1 33 #[.bool kl, .bool kh, .slice ka1 kn1 kc1, .slice ka2 kn2 kc2, .slice ka3 kn3 kc3] ∧ RdI (fun b => b < x1.heap.size) w' ⟨kl, kh, ka1, kn1, kc1, ka2, kn2, kc2, ka3, kn3, kc3⟩ (keyS false (List.replicate 32 0)) ∧ True ∧ Below x1.heap.size x1 w') rfl (hKS _ _ ⟨X.out, HK.out.there.mono (fun b hb => hb.2), trivial, Below.refl _ _⟩ (Below.refl _ _).drew) ?_
  refine wpW_val 3 hKS rfl (by kernel_rfl) (by kernel_rfl) (by kernel_rfl) (by kernel_rfl) rfl (fun _ _ _ _ h => h) (.agg #[.bool kl, .bool kh, .slice ka1 kn1 kc1, .slice ka2 kn2 kc2, .slice ka3 kn3 kc3]) (fun w' h => run_load_box rfl h.1 (by rfl) Tryd.underlying33 rfl (by kernel_rfl)) ?_
  simp only [Act.put, List.setIfInBounds_toArray, List.set_cons_zero, List.set_cons_succ]
  refine wpW_two 0 6 rfl rfl (by kernel_rfl) rfl rfl rfl rfl ?_ ?_
  · intro z11 b11 s11
    refine wp_callR 15 #[.string ⟨#[107, 45, 111, 102, 45, 110]⟩] (by simp [go_sem]) _ (refAtomI_any (fun b => 0 ≤ b) ⟨#[107, 45, 111, 102, 45, 110]⟩ (by decide) z11 (fun b hb => by have := s11.2.2.2.size; first | omega | (refine ⟨?_, ?_⟩ <;> omega))) ?_
    rintro e w12 ⟨vA, rfl, rA, c12⟩
    refine ⟨_, rfl, hKS _ _ s11 c12, ?_⟩
    simp only [Act.put, List.setIfInBounds_toArray, List.set_cons_zero, List.set_cons_succ]
    refine wpW_two 1 6 rfl rfl (by kernel_rfl) rfl rfl rfl rfl ?_ ?_
    · intro z13 b13 s13
      replace rA := rA.after b13
      refine wp_callR 15 #[.string ⟨#[49]⟩] (by simp [go_sem]) _ (refAtomI_any (fun b => 0 ≤ b) ⟨#[49]⟩ (by decide) z13 (fun b hb => by have := s13.2.2.2.size; first | omega | (refine ⟨?_, ?_⟩ <;> omega))) ?_
      rintro e w14 ⟨vB, rfl, rB, c14⟩
      replace rA := rA.after c14
      refine ⟨_, rfl, hKS _ _ s13 c14, ?_⟩
      simp only [Act.put, List.setIfInBounds_toArray, List.set_cons_zero, List.set_cons_succ]
      refine wpW_two 2 6 rfl rfl (by kernel_rfl) rfl rfl rfl rfl ?_ ?_
      · intro z15 b15 s15
        replace rA := rA.after b15
        replace rB := rB.after b15
        refine wp_callR 15 #[.string ⟨#[50]⟩] (by simp [go_sem]) _ (refAtomI_any (fun b => 0 ≤ b) ⟨#[50]⟩ (by decide) z15 (fun b hb => by have := s15.2.2.2.size; first | omega | (refine ⟨?_, ?_⟩ <;> omega))) ?_
        rintro e w16 ⟨vC, rfl, rC, c16⟩
        replace rA := rA.after c16
        replace rB := rB.after c16
        refine ⟨_, rfl, hKS _ _ s15 c16, ?_⟩
        simp only [Act.put, List.setIfInBounds_toArray, List.set_cons_zero, List.set_cons_succ]
        refine wpW_two 4 6 rfl rfl (by kernel_rfl) rfl rfl rfl rfl ?_ ?_
        · intro z17 b17 s17
          replace rA := rA.after b17
          replace rB := rB.after b17
          replace rC := rC.after b17
          refine wp_of_run (.slice (some ⟨z17.heap.size, 0, none⟩) 4 4) (z17.alloc (.cells #[.bool vA.l, .bool vA.h, .slice vA.a1 vA.n1 vA.c1, .slice vA.a2 vA.n2 vA.c2, .slice vA.a3 vA.n3 vA.c3, .bool vB.l, .bool vB.h, .slice vB.a1 vB.n1 vB.c1, .slice vB.a2 vB.n2 vB.c2, .slice vB.a3 vB.n3 vB.c3, .bool vC.l, .bool vC.h, .slice vC.a1 vC.n1 vC.c1, .slice vC.a2 vC.n2 vC.c2, .slice vC.a3 vC.n3 vC.c3, .bool (⟨kl, kh, ka1, kn1, kc1, ka2, kn2, kc2, ka3, kn3, kc3⟩ : SV).l, .bool (⟨kl, kh, ka1, kn1, kc1, ka2, kn2, kc2, ka3, kn3, kc3⟩ : SV).h, .slice (⟨kl, kh, ka1, kn1, kc1, ka2, kn2, kc2, ka3, kn3, kc3⟩ : SV).a1 (⟨kl, kh, ka1, kn1, kc1, ka2, kn2, kc2, ka3, kn3, kc3⟩ : SV).n1 (⟨kl, kh, ka1, kn1, kc1, ka2, kn2, kc2, ka3, kn3, kc3⟩ : SV).c1, .slice (⟨kl, kh, ka1, kn1, kc1, ka2, kn2, kc2, ka3, kn3, kc3⟩ : SV).a2 (⟨kl, kh, ka1, kn1, kc1, ka2, kn2, kc2, ka3, kn3, kc3⟩ : SV).n2 (⟨kl, kh, ka1, kn1, kc1, ka2, kn2, kc2, ka3, kn3, kc3⟩ : SV).c2, .slice (⟨kl, kh, ka1, kn1, kc1, ka2, kn2, kc2, ka3, kn3, kc3⟩ : SV).a3 (⟨kl, kh, ka1, kn1, kc1, ka2, kn2, kc2, ka3, kn3, kc3⟩ : SV).n3 (⟨kl, kh, ka1, kn1, kc1, ka2, kn2, kc2, ka3, kn3, kc3⟩ : SV).c3] 33)) (by simp [go_sem, SV.val]) ?_
          have c18 : Below z17.heap.size z17 (z17.alloc (.cells #[.bool vA.l, .bool vA.h, .slice vA.a1 vA.n1 vA.c1, .slice vA.a2 vA.n2 vA.c2, .slice vA.a3 vA.n3 vA.c3, .bool vB.l, .bool vB.h, .slice vB.a1 vB.n1 vB.c1, .slice vB.a2 vB.n2 vB.c2, .slice vB.a3 vB.n3 vB.c3, .bool vC.l, .bool vC.h, .slice vC.a1 vC.n1 vC.c1, .slice vC.a2 vC.n2 vC.c2, .slice vC.a3 vC.n3 vC.c3, .bool (⟨kl, kh, ka1, kn1, kc1, ka2, kn2, kc2, ka3, kn3, kc3⟩ : SV).l, .bool (⟨kl, kh, ka1, kn1, kc1, ka2, kn2, kc2, ka3, kn3, kc3⟩ : SV).h, .slice (⟨kl, kh, ka1, kn1, kc1, ka2, kn2, kc2, ka3, kn3, kc3⟩ : SV).a1 (⟨kl, kh, ka1, kn1, kc1, ka2, kn2, kc2, ka3, kn3, kc3⟩ : SV).n1 (⟨kl, kh, ka1, kn1, kc1, ka2, kn2, kc2, ka3, kn3, kc3⟩ : SV).c1, .slice (⟨kl, kh, ka1, kn1, kc1, ka2, kn2, kc2, ka3, kn3, kc3⟩ : SV).a2 (⟨kl, kh, ka1, kn1, kc1, ka2, kn2, kc2, ka3, kn3, kc3⟩ : SV).n2 (⟨kl, kh, ka1, kn1, kc1, ka2, kn2, kc2, ka3, kn3, kc3⟩ : SV).c2, .slice (⟨kl, kh, ka1, kn1, kc1, ka2, kn2, kc2, ka3, kn3, kc3⟩ : SV).a3 (⟨kl, kh, ka1, kn1, kc1, ka2, kn2, kc2, ka3, kn3, kc3⟩ : SV).n3 (⟨kl, kh, ka1, kn1, kc1, ka2, kn2, kc2, ka3, kn3, kc3⟩ : SV).c3] 33)) := (Below.refl _ _).alloc (Nat.le_refl _) _
          have rL : Row4 (fun b => 0 ≤ b) (z17.alloc (.cells #[.bool vA.l, .bool vA.h, .slice vA.a1 vA.n1 vA.c1, .slice vA.a2 vA.n2 vA.c2, .slice vA.a3 vA.n3 vA.c3, .bool vB.l, .bool vB.h, .slice vB.a1 vB.n1 vB.c1, .slice vB.a2 vB.n2 vB.c2, .slice vB.a3 vB.n3 vB.c3, .bool vC.l, .bool vC.h, .slice vC.a1 vC.n1 vC.c1, .slice vC.a2 vC.n2 vC.c2, .slice vC.a3 vC.n3 vC.c3, .bool (⟨kl, kh, ka1, kn1, kc1, ka2, kn2, kc2, ka3, kn3, kc3⟩ : SV).l, .bool (⟨kl, kh, ka1, kn1, kc1, ka2, kn2, kc2, ka3, kn3, kc3⟩ : SV).h, .slice (⟨kl, kh, ka1, kn1, kc1, ka2, kn2, kc2, ka3, kn3, kc3⟩ : SV).a1 (⟨kl, kh, ka1, kn1, kc1, ka2, kn2, kc2, ka3, kn3, kc3⟩ : SV).n1 (⟨kl, kh, ka1, kn1, kc1, ka2, kn2, kc2, ka3, kn3, kc3⟩ : SV).c1, .slice (⟨kl, kh, ka1, kn1, kc1, ka2, kn2, kc2, ka3, kn3, kc3⟩ : SV).a2 (⟨kl, kh, ka1, kn1, kc1, ka2, kn2, kc2, ka3, kn3, kc3⟩ : SV).n2 (⟨kl, kh, ka1, kn1, kc1, ka2, kn2, kc2, ka3, kn3, kc3⟩ : SV).c2, .slice (⟨kl, kh, ka1, kn1, kc1, ka2, kn2, kc2, ka3, kn3, kc3⟩ : SV).a3 (⟨kl, kh, ka1, kn1, kc1, ka2, kn2, kc2, ka3, kn3, kc3⟩ : SV).n3 (⟨kl, kh, ka1, kn1, kc1, ka2, kn2, kc2, ka3, kn3, kc3⟩ : SV).c3] 33)) z17.heap.size vA vB vC ⟨kl, kh, ka1, kn1, kc1, ka2, kn2, kc2, ka3, kn3, kc3⟩ [50] (List.replicate 32 0) := ⟨(by have := s17.2.2.2.size; exact Nat.zero_le _), Box.new _ _ _, (rA.there.mono (fun b hb => ⟨hb.1, by have := hb.2; omega⟩)).after c18, (rB.there.mono (fun b hb => ⟨hb.1, by have := hb.2; omega⟩)).after c18, (rC.there.mono (fun b hb => ⟨hb.1, by have := hb.2; omega⟩)).after c18, (s17.2.1.there.mono (ok' := (fun b => ((fun b => 0 ≤ b)) b ∧ b ≠ z17.heap.size)) (fun b hb => ⟨by have h1 := hb.1; have h2 := hb.2; exact Nat.zero_le _, by have := hb.2; omega⟩)).after c18⟩
          refine ⟨hKS _ _ s17 c18, ?_⟩
          simp only [Act.put, List.setIfInBounds_toArray, List.set_cons_zero, List.set_cons_succ]
          clear rA rB rC
          have HY : w.heap.size ≤ z17.heap.size := Nat.le_trans hw1 s17.2.2.2.size
          generalize z17.heap.size = y18 at *
          generalize (z17.alloc (.cells #[.bool vA.l, .bool vA.h, .slice vA.a1 vA.n1 vA.c1, .slice vA.a2 vA.n2 vA.c2, .slice vA.a3 vA.n3 vA.c3, .bool vB.l, .bool vB.h, .slice vB.a1 vB.n1 vB.c1, .slice vB.a2 vB.n2 vB.c2, .slice vB.a3 vB.n3 vB.c3, .bool vC.l, .bool vC.h, .slice vC.a1 vC.n1 vC.c1, .slice vC.a2 vC.n2 vC.c2, .slice vC.a3 vC.n3 vC.c3, .bool (⟨kl, kh, ka1, kn1, kc1, ka2, kn2, kc2, ka3, kn3, kc3⟩ : SV).l, .bool (⟨kl, kh, ka1, kn1, kc1, ka2, kn2, kc2, ka3, kn3, kc3⟩ : SV).h, .slice (⟨kl, kh, ka1, kn1, kc1, ka2, kn2, kc2, ka3, kn3, kc3⟩ : SV).a1 (⟨kl, kh, ka1, kn1, kc1, ka2, kn2, kc2, ka3, kn3, kc3⟩ : SV).n1 (⟨kl, kh, ka1, kn1, kc1, ka2, kn2, kc2, ka3, kn3, kc3⟩ : SV).c1, .slice (⟨kl, kh, ka1, kn1, kc1, ka2, kn2, kc2, ka3, kn3, kc3⟩ : SV).a2 (⟨kl, kh, ka1, kn1, kc1, ka2, kn2, kc2, ka3, kn3, kc3⟩ : SV).n2 (⟨kl, kh, ka1, kn1, kc1, ka2, kn2, kc2, ka3, kn3, kc3⟩ : SV).c2, .slice (⟨kl, kh, ka1, kn1, kc1, ka2, kn2, kc2, ka3, kn3, kc3⟩ : SV).a3 (⟨kl, kh, ka1, kn1, kc1, ka2, kn2, kc2, ka3, kn3, kc3⟩ : SV).n3 (⟨kl, kh, ka1, kn1, kc1, ka2, kn2, kc2, ka3, kn3, kc3⟩ : SV).c3] 33)) = x18 at *
          refine wpW_free 5 hKS rfl (by kernel_rfl) (by kernel_rfl) (by kernel_rfl) (by kernel_rfl) rfl (fun _ _ _ _ h => h) (.agg #[.bool true, .bool false, .slice none 0 0, .slice none 0 0, .slice (some ⟨y18, 0, none⟩) 4 4]) (fun w' => by simp [go_sem]) ?_
          simp only [Act.put, List.setIfInBounds_toArray, List.set_cons_zero, List.set_cons_succ]
          refine wpW_one 6 rfl (by kernel_rfl) rfl rfl ?_
          intro z19 b19 s19
          replace rL := rL.after b19
          have := s19.2.2.2.size; 
          refine wp_alloc_new 33 rfl #[.bool false, .bool false, .slice none 0 0, .slice none 0 0, .slice none 0 0] (by intro w; simp [go_sem]) ?_
          intro g10 w20 rG lg0 c20
          have lgg : x1.heap.size ≤ g10 := by omega
          replace rL := ((rL.there).mono (ok' := (fun b => (0 ≤ b) ∧ b ≠ g10)) (fun b hb => ⟨hb.1, by have := hb.2; omega⟩)).after c20
          refine ⟨hKS _ _ s19 c20, ?_⟩
          simp only [Act.put, List.setIfInBounds_toArray, List.set_cons_zero, List.set_cons_succ]
          clear lg0
          refine wpW_write 7 rfl (by kernel_rfl) (by kernel_rfl) rfl ?_
          intro z21 b21 s21
          replace rL := rL.after b21
          replace rG := rG.after b21
          refine wp_store_box 33 _ _ rfl rG (by rfl) (by rfl) rfl (by kernel_rfl) (by simp [Value.oneCell']) (cells := #[.bool true, .bool false, .slice none 0 0, .slice none 0 0, .slice (some ⟨y18, 0, none⟩) 4 4]) ?_
          intro zx Xx stx
          have RLx := rL.keep (w' := zx) (fun b hb => stx.other b hb.2)
          have Bx := stx.below x1.heap.size x1 lgg s21.2.2.2
          simp only [Act.put, List.setIfInBounds_toArray, List.set_cons_zero, List.set_cons_succ]
          refine wpU_done rfl (fun w9 b9 _ => ?_)
          have D := Bx.trans (b9.mono Bx.size)
          have T9 := Lib.hid (HT.out.after D)
          have G := Lib.hid (Xx.after b9)
          have R4 := Lib.hid (RLx.after b9)
          replace B := B.trans (D.mono B.size)
          clear hKS stx Xx RLx b9 Bx D rL s21 X HK HT
          go_wp2_with (refine wpList_load_box rfl 33 _ rfl G.out (by rfl) Tryd.underlying33 rfl (by kernel_rfl) ?_)
          refine (getJ_any (List.replicate 32 0) [50] ⟨true, false, none, 0, 0, none, 0, 0, some ⟨y18, 0, none⟩, 4, 4⟩ w9 (R4.out.rd.mono (fun _ _ => trivial)) (by simp) (by decide) (join_may rfl (by simp)) (joinJ_may (by simp)) T9.out).mono ?_
          rintro e wA (⟨_, rfl, bA⟩ | ⟨hno, _⟩)
          case inr =>
            rw [join_two] at hno
            cases hno
          replace G := Lib.hid (G.out.after bA)
          replace R4 := Lib.hid (R4.out.after bA)
          replace T9 := Lib.hid (T9.out.after bA)
          replace B := B.trans (bA.mono B.size)
          clear bA
          go_upto_region 4 with (refine wpList_store_box (cells := #[.int .u8 0, .bool false, .slice none 0 0, .slice none 0 0, .int .i64 0, .slice none 0 0]) rfl 28 _ _ rfl (Box.new _ _ _) (by rfl) (by rfl) rfl (by kernel_rfl) (by simp [Value.oneCell']) ?_; intro u9 X9 st9)
          have bs1 : Below wA.heap.size wA u9 := st9.below wA.heap.size wA (Nat.le_refl _) ((Below.refl _ _).alloc (Nat.le_refl _) _)
          have Q := Lib.hid X9
          replace G := Lib.hid (G.out.after bs1)
          replace R4 := Lib.hid (R4.out.after bs1)
          replace T9 := Lib.hid (T9.out.after bs1)
          replace B := B.trans (bs1.mono B.size)
          clear bs1 st9 X9
          generalize u9 = x1 at *
          clear Q
          have hK4 : Keeps (fun w' => Box w' g10 33 #[.bool true, .bool false, .slice none 0 0, .slice none 0 0, .slice (some ⟨y18, 0, none⟩) 4 4] ∧ Row4 (fun b => 0 ≤ b ∧ b ≠ g10) w' y18 vA vB vC ⟨kl, kh, ka1, kn1, kc1, ka2, kn2, kc2, ka3, kn3, kc3⟩ [50] (List.replicate 32 0) ∧ Tab w' ∧ Below w.heap.size w w') := fun _ _ h b => ⟨h.1.after b, h.2.1.after b, h.2.2.1.after b, h.2.2.2.trans (b.mono h.2.2.2.size)⟩
          refine wp_region_W (w := x1) [4] (fun w' => Box w' g10 33 #[.bool true, .bool false, .slice none 0 0, .slice none 0 0, .slice (some ⟨y18, 0, none⟩) 4 4] ∧ Row4 (fun b => 0 ≤ b ∧ b ≠ g10) w' y18 vA vB vC ⟨kl, kh, ka1, kn1, kc1, ka2, kn2, kc2, ka3, kn3, kc3⟩ [50] (List.replicate 32 0) ∧ Tab w' ∧ Below w.heap.size w w') rfl (hK4 _ _ ⟨G.out, R4.out, T9.out, B⟩ (Below.refl _ _).drew) ?_
          refine wpW_val 0 hK4 rfl (by kernel_rfl) (by kernel_rfl) (by kernel_rfl) (by kernel_rfl) rfl (fun _ _ _ _ h => h) (.pointer (some ⟨g10, 4, none⟩)) (fun w' h => by simp [go_sem]) ?_
          simp only [Act.put, List.setIfInBounds_toArray, List.set_cons_zero, List.set_cons_succ]
          refine wpW_val 1 hK4 rfl (by kernel_rfl) (by kernel_rfl) (by kernel_rfl) (by kernel_rfl) rfl (fun _ _ _ _ h => h) (.slice (some ⟨y18, 0, none⟩) 4 4) (fun w' h => by simp [go_sem, h.1.cell 4 rfl]) ?_
          simp only [Act.put, List.setIfInBounds_toArray, List.set_cons_zero, List.set_cons_succ]
          refine wpW_one 2 rfl (by kernel_rfl) (by kernel_rfl) rfl ?_
          intro t1 c1 q1
          refine wp_callR 15 #[.string ⟨#[49]⟩] (by simp [go_sem]) _ (refAtomI_any (fun b => (0 ≤ b ∧ b ≠ g10) ∧ b ≠ y18) ⟨#[49]⟩ (by decide) t1 (fun b hb => by have h1 := q1.1.lt; have h2 := q1.2.1.2.1.lt; refine ⟨⟨Nat.zero_le _, ?_⟩, ?_⟩ <;> omega)) ?_
          rintro e t2 ⟨vD, rfl, rD, c2⟩
          refine ⟨_, rfl, hK4 _ _ q1 c2, ?_⟩
          simp only [Act.put, List.setIfInBounds_toArray, List.set_cons_zero, List.set_cons_succ]
          refine wpW_val 3 hK4 rfl (by kernel_rfl) (by kernel_rfl) (by kernel_rfl) (by kernel_rfl) rfl (fun _ _ _ _ h => h) (.pointer (some ⟨y18, 10, none⟩)) (fun w' h => by simp [go_sem]) ?_
          simp only [Act.put, List.setIfInBounds_toArray, List.set_cons_zero, List.set_cons_succ]
          refine wpW_write 4 rfl (by kernel_rfl) (by kernel_rfl) rfl ?_
          intro t3 c3 q3
          replace rD := rD.after c3
          refine wp_store_mid 33 _ _ rfl y18 10 #[.bool vD.l, .bool vD.h, .slice vD.a1 vD.n1 vD.c1, .slice vD.a2 vD.n2 vD.c2, .slice vD.a3 vD.n3 vD.c3] rfl rfl q3.2.1.room (by kernel_rfl) (by simp [Value.oneCell']) ?_
          obtain ⟨R5, st5⟩ := q3.2.1.store vD [49] rD
          have G5 : Box (t3.setCells y18 10 [.bool vD.l, .bool vD.h, .slice vD.a1 vD.n1 vD.c1, .slice vD.a2 vD.n2 vD.c2, .slice vD.a3 vD.n3 vD.c3]) g10 33 #[.bool true, .bool false, .slice none 0 0, .slice none 0 0, .slice (some ⟨y18, 0, none⟩) 4 4] := (st5.other g10 (fun e => R5.1.2 e.symm)).trans q3.1
          have hy5 : w.heap.size ≤ y18 := HY
          have B5 := st5.below w.heap.size w hy5 q3.2.2.2
          have T5 : Tab _ := (HT0.out).after B5
          simp only [Act.put, List.setIfInBounds_toArray, List.set_cons_zero, List.set_cons_succ]
          change wpU _ _ _ _ _ _ _ _ (t3.setCells y18 10 [.bool vD.l, .bool vD.h, .slice vD.a1 vD.n1 vD.c1, .slice vD.a2 vD.n2 vD.c2, .slice vD.a3 vD.n3 vD.c3])
          generalize (t3.setCells y18 10 [.bool vD.l, .bool vD.h, .slice vD.a1 vD.n1 vD.c1, .slice vD.a2 vD.n2 vD.c2, .slice vD.a3 vD.n3 vD.c3]) = t5 at *
          refine wpU_done rfl (fun u5 d5 _ => ?_)
          have G6 := Lib.hid (G5.after d5)
          have R6 := Lib.hid (R5.after d5)
          have T6 := Lib.hid (T5.after d5)
          have B6 := B5.trans (d5.mono B5.size)
          clear hK4 q1 q3 st5 R5 G5 T5 B5 d5 c1 c2 c3 rD G R4 T9 B
          replace B6 : Below w.heap.size w u5 := B6
          have B := B6
          clear B6
          go_wp2_with (refine wpList_load_box rfl 33 _ rfl G6.out (by rfl) Tryd.underlying33 rfl (by kernel_rfl) ?_)
          refine (getJ_any (List.replicate 32 0) [49] ⟨true, false, none, 0, 0, none, 0, 0, some ⟨y18, 0, none⟩, 4, 4⟩ u5 (R6.out.rd.mono (fun _ _ => trivial)) (by simp) (by decide) (join_may rfl (by simp)) (joinJ_may (by simp)) T6.out).mono ?_
          rintro e wB (⟨hno, _⟩ | ⟨_, ⟨jkd, js, ja1, jn1, jc1, ja2, jn2, jc2, jk, ja3, jn3, jc3⟩, rfl, hj1, hj3, bB⟩)
          case inl =>
            rw [Sx.same_refl] at hno
            cases hno
          replace hj1 : jk = 1 := hj1
          replace hj3 : jn3 = 1 := hj3
          subst hj1 hj3
          dsimp only
          replace G6 := Lib.hid (G6.out.after bB)
          replace R6 := Lib.hid (R6.out.after bB)
          replace T6 := Lib.hid (T6.out.after bB)
          replace B := B.trans (bB.mono B.size)
          clear bB
          go_upto_region 6 with (refine wpList_store_box (cells := #[.int .u8 jkd, .bool js, .slice ja1 jn1 jc1, .slice ja2 jn2 jc2, .int .i64 1, .slice ja3 1 jc3]) rfl 28 _ _ rfl (Box.new _ _ _) (by rfl) (by rfl) rfl (by kernel_rfl) (by simp [Value.oneCell']) ?_; intro u9 X9 st9)
          have bs2 : Below wB.heap.size wB u9 := st9.below wB.heap.size wB (Nat.le_refl _) ((Below.refl _ _).alloc (Nat.le_refl _) _)
          have J := Lib.hid X9
          replace G6 := Lib.hid (G6.out.after bs2)
          replace R6 := Lib.hid (R6.out.after bs2)
          replace T6 := Lib.hid (T6.out.after bs2)
          replace B := B.trans (bs2.mono B.size)
          clear bs2 st9 X9
          generalize u9 = x2 at *
          have j4 := J.out.cell 4 rfl
          have j5 := J.out.cell 5 rfl
          go_wp2_with fail
          go_ret
          exact ⟨rfl, B⟩
        · intro z17 b17 s17
          replace rA := rA.after b17
          replace rB := rB.after b17
          replace rC := rC.after b17
          have := s17.2.2.2.size; 
          refine wp_alloc_new 33 rfl #[.bool false, .bool false, .slice none 0 0, .slice none 0 0, .slice none 0 0] (by intro w; simp [go_sem]) ?_
          intro g10 w22 rG lg0 c22
          have lgg : x1.heap.size ≤ g10 := by omega
          replace rA := ((rA.there).mono (ok' := (fun b => (0 ≤ b) ∧ b ≠ g10)) (fun b hb => ⟨hb.1, by have := hb.2; omega⟩)).after c22
          replace rB := ((rB.there).mono (ok' := (fun b => (0 ≤ b) ∧ b ≠ g10)) (fun b hb => ⟨hb.1, by have := hb.2; omega⟩)).after c22
          replace rC := ((rC.there).mono (ok' := (fun b => (0 ≤ b) ∧ b ≠ g10)) (fun b hb => ⟨hb.1, by have := hb.2; omega⟩)).after c22
          refine ⟨hKS _ _ s17 c22, ?_⟩
          simp only [Act.put, List.setIfInBounds_toArray, List.set_cons_zero, List.set_cons_succ]
          clear lg0
          refine wpW_one 4 rfl (by kernel_rfl) rfl rfl ?_
          intro z23 b23 s23
          replace rA := rA.after b23
          replace rB := rB.after b23
          replace rC := rC.after b23
          replace rG := rG.after b23
          refine wp_of_run (.slice (some ⟨z23.heap.size, 0, none⟩) 4 4) (z23.alloc (.cells #[.bool vA.l, .bool vA.h, .slice vA.a1 vA.n1 vA.c1, .slice vA.a2 vA.n2 vA.c2, .slice vA.a3 vA.n3 vA.c3, .bool vB.l, .bool vB.h, .slice vB.a1 vB.n1 vB.c1, .slice vB.a2 vB.n2 vB.c2, .slice vB.a3 vB.n3 vB.c3, .bool vC.l, .bool vC.h, .slice vC.a1 vC.n1 vC.c1, .slice vC.a2 vC.n2 vC.c2, .slice vC.a3 vC.n3 vC.c3, .bool (⟨kl, kh, ka1, kn1, kc1, ka2, kn2, kc2, ka3, kn3, kc3⟩ : SV).l, .bool (⟨kl, kh, ka1, kn1, kc1, ka2, kn2, kc2, ka3, kn3, kc3⟩ : SV).h, .slice (⟨kl, kh, ka1, kn1, kc1, ka2, kn2, kc2, ka3, kn3, kc3⟩ : SV).a1 (⟨kl, kh, ka1, kn1, kc1, ka2, kn2, kc2, ka3, kn3, kc3⟩ : SV).n1 (⟨kl, kh, ka1, kn1, kc1, ka2, kn2, kc2, ka3, kn3, kc3⟩ : SV).c1, .slice (⟨kl, kh, ka1, kn1, kc1, ka2, kn2, kc2, ka3, kn3, kc3⟩ : SV).a2 (⟨kl, kh, ka1, kn1, kc1, ka2, kn2, kc2, ka3, kn3, kc3⟩ : SV).n2 (⟨kl, kh, ka1, kn1, kc1, ka2, kn2, kc2, ka3, kn3, kc3⟩ : SV).c2, .slice (⟨kl, kh, ka1, kn1, kc1, ka2, kn2, kc2, ka3, kn3, kc3⟩ : SV).a3 (⟨kl, kh, ka1, kn1, kc1, ka2, kn2, kc2, ka3, kn3, kc3⟩ : SV).n3 (⟨kl, kh, ka1, kn1, kc1, ka2, kn2, kc2, ka3, kn3, kc3⟩ : SV).c3] 33)) (by simp [go_sem, SV.val]) ?_
          have c24 : Below z23.heap.size z23 (z23.alloc (.cells #[.bool vA.l, .bool vA.h, .slice vA.a1 vA.n1 vA.c1, .slice vA.a2 vA.n2 vA.c2, .slice vA.a3 vA.n3 vA.c3, .bool vB.l, .bool vB.h, .slice vB.a1 vB.n1 vB.c1, .slice vB.a2 vB.n2 vB.c2, .slice vB.a3 vB.n3 vB.c3, .bool vC.l, .bool vC.h, .slice vC.a1 vC.n1 vC.c1, .slice vC.a2 vC.n2 vC.c2, .slice vC.a3 vC.n3 vC.c3, .bool (⟨kl, kh, ka1, kn1, kc1, ka2, kn2, kc2, ka3, kn3, kc3⟩ : SV).l, .bool (⟨kl, kh, ka1, kn1, kc1, ka2, kn2, kc2, ka3, kn3, kc3⟩ : SV).h, .slice (⟨kl, kh, ka1, kn1, kc1, ka2, kn2, kc2, ka3, kn3, kc3⟩ : SV).a1 (⟨kl, kh, ka1, kn1, kc1, ka2, kn2, kc2, ka3, kn3, kc3⟩ : SV).n1 (⟨kl, kh, ka1, kn1, kc1, ka2, kn2, kc2, ka3, kn3, kc3⟩ : SV).c1, .slice (⟨kl, kh, ka1, kn1, kc1, ka2, kn2, kc2, ka3, kn3, kc3⟩ : SV).a2 (⟨kl, kh, ka1, kn1, kc1, ka2, kn2, kc2, ka3, kn3, kc3⟩ : SV).n2 (⟨kl, kh, ka1, kn1, kc1, ka2, kn2, kc2, ka3, kn3, kc3⟩ : SV).c2, .slice (⟨kl, kh, ka1, kn1, kc1, ka2, kn2, kc2, ka3, kn3, kc3⟩ : SV).a3 (⟨kl, kh, ka1, kn1, kc1, ka2, kn2, kc2, ka3, kn3, kc3⟩ : SV).n3 (⟨kl, kh, ka1, kn1, kc1, ka2, kn2, kc2, ka3, kn3, kc3⟩ : SV).c3] 33)) := (Below.refl _ _).alloc (Nat.le_refl _) _
          have rL : Row4 (fun b => (0 ≤ b) ∧ b ≠ g10) (z23.alloc (.cells #[.bool vA.l, .bool vA.h, .slice vA.a1 vA.n1 vA.c1, .slice vA.a2 vA.n2 vA.c2, .slice vA.a3 vA.n3 vA.c3, .bool vB.l, .bool vB.h, .slice vB.a1 vB.n1 vB.c1, .slice vB.a2 vB.n2 vB.c2, .slice vB.a3 vB.n3 vB.c3, .bool vC.l, .bool vC.h, .slice vC.a1 vC.n1 vC.c1, .slice vC.a2 vC.n2 vC.c2, .slice vC.a3 vC.n3 vC.c3, .bool (⟨kl, kh, ka1, kn1, kc1, ka2, kn2, kc2, ka3, kn3, kc3⟩ : SV).l, .bool (⟨kl, kh, ka1, kn1, kc1, ka2, kn2, kc2, ka3, kn3, kc3⟩ : SV).h, .slice (⟨kl, kh, ka1, kn1, kc1, ka2, kn2, kc2, ka3, kn3, kc3⟩ : SV).a1 (⟨kl, kh, ka1, kn1, kc1, ka2, kn2, kc2, ka3, kn3, kc3⟩ : SV).n1 (⟨kl, kh, ka1, kn1, kc1, ka2, kn2, kc2, ka3, kn3, kc3⟩ : SV).c1, .slice (⟨kl, kh, ka1, kn1, kc1, ka2, kn2, kc2, ka3, kn3, kc3⟩ : SV).a2 (⟨kl, kh, ka1, kn1, kc1, ka2, kn2, kc2, ka3, kn3, kc3⟩ : SV).n2 (⟨kl, kh, ka1, kn1, kc1, ka2, kn2, kc2, ka3, kn3, kc3⟩ : SV).c2, .slice (⟨kl, kh, ka1, kn1, kc1, ka2, kn2, kc2, ka3, kn3, kc3⟩ : SV).a3 (⟨kl, kh, ka1, kn1, kc1, ka2, kn2, kc2, ka3, kn3, kc3⟩ : SV).n3 (⟨kl, kh, ka1, kn1, kc1, ka2, kn2, kc2, ka3, kn3, kc3⟩ : SV).c3] 33)) z23.heap.size vA vB vC ⟨kl, kh, ka1, kn1, kc1, ka2, kn2, kc2, ka3, kn3, kc3⟩ [50] (List.replicate 32 0) := ⟨(by have := s23.2.2.2.size; have := rG.lt; refine ⟨Nat.zero_le _, ?_⟩; omega), Box.new _ _ _, (rA.there.mono (fun b hb => ⟨hb.1, by have := hb.2; omega⟩)).after c24, (rB.there.mono (fun b hb => ⟨hb.1, by have := hb.2; omega⟩)).after c24, (rC.there.mono (fun b hb => ⟨hb.1, by have := hb.2; omega⟩)).after c24, (s23.2.1.there.mono (ok' := (fun b => ((fun b => (0 ≤ b) ∧ b ≠ g10)) b ∧ b ≠ z23.heap.size)) (fun b hb => ⟨by have h1 := hb.1; have h2 := hb.2; have h3 := lgg; exact ⟨Nat.zero_le _, by omega⟩, by have := hb.2; omega⟩)).after c24⟩
          replace rG := rG.after c24
          refine ⟨hKS _ _ s23 c24, ?_⟩
          simp only [Act.put, List.setIfInBounds_toArray, List.set_cons_zero, List.set_cons_succ]
          clear rA rB rC
          have HY : w.heap.size ≤ z23.heap.size := Nat.le_trans hw1 s23.2.2.2.size
          generalize z23.heap.size = y24 at *
          generalize (z23.alloc (.cells #[.bool vA.l, .bool vA.h, .slice vA.a1 vA.n1 vA.c1, .slice vA.a2 vA.n2 vA.c2, .slice vA.a3 vA.n3 vA.c3, .bool vB.l, .bool vB.h, .slice vB.a1 vB.n1 vB.c1, .slice vB.a2 vB.n2 vB.c2, .slice vB.a3 vB.n3 vB.c3, .bool vC.l, .bool vC.h, .slice vC.a1 vC.n1 vC.c1, .slice vC.a2 vC.n2 vC.c2, .slice vC.a3 vC.n3 vC.c3, .bool (⟨kl, kh, ka1, kn1, kc1, ka2, kn2, kc2, ka3, kn3, kc3⟩ : SV).l, .bool (⟨kl, kh, ka1, kn1, kc1, ka2, kn2, kc2, ka3, kn3, kc3⟩ : SV).h, .slice (⟨kl, kh, ka1, kn1, kc1, ka2, kn2, kc2, ka3, kn3, kc3⟩ : SV).a1 (⟨kl, kh, ka1, kn1, kc1, ka2, kn2, kc2, ka3, kn3, kc3⟩ : SV).n1 (⟨kl, kh, ka1, kn1, kc1, ka2, kn2, kc2, ka3, kn3, kc3⟩ : SV).c1, .slice (⟨kl, kh, ka1, kn1, kc1, ka2, kn2, kc2, ka3, kn3, kc3⟩ : SV).a2 (⟨kl, kh, ka1, kn1, kc1, ka2, kn2, kc2, ka3, kn3, kc3⟩ : SV).n2 (⟨kl, kh, ka1, kn1, kc1, ka2, kn2, kc2, ka3, kn3, kc3⟩ : SV).c2, .slice (⟨kl, kh, ka1, kn1, kc1, ka2, kn2, kc2, ka3, kn3, kc3⟩ : SV).a3 (⟨kl, kh, ka1, kn1, kc1, ka2, kn2, kc2, ka3, kn3, kc3⟩ : SV).n3 (⟨kl, kh, ka1, kn1, kc1, ka2, kn2, kc2, ka3, kn3, kc3⟩ : SV).c3] 33)) = x24 at *
          refine wpW_free 5 hKS rfl (by kernel_rfl) (by kernel_rfl) (by kernel_rfl) (by kernel_rfl) rfl (fun _ _ _ _ h => h) (.agg #[.bool true, .bool false, .slice none 0 0, .slice none 0 0, .slice (some ⟨y24, 0, none⟩) 4 4]) (fun w' => by simp [go_sem]) ?_
          simp only [Act.put, List.setIfInBounds_toArray, List.set_cons_zero, List.set_cons_succ]
          refine wpW_write 7 rfl (by kernel_rfl) (by kernel_rfl) rfl ?_
          intro z25 b25 s25
          replace rG := rG.after b25
          replace rL := rL.after b25
          refine wp_store_box 33 _ _ rfl rG (by rfl) (by rfl) rfl (by kernel_rfl) (by simp [Value.oneCell']) (cells := #[.bool true, .bool false, .slice none 0 0, .slice none 0 0, .slice (some ⟨y24, 0, none⟩) 4 4]) ?_
          intro zx Xx stx
          have RLx := rL.keep (w' := zx) (fun b hb => stx.other b hb.2)
          have Bx := stx.below x1.heap.size x1 lgg s25.2.2.2
          simp only [Act.put, List.setIfInBounds_toArray, List.set_cons_zero, List.set_cons_succ]
          refine wpU_done rfl (fun w9 b9 _ => ?_)
          have D := Bx.trans (b9.mono Bx.size)
          have T9 := Lib.hid (HT.out.after D)
          have G := Lib.hid (Xx.after b9)
          have R4 := Lib.hid (RLx.after b9)
          replace B := B.trans (D.mono B.size)
          clear hKS stx Xx RLx b9 Bx D rL s25 X HK HT
          go_wp2_with (refine wpList_load_box rfl 33 _ rfl G.out (by rfl) Tryd.underlying33 rfl (by kernel_rfl) ?_)
          refine (getJ_any (List.replicate 32 0) [50] ⟨true, false, none, 0, 0, none, 0, 0, some ⟨y24, 0, none⟩, 4, 4⟩ w9 (R4.out.rd.mono (fun _ _ => trivial)) (by simp) (by decide) (join_may rfl (by simp)) (joinJ_may (by simp)) T9.out).mono ?_
          rintro e wA (⟨_, rfl, bA⟩ | ⟨hno, _⟩)
          case inr =>
            rw [join_two] at hno
            cases hno
          replace G := Lib.hid (G.out.after bA)
          replace R4 := Lib.hid (R4.out.after bA)
          replace T9 := Lib.hid (T9.out.after bA)
          replace B := B.trans (bA.mono B.size)
          clear bA
          go_upto_region 4 with (refine wpList_store_box (cells := #[.int .u8 0, .bool false, .slice none 0 0, .slice none 0 0, .int .i64 0, .slice none 0 0]) rfl 28 _ _ rfl (Box.new _ _ _) (by rfl) (by rfl) rfl (by kernel_rfl) (by simp [Value.oneCell']) ?_; intro u9 X9 st9)
          have bs1 : Below wA.heap.size wA u9 := st9.below wA.heap.size wA (Nat.le_refl _) ((Below.refl _ _).alloc (Nat.le_refl _) _)
          have Q := Lib.hid X9
          replace G := Lib.hid (G.out.after bs1)
          replace R4 := Lib.hid (R4.out.after bs1)
          replace T9 := Lib.hid (T9.out.after bs1)
          replace B := B.trans (bs1.mono B.size)
          clear bs1 st9 X9
          generalize u9 = x1 at *
          clear Q
          have hK4 : Keeps (fun w' => Box w' g10 33 #[.bool true, .bool false, .slice none 0 0, .slice none 0 0, .slice (some ⟨y24, 0, none⟩) 4 4] ∧ Row4 (fun b => 0 ≤ b ∧ b ≠ g10) w' y24 vA vB vC ⟨kl, kh, ka1, kn1, kc1, ka2, kn2, kc2, ka3, kn3, kc3⟩ [50] (List.replicate 32 0) ∧ Tab w' ∧ Below w.heap.size w w') := fun _ _ h b => ⟨h.1.after b, h.2.1.after b, h.2.2.1.after b, h.2.2.2.trans (b.mono h.2.2.2.size)⟩
          refine wp_region_W (w := x1) [4] (fun w' => Box w' g10 33 #[.bool true, .bool false, .slice none 0 0, .slice none 0 0, .slice (some ⟨y24, 0, none⟩) 4 4] ∧ Row4 (fun b => 0 ≤ b ∧ b ≠ g10) w' y24 vA vB vC ⟨kl, kh, ka1, kn1, kc1, ka2, kn2, kc2, ka3, kn3, kc3⟩ [50] (List.replicate 32 0) ∧ Tab w' ∧ Below w.heap.size w w') rfl (hK4 _ _ ⟨G.out, R4.out, T9.out, B⟩ (Below.refl _ _).drew) ?_
          refine wpW_val 0 hK4 rfl (by kernel_rfl) (by kernel_rfl) (by kernel_rfl) (by kernel_rfl) rfl (fun _ _ _ _ h => h) (.pointer (some ⟨g10, 4, none⟩)) (fun w' h => by simp [go_sem]) ?_
          simp only [Act.put, List.setIfInBounds_toArray, List.set_cons_zero, List.set_cons_succ]
          refine wpW_val 1 hK4 rfl (by kernel_rfl) (by kernel_rfl) (by kernel_rfl) (by kernel_rfl) rfl (fun _ _ _ _ h => h) (.slice (some ⟨y24, 0, none⟩) 4 4) (fun w' h => by simp [go_sem, h.1.cell 4 rfl]) ?_
          simp only [Act.put, List.setIfInBounds_toArray, List.set_cons_zero, List.set_cons_succ]
          refine wpW_one 2 rfl (by kernel_rfl) (by kernel_rfl) rfl ?_
          intro t1 c1 q1
          refine wp_callR 15 #[.string ⟨#[49]⟩] (by simp [go_sem]) _ (refAtomI_any (fun b => (0 ≤ b ∧ b ≠ g10) ∧ b ≠ y24) ⟨#[49]⟩ (by decide) t1 (fun b hb => by have h1 := q1.1.lt; have h2 := q1.2.1.2.1.lt; refine ⟨⟨Nat.zero_le _, ?_⟩, ?_⟩ <;> omega)) ?_
          rintro e t2 ⟨vD, rfl, rD, c2⟩
          refine ⟨_, rfl, hK4 _ _ q1 c2, ?_⟩
          simp only [Act.put, List.setIfInBounds_toArray, List.set_cons_zero, List.set_cons_succ]
          refine wpW_val 3 hK4 rfl (by kernel_rfl) (by kernel_rfl) (by kernel_rfl) (by kernel_rfl) rfl (fun _ _ _ _ h => h) (.pointer (some ⟨y24, 10, none⟩)) (fun w' h => by simp [go_sem]) ?_
          simp only [Act.put, List.setIfInBounds_toArray, List.set_cons_zero, List.set_cons_succ]
          refine wpW_write 4 rfl (by kernel_rfl) (by kernel_rfl) rfl ?_
          intro t3 c3 q3
          replace rD := rD.after c3
          refine wp_store_mid 33 _ _ rfl y24 10 #[.bool vD.l, .bool vD.h, .slice vD.a1 vD.n1 vD.c1, .slice vD.a2 vD.n2 vD.c2, .slice vD.a3 vD.n3 vD.c3] rfl rfl q3.2.1.room (by kernel_rfl) (by simp [Value.oneCell']) ?_
          obtain ⟨R5, st5⟩ := q3.2.1.store vD [49] rD
          have G5 : Box (t3.setCells y24 10 [.bool vD.l, .bool vD.h, .slice vD.a1 vD.n1 vD.c1, .slice vD.a2 vD.n2 vD.c2, .slice vD.a3 vD.n3 vD.c3]) g10 33 #[.bool true, .bool false, .slice none 0 0, .slice none 0 0, .slice (some ⟨y24, 0, none⟩) 4 4] := (st5.other g10 (fun e => R5.1.2 e.symm)).trans q3.1
          have hy5 : w.heap.size ≤ y24 := HY
          have B5 := st5.below w.heap.size w hy5 q3.2.2.2
          have T5 : Tab _ := (HT0.out).after B5
          simp only [Act.put, List.setIfInBounds_toArray, List.set_cons_zero, List.set_cons_succ]
          change wpU _ _ _ _ _ _ _ _ (t3.setCells y24 10 [.bool vD.l, .bool vD.h, .slice vD.a1 vD.n1 vD.c1, .slice vD.a2 vD.n2 vD.c2, .slice vD.a3 vD.n3 vD.c3])
          generalize (t3.setCells y24 10 [.bool vD.l, .bool vD.h, .slice vD.a1 vD.n1 vD.c1, .slice vD.a2 vD.n2 vD.c2, .slice vD.a3 vD.n3 vD.c3]) = t5 at *
          refine wpU_done rfl (fun u5 d5 _ => ?_)
          have G6 := Lib.hid (G5.after d5)
          have R6 := Lib.hid (R5.after d5)
          have T6 := Lib.hid (T5.after d5)
          have B6 := B5.trans (d5.mono B5.size)
          clear hK4 q1 q3 st5 R5 G5 T5 B5 d5 c1 c2 c3 rD G R4 T9 B
          replace B6 : Below w.heap.size w u5 := B6
          have B := B6
          clear B6
          go_wp2_with (refine wpList_load_box rfl 33 _ rfl G6.out (by rfl) Tryd.underlying33 rfl (by kernel_rfl) ?_)
          refine (getJ_any (List.replicate 32 0) [49] ⟨true, false, none, 0, 0, none, 0, 0, some ⟨y24, 0, none⟩, 4, 4⟩ u5 (R6.out.rd.mono (fun _ _ => trivial)) (by simp) (by decide) (join_may rfl (by simp)) (joinJ_may (by simp)) T6.out).mono ?_
          rintro e wB (⟨hno, _⟩ | ⟨_, ⟨jkd, js, ja1, jn1, jc1, ja2, jn2, jc2, jk, ja3, jn3, jc3⟩, rfl, hj1, hj3, bB⟩)
          case inl =>
            rw [Sx.same_refl] at hno
            cases hno
          replace hj1 : jk = 1 := hj1
          replace hj3 : jn3 = 1 := hj3
          subst hj1 hj3
          dsimp only
          replace G6 := Lib.hid (G6.out.after bB)
          replace R6 := Lib.hid (R6.out.after bB)
          replace T6 := Lib.hid (T6.out.after bB)
          replace B := B.trans (bB.mono B.size)
          clear bB
          go_upto_region 6 with (refine wpList_store_box (cells := #[.int .u8 jkd, .bool js, .slice ja1 jn1 jc1, .slice ja2 jn2 jc2, .int .i64 1, .slice ja3 1 jc3]) rfl 28 _ _ rfl (Box.new _ _ _) (by rfl) (by rfl) rfl (by kernel_rfl) (by simp [Value.oneCell']) ?_; intro u9 X9 st9)
          have bs2 : Below wB.heap.size wB u9 := st9.below wB.heap.size wB (Nat.le_refl _) ((Below.refl _ _).alloc (Nat.le_refl _) _)
          have J := Lib.hid X9
          replace G6 := Lib.hid (G6.out.after bs2)
          replace R6 := Lib.hid (R6.out.after bs2)
          replace T6 := Lib.hid (T6.out.after bs2)
          replace B := B.trans (bs2.mono B.size)
          clear bs2 st9 X9
          generalize u9 = x2 at *
          have j4 := J.out.cell 4 rfl
          have j5 := J.out.cell 5 rfl
          go_wp2_with fail
          go_ret
          exact ⟨rfl, B⟩
      · intro z15 b15 s15
        replace rA := rA.after b15
        replace rB := rB.after b15
        have := s15.2.2.2.size; 
        refine wp_alloc_new 33 rfl #[.bool false, .bool false, .slice none 0 0, .slice none 0 0, .slice none 0 0] (by intro w; simp [go_sem]) ?_
        intro g10 w26 rG lg0 c26
        have lgg : x1.heap.size ≤ g10 := by omega
        replace rA := ((rA.there).mono (ok' := (fun b => (0 ≤ b) ∧ b ≠ g10)) (fun b hb => ⟨hb.1, by have := hb.2; omega⟩)).after c26
        replace rB := ((rB.there).mono (ok' := (fun b => (0 ≤ b) ∧ b ≠ g10)) (fun b hb => ⟨hb.1, by have := hb.2; omega⟩)).after c26
        refine ⟨hKS _ _ s15 c26, ?_⟩
        simp only [Act.put, List.setIfInBounds_toArray, List.set_cons_zero, List.set_cons_succ]
        clear lg0
        refine wpW_one 2 rfl (by kernel_rfl) rfl rfl ?_
        intro z27 b27 s27
        replace rA := rA.after b27
        replace rB := rB.after b27
        replace rG := rG.after b27
        refine wp_callR 15 #[.string ⟨#[50]⟩] (by simp [go_sem]) _ (refAtomI_any (fun b => (0 ≤ b) ∧ b ≠ g10) ⟨#[50]⟩ (by decide) z27 (fun b hb => by have := s27.2.2.2.size; have := rG.lt; first | omega | (refine ⟨?_, ?_⟩ <;> omega))) ?_
        rintro e w28 ⟨vC, rfl, rC, c28⟩
        replace rA := rA.after c28
        replace rB := rB.after c28
        replace rG := rG.after c28
        refine ⟨_, rfl, hKS _ _ s27 c28, ?_⟩
        simp only [Act.put, List.setIfInBounds_toArray, List.set_cons_zero, List.set_cons_succ]
        refine wpW_one 4 rfl (by kernel_rfl) rfl rfl ?_
        intro z29 b29 s29
        replace rA := rA.after b29
        replace rB := rB.after b29
        replace rG := rG.after b29
        replace rC := rC.after b29
        refine wp_of_run (.slice (some ⟨z29.heap.size, 0, none⟩) 4 4) (z29.alloc (.cells #[.bool vA.l, .bool vA.h, .slice vA.a1 vA.n1 vA.c1, .slice vA.a2 vA.n2 vA.c2, .slice vA.a3 vA.n3 vA.c3, .bool vB.l, .bool vB.h, .slice vB.a1 vB.n1 vB.c1, .slice vB.a2 vB.n2 vB.c2, .slice vB.a3 vB.n3 vB.c3, .bool vC.l, .bool vC.h, .slice vC.a1 vC.n1 vC.c1, .slice vC.a2 vC.n2 vC.c2, .slice vC.a3 vC.n3 vC.c3, .bool (⟨kl, kh, ka1, kn1, kc1, ka2, kn2, kc2, ka3, kn3, kc3⟩ : SV).l, .bool (⟨kl, kh, ka1, kn1, kc1, ka2, kn2, kc2, ka3, kn3, kc3⟩ : SV).h, .slice (⟨kl, kh, ka1, kn1, kc1, ka2, kn2, kc2, ka3, kn3, kc3⟩ : SV).a1 (⟨kl, kh, ka1, kn1, kc1, ka2, kn2, kc2, ka3, kn3, kc3⟩ : SV).n1 (⟨kl, kh, ka1, kn1, kc1, ka2, kn2, kc2, ka3, kn3, kc3⟩ : SV).c1, .slice (⟨kl, kh, ka1, kn1, kc1, ka2, kn2, kc2, ka3, kn3, kc3⟩ : SV).a2 (⟨kl, kh, ka1, kn1, kc1, ka2, kn2, kc2, ka3, kn3, kc3⟩ : SV).n2 (⟨kl, kh, ka1, kn1, kc1, ka2, kn2, kc2, ka3, kn3, kc3⟩ : SV).c2, .slice (⟨kl, kh, ka1, kn1, kc1, ka2, kn2, kc2, ka3, kn3, kc3⟩ : SV).a3 (⟨kl, kh, ka1, kn1, kc1, ka2, kn2, kc2, ka3, kn3, kc3⟩ : SV).n3 (⟨kl, kh, ka1, kn1, kc1, ka2, kn2, kc2, ka3, kn3, kc3⟩ : SV).c3] 33)) (by simp [go_sem, SV.val]) ?_
        have c30 : Below z29.heap.size z29 (z29.alloc (.cells #[.bool vA.l, .bool vA.h, .slice vA.a1 vA.n1 vA.c1, .slice vA.a2 vA.n2 vA.c2, .slice vA.a3 vA.n3 vA.c3, .bool vB.l, .bool vB.h, .slice vB.a1 vB.n1 vB.c1, .slice vB.a2 vB.n2 vB.c2, .slice vB.a3 vB.n3 vB.c3, .bool vC.l, .bool vC.h, .slice vC.a1 vC.n1 vC.c1, .slice vC.a2 vC.n2 vC.c2, .slice vC.a3 vC.n3 vC.c3, .bool (⟨kl, kh, ka1, kn1, kc1, ka2, kn2, kc2, ka3, kn3, kc3⟩ : SV).l, .bool (⟨kl, kh, ka1, kn1, kc1, ka2, kn2, kc2, ka3, kn3, kc3⟩ : SV).h, .slice (⟨kl, kh, ka1, kn1, kc1, ka2, kn2, kc2, ka3, kn3, kc3⟩ : SV).a1 (⟨kl, kh, ka1, kn1, kc1, ka2, kn2, kc2, ka3, kn3, kc3⟩ : SV).n1 (⟨kl, kh, ka1, kn1, kc1, ka2, kn2, kc2, ka3, kn3, kc3⟩ : SV).c1, .slice (⟨kl, kh, ka1, kn1, kc1, ka2, kn2, kc2, ka3, kn3, kc3⟩ : SV).a2 (⟨kl, kh, ka1, kn1, kc1, ka2, kn2, kc2, ka3, kn3, kc3⟩ : SV).n2 (⟨kl, kh, ka1, kn1, kc1, ka2, kn2, kc2, ka3, kn3, kc3⟩ : SV).c2, .slice (⟨kl, kh, ka1, kn1, kc1, ka2, kn2, kc2, ka3, kn3, kc3⟩ : SV).a3 (⟨kl, kh, ka1, kn1, kc1, ka2, kn2, kc2, ka3, kn3, kc3⟩ : SV).n3 (⟨kl, kh, ka1, kn1, kc1, ka2, kn2, kc2, ka3, kn3, kc3⟩ : SV).c3] 33)) := (Below.refl _ _).alloc (Nat.le_refl _) _
        have rL : Row4 (fun b => (0 ≤ b) ∧ b ≠ g10) (z29.alloc (.cells #[.bool vA.l, .bool vA.h, .slice vA.a1 vA.n1 vA.c1, .slice vA.a2 vA.n2 vA.c2, .slice vA.a3 vA.n3 vA.c3, .bool vB.l, .bool vB.h, .slice vB.a1 vB.n1 vB.c1, .slice vB.a2 vB.n2 vB.c2, .slice vB.a3 vB.n3 vB.c3, .bool vC.l, .bool vC.h, .slice vC.a1 vC.n1 vC.c1, .slice vC.a2 vC.n2 vC.c2, .slice vC.a3 vC.n3 vC.c3, .bool (⟨kl, kh, ka1, kn1, kc1, ka2, kn2, kc2, ka3, kn3, kc3⟩ : SV).l, .bool (⟨kl, kh, ka1, kn1, kc1, ka2, kn2, kc2, ka3, kn3, kc3⟩ : SV).h, .slice (⟨kl, kh, ka1, kn1, kc1, ka2, kn2, kc2, ka3, kn3, kc3⟩ : SV).a1 (⟨kl, kh, ka1, kn1, kc1, ka2, kn2, kc2, ka3, kn3, kc3⟩ : SV).n1 (⟨kl, kh, ka1, kn1, kc1, ka2, kn2, kc2, ka3, kn3, kc3⟩ : SV).c1, .slice (⟨kl, kh, ka1, kn1, kc1, ka2, kn2, kc2, ka3, kn3, kc3⟩ : SV).a2 (⟨kl, kh, ka1, kn1, kc1, ka2, kn2, kc2, ka3, kn3, kc3⟩ : SV).n2 (⟨kl, kh, ka1, kn1, kc1, ka2, kn2, kc2, ka3, kn3, kc3⟩ : SV).c2, .slice (⟨kl, kh, ka1, kn1, kc1, ka2, kn2, kc2, ka3, kn3, kc3⟩ : SV).a3 (⟨kl, kh, ka1, kn1, kc1, ka2, kn2, kc2, ka3, kn3, kc3⟩ : SV).n3 (⟨kl, kh, ka1, kn1, kc1, ka2, kn2, kc2, ka3, kn3, kc3⟩ : SV).c3] 33)) z29.heap.size vA vB vC ⟨kl, kh, ka1, kn1, kc1, ka2, kn2, kc2, ka3, kn3, kc3⟩ [50] (List.replicate 32 0) := ⟨(by have := s29.2.2.2.size; have := rG.lt; refine ⟨Nat.zero_le _, ?_⟩; omega), Box.new _ _ _, (rA.there.mono (fun b hb => ⟨hb.1, by have := hb.2; omega⟩)).after c30, (rB.there.mono (fun b hb => ⟨hb.1, by have := hb.2; omega⟩)).after c30, (rC.there.mono (fun b hb => ⟨hb.1, by have := hb.2; omega⟩)).after c30, (s29.2.1.there.mono (ok' := (fun b => ((fun b => (0 ≤ b) ∧ b ≠ g10)) b ∧ b ≠ z29.heap.size)) (fun b hb => ⟨by have h1 := hb.1; have h2 := hb.2; have h3 := lgg; exact ⟨Nat.zero_le _, by omega⟩, by have := hb.2; omega⟩)).after c30⟩
        replace rG := rG.after c30
        refine ⟨hKS _ _ s29 c30, ?_⟩
        simp only [Act.put, List.setIfInBounds_toArray, List.set_cons_zero, List.set_cons_succ]
        clear rA rB rC
        have HY : w.heap.size ≤ z29.heap.size := Nat.le_trans hw1 s29.2.2.2.size
        generalize z29.heap.size = y30 at *
        generalize (z29.alloc (.cells #[.bool vA.l, .bool vA.h, .slice vA.a1 vA.n1 vA.c1, .slice vA.a2 vA.n2 vA.c2, .slice vA.a3 vA.n3 vA.c3, .bool vB.l, .bool vB.h, .slice vB.a1 vB.n1 vB.c1, .slice vB.a2 vB.n2 vB.c2, .slice vB.a3 vB.n3 vB.c3, .bool vC.l, .bool vC.h, .slice vC.a1 vC.n1 vC.c1, .slice vC.a2 vC.n2 vC.c2, .slice vC.a3 vC.n3 vC.c3, .bool (⟨kl, kh, ka1, kn1, kc1, ka2, kn2, kc2, ka3, kn3, kc3⟩ : SV).l, .bool (⟨kl, kh, ka1, kn1, kc1, ka2, kn2, kc2, ka3, kn3, kc3⟩ : SV).h, .slice (⟨kl, kh, ka1, kn1, kc1, ka2, kn2, kc2, ka3, kn3, kc3⟩ : SV).a1 (⟨kl, kh, ka1, kn1, kc1, ka2, kn2, kc2, ka3, kn3, kc3⟩ : SV).n1 (⟨kl, kh, ka1, kn1, kc1, ka2, kn2, kc2, ka3, kn3, kc3⟩ : SV).c1, .slice (⟨kl, kh, ka1, kn1, kc1, ka2, kn2, kc2, ka3, kn3, kc3⟩ : SV).a2 (⟨kl, kh, ka1, kn1, kc1, ka2, kn2, kc2, ka3, kn3, kc3⟩ : SV).n2 (⟨kl, kh, ka1, kn1, kc1, ka2, kn2, kc2, ka3, kn3, kc3⟩ : SV).c2, .slice (⟨kl, kh, ka1, kn1, kc1, ka2, kn2, kc2, ka3, kn3, kc3⟩ : SV).a3 (⟨kl, kh, ka1, kn1, kc1, ka2, kn2, kc2, ka3, kn3, kc3⟩ : SV).n3 (⟨kl, kh, ka1, kn1, kc1, ka2, kn2, kc2, ka3, kn3, kc3⟩ : SV).c3] 33)) = x30 at *
        refine wpW_free 5 hKS rfl (by kernel_rfl) (by kernel_rfl) (by kernel_rfl) (by kernel_rfl) rfl (fun _ _ _ _ h => h) (.agg #[.bool true, .bool false, .slice none 0 0, .slice none 0 0, .slice (some ⟨y30, 0, none⟩) 4 4]) (fun w' => by simp [go_sem]) ?_
        simp only [Act.put, List.setIfInBounds_toArray, List.set_cons_zero, List.set_cons_succ]
        refine wpW_write 7 rfl (by kernel_rfl) (by kernel_rfl) rfl ?_
        intro z31 b31 s31
        replace rG := rG.after b31
        replace rL := rL.after b31
        refine wp_store_box 33 _ _ rfl rG (by rfl) (by rfl) rfl (by kernel_rfl) (by simp [Value.oneCell']) (cells := #[.bool true, .bool false, .slice none 0 0, .slice none 0 0, .slice (some ⟨y30, 0, none⟩) 4 4]) ?_
        intro zx Xx stx
        have RLx := rL.keep (w' := zx) (fun b hb => stx.other b hb.2)
        have Bx := stx.below x1.heap.size x1 lgg s31.2.2.2
        simp only [Act.put, List.setIfInBounds_toArray, List.set_cons_zero, List.set_cons_succ]
        refine wpU_done rfl (fun w9 b9 _ => ?_)
        have D := Bx.trans (b9.mono Bx.size)
        have T9 := Lib.hid (HT.out.after D)
        have G := Lib.hid (Xx.after b9)
        have R4 := Lib.hid (RLx.after b9)
        replace B := B.trans (D.mono B.size)
        clear hKS stx Xx RLx b9 Bx D rL s31 X HK HT
        go_wp2_with (refine wpList_load_box rfl 33 _ rfl G.out (by rfl) Tryd.underlying33 rfl (by kernel_rfl) ?_)
        refine (getJ_any (List.replicate 32 0) [50] ⟨true, false, none, 0, 0, none, 0, 0, some ⟨y30, 0, none⟩, 4, 4⟩ w9 (R4.out.rd.mono (fun _ _ => trivial)) (by simp) (by decide) (join_may rfl (by simp)) (joinJ_may (by simp)) T9.out).mono ?_
        rintro e wA (⟨_, rfl, bA⟩ | ⟨hno, _⟩)
        case inr =>
          rw [join_two] at hno
          cases hno
        replace G := Lib.hid (G.out.after bA)
        replace R4 := Lib.hid (R4.out.after bA)
        replace T9 := Lib.hid (T9.out.after bA)
        replace B := B.trans (bA.mono B.size)
        clear bA
        go_upto_region 4 with (refine wpList_store_box (cells := #[.int .u8 0, .bool false, .slice none 0 0, .slice none 0 0, .int .i64 0, .slice none 0 0]) rfl 28 _ _ rfl (Box.new _ _ _) (by rfl) (by rfl) rfl (by kernel_rfl) (by simp [Value.oneCell']) ?_; intro u9 X9 st9)
        have bs1 : Below wA.heap.size wA u9 := st9.below wA.heap.size wA (Nat.le_refl _) ((Below.refl _ _).alloc (Nat.le_refl _) _)
        have Q := Lib.hid X9
        replace G := Lib.hid (G.out.after bs1)
        replace R4 := Lib.hid (R4.out.after bs1)
        replace T9 := Lib.hid (T9.out.after bs1)
        replace B := B.trans (bs1.mono B.size)
        clear bs1 st9 X9
        generalize u9 = x1 at *
        clear Q
        have hK4 : Keeps (fun w' => Box w' g10 33 #[.bool true, .bool false, .slice none 0 0, .slice none 0 0, .slice (some ⟨y30, 0, none⟩) 4 4] ∧ Row4 (fun b => 0 ≤ b ∧ b ≠ g10) w' y30 vA vB vC ⟨kl, kh, ka1, kn1, kc1, ka2, kn2, kc2, ka3, kn3, kc3⟩ [50] (List.replicate 32 0) ∧ Tab w' ∧ Below w.heap.size w w') := fun _ _ h b => ⟨h.1.after b, h.2.1.after b, h.2.2.1.after b, h.2.2.2.trans (b.mono h.2.2.2.size)⟩
        refine wp_region_W (w := x1) [4] (fun w' => Box w' g10 33 #[.bool true, .bool false, .slice none 0 0, .slice none 0 0, .slice (some ⟨y30, 0, none⟩) 4 4] ∧ Row4 (fun b => 0 ≤ b ∧ b ≠ g10) w' y30 vA vB vC ⟨kl, kh, ka1, kn1, kc1, ka2, kn2, kc2, ka3, kn3, kc3⟩ [50] (List.replicate 32 0) ∧ Tab w' ∧ Below w.heap.size w w') rfl (hK4 _ _ ⟨G.out, R4.out, T9.out, B⟩ (Below.refl _ _).drew) ?_
        refine wpW_val 0 hK4 rfl (by kernel_rfl) (by kernel_rfl) (by kernel_rfl) (by kernel_rfl) rfl (fun _ _ _ _ h => h) (.pointer (some ⟨g10, 4, none⟩)) (fun w' h => by simp [go_sem]) ?_
        simp only [Act.put, List.setIfInBounds_toArray, List.set_cons_zero, List.set_cons_succ]
        refine wpW_val 1 hK4 rfl (by kernel_rfl) (by kernel_rfl) (by kernel_rfl) (by kernel_rfl) rfl (fun _ _ _ _ h => h) (.slice (some ⟨y30, 0, none⟩) 4 4) (fun w' h => by simp [go_sem, h.1.cell 4 rfl]) ?_
        simp only [Act.put, List.setIfInBounds_toArray, List.set_cons_zero, List.set_cons_succ]
        refine wpW_one 2 rfl (by kernel_rfl) (by kernel_rfl) rfl ?_
        intro t1 c1 q1
        refine wp_callR 15 #[.string ⟨#[49]⟩] (by simp [go_sem]) _ (refAtomI_any (fun b => (0 ≤ b ∧ b ≠ g10) ∧ b ≠ y30) ⟨#[49]⟩ (by decide) t1 (fun b hb => by have h1 := q1.1.lt; have h2 := q1.2.1.2.1.lt; refine ⟨⟨Nat.zero_le _, ?_⟩, ?_⟩ <;> omega)) ?_
        rintro e t2 ⟨vD, rfl, rD, c2⟩
        refine ⟨_, rfl, hK4 _ _ q1 c2, ?_⟩
        simp only [Act.put, List.setIfInBounds_toArray, List.set_cons_zero, List.set_cons_succ]
        refine wpW_val 3 hK4 rfl (by kernel_rfl) (by kernel_rfl) (by kernel_rfl) (by kernel_rfl) rfl (fun _ _ _ _ h => h) (.pointer (some ⟨y30, 10, none⟩)) (fun w' h => by simp [go_sem]) ?_
        simp only [Act.put, List.setIfInBounds_toArray, List.set_cons_zero, List.set_cons_succ]
        refine wpW_write 4 rfl (by kernel_rfl) (by kernel_rfl) rfl ?_
        intro t3 c3 q3
        replace rD := rD.after c3
        refine wp_store_mid 33 _ _ rfl y30 10 #[.bool vD.l, .bool vD.h, .slice vD.a1 vD.n1 vD.c1, .slice vD.a2 vD.n2 vD.c2, .slice vD.a3 vD.n3 vD.c3] rfl rfl q3.2.1.room (by kernel_rfl) (by simp [Value.oneCell']) ?_
        obtain ⟨R5, st5⟩ := q3.2.1.store vD [49] rD
        have G5 : Box (t3.setCells y30 10 [.bool vD.l, .bool vD.h, .slice vD.a1 vD.n1 vD.c1, .slice vD.a2 vD.n2 vD.c2, .slice vD.a3 vD.n3 vD.c3]) g10 33 #[.bool true, .bool false, .slice none 0 0, .slice none 0 0, .slice (some ⟨y30, 0, none⟩) 4 4] := (st5.other g10 (fun e => R5.1.2 e.symm)).trans q3.1
        have hy5 : w.heap.size ≤ y30 := HY
        have B5 := st5.below w.heap.size w hy5 q3.2.2.2
        have T5 : Tab _ := (HT0.out).after B5
        simp only [Act.put, List.setIfInBounds_toArray, List.set_cons_zero, List.set_cons_succ]
        change wpU _ _ _ _ _ _ _ _ (t3.setCells y30 10 [.bool vD.l, .bool vD.h, .slice vD.a1 vD.n1 vD.c1, .slice vD.a2 vD.n2 vD.c2, .slice vD.a3 vD.n3 vD.c3])
        generalize (t3.setCells y30 10 [.bool vD.l, .bool vD.h, .slice vD.a1 vD.n1 vD.c1, .slice vD.a2 vD.n2 vD.c2, .slice vD.a3 vD.n3 vD.c3]) = t5 at *
        refine wpU_done rfl (fun u5 d5 _ => ?_)
        have G6 := Lib.hid (G5.after d5)
        have R6 := Lib.hid (R5.after d5)
        have T6 := Lib.hid (T5.after d5)
        have B6 := B5.trans (d5.mono B5.size)
        clear hK4 q1 q3 st5 R5 G5 T5 B5 d5 c1 c2 c3 rD G R4 T9 B
        replace B6 : Below w.heap.size w u5 := B6
        have B := B6
        clear B6
        go_wp2_with (refine wpList_load_box rfl 33 _ rfl G6.out (by rfl) Tryd.underlying33 rfl (by kernel_rfl) ?_)
        refine (getJ_any (List.replicate 32 0) [49] ⟨true, false, none, 0, 0, none, 0, 0, some ⟨y30, 0, none⟩, 4, 4⟩ u5 (R6.out.rd.mono (fun _ _ => trivial)) (by simp) (by decide) (join_may rfl (by simp)) (joinJ_may (by simp)) T6.out).mono ?_
        rintro e wB (⟨hno, _⟩ | ⟨_, ⟨jkd, js, ja1, jn1, jc1, ja2, jn2, jc2, jk, ja3, jn3, jc3⟩, rfl, hj1, hj3, bB⟩)
        case inl =>
          rw [Sx.same_refl] at hno
          cases hno
        replace hj1 : jk = 1 := hj1
        replace hj3 : jn3 = 1 := hj3
        subst hj1 hj3
        dsimp only
        replace G6 := Lib.hid (G6.out.after bB)
        replace R6 := Lib.hid (R6.out.after bB)
        replace T6 := Lib.hid (T6.out.after bB)
        replace B := B.trans (bB.mono B.size)
        clear bB
        go_upto_region 6 with (refine wpList_store_box (cells := #[.int .u8 jkd, .bool js, .slice ja1 jn1 jc1, .slice ja2 jn2 jc2, .int .i64 1, .slice ja3 1 jc3]) rfl 28 _ _ rfl (Box.new _ _ _) (by rfl) (by rfl) rfl (by kernel_rfl) (by simp [Value.oneCell']) ?_; intro u9 X9 st9)
        have bs2 : Below wB.heap.size wB u9 := st9.below wB.heap.size wB (Nat.le_refl _) ((Below.refl _ _).alloc (Nat.le_refl _) _)
        have J := Lib.hid X9
        replace G6 := Lib.hid (G6.out.after bs2)
        replace R6 := Lib.hid (R6.out.after bs2)
        replace T6 := Lib.hid (T6.out.after bs2)
        replace B := B.trans (bs2.mono B.size)
        clear bs2 st9 X9
        generalize u9 = x2 at *
        have j4 := J.out.cell 4 rfl
        have j5 := J.out.cell 5 rfl
        go_wp2_with fail
        go_ret
        exact ⟨rfl, B⟩
    · intro z13 b13 s13
      replace rA := rA.after b13
      have := s13.2.2.2.size; 
      refine wp_alloc_new 33 rfl #[.bool false, .bool false, .slice none 0 0, .slice none 0 0, .slice none 0 0] (by intro w; simp [go_sem]) ?_
      intro g10 w32 rG lg0 c32
      have lgg : x1.heap.size ≤ g10 := by omega
      replace rA := ((rA.there).mono (ok' := (fun b => (0 ≤ b) ∧ b ≠ g10)) (fun b hb => ⟨hb.1, by have := hb.2; omega⟩)).after c32
      refine ⟨hKS _ _ s13 c32, ?_⟩
      simp only [Act.put, List.setIfInBounds_toArray, List.set_cons_zero, List.set_cons_succ]
      clear lg0
      refine wpW_one 1 rfl (by kernel_rfl) rfl rfl ?_
      intro z33 b33 s33
      replace rA := rA.after b33
      replace rG := rG.after b33
      refine wp_callR 15 #[.string ⟨#[49]⟩] (by simp [go_sem]) _ (refAtomI_any (fun b => (0 ≤ b) ∧ b ≠ g10) ⟨#[49]⟩ (by decide) z33 (fun b hb => by have := s33.2.2.2.size; have := rG.lt; first | omega | (refine ⟨?_, ?_⟩ <;> omega))) ?_
      rintro e w34 ⟨vB, rfl, rB, c34⟩
      replace rA := rA.after c34
      replace rG := rG.after c34
      refine ⟨_, rfl, hKS _ _ s33 c34, ?_⟩
      simp only [Act.put, List.setIfInBounds_toArray, List.set_cons_zero, List.set_cons_succ]
      refine wpW_one 2 rfl (by kernel_rfl) rfl rfl ?_
      intro z35 b35 s35
      replace rA := rA.after b35
      replace rG := rG.after b35
      replace rB := rB.after b35
      refine wp_callR 15 #[.string ⟨#[50]⟩] (by simp [go_sem]) _ (refAtomI_any (fun b => (0 ≤ b) ∧ b ≠ g10) ⟨#[50]⟩ (by decide) z35 (fun b hb => by have := s35.2.2.2.size; have := rG.lt; first | omega | (refine ⟨?_, ?_⟩ <;> omega))) ?_
      rintro e w36 ⟨vC, rfl, rC, c36⟩
      replace rA := rA.after c36
      replace rG := rG.after c36
      replace rB := rB.after c36
      refine ⟨_, rfl, hKS _ _ s35 c36, ?_⟩
      simp only [Act.put, List.setIfInBounds_toArray, List.set_cons_zero, List.set_cons_succ]
      refine wpW_one 4 rfl (by kernel_rfl) rfl rfl ?_
      intro z37 b37 s37
      replace rA := rA.after b37
      replace rG := rG.after b37
      replace rB := rB.after b37
      replace rC := rC.after b37
      refine wp_of_run (.slice (some ⟨z37.heap.size, 0, none⟩) 4 4) (z37.alloc (.cells #[.bool vA.l, .bool vA.h, .slice vA.a1 vA.n1 vA.c1, .slice vA.a2 vA.n2 vA.c2, .slice vA.a3 vA.n3 vA.c3, .bool vB.l, .bool vB.h, .slice vB.a1 vB.n1 vB.c1, .slice vB.a2 vB.n2 vB.c2, .slice vB.a3 vB.n3 vB.c3, .bool vC.l, .bool vC.h, .slice vC.a1 vC.n1 vC.c1, .slice vC.a2 vC.n2 vC.c2, .slice vC.a3 vC.n3 vC.c3, .bool (⟨kl, kh, ka1, kn1, kc1, ka2, kn2, kc2, ka3, kn3, kc3⟩ : SV).l, .bool (⟨kl, kh, ka1, kn1, kc1, ka2, kn2, kc2, ka3, kn3, kc3⟩ : SV).h, .slice (⟨kl, kh, ka1, kn1, kc1, ka2, kn2, kc2, ka3, kn3, kc3⟩ : SV).a1 (⟨kl, kh, ka1, kn1, kc1, ka2, kn2, kc2, ka3, kn3, kc3⟩ : SV).n1 (⟨kl, kh, ka1, kn1, kc1, ka2, kn2, kc2, ka3, kn3, kc3⟩ : SV).c1, .slice (⟨kl, kh, ka1, kn1, kc1, ka2, kn2, kc2, ka3, kn3, kc3⟩ : SV).a2 (⟨kl, kh, ka1, kn1, kc1, ka2, kn2, kc2, ka3, kn3, kc3⟩ : SV).n2 (⟨kl, kh, ka1, kn1, kc1, ka2, kn2, kc2, ka3, kn3, kc3⟩ : SV).c2, .slice (⟨kl, kh, ka1, kn1, kc1, ka2, kn2, kc2, ka3, kn3, kc3⟩ : SV).a3 (⟨kl, kh, ka1, kn1, kc1, ka2, kn2, kc2, ka3, kn3, kc3⟩ : SV).n3 (⟨kl, kh, ka1, kn1, kc1, ka2, kn2, kc2, ka3, kn3, kc3⟩ : SV).c3] 33)) (by simp [go_sem, SV.val]) ?_
      have c38 : Below z37.heap.size z37 (z37.alloc (.cells #[.bool vA.l, .bool vA.h, .slice vA.a1 vA.n1 vA.c1, .slice vA.a2 vA.n2 vA.c2, .slice vA.a3 vA.n3 vA.c3, .bool vB.l, .bool vB.h, .slice vB.a1 vB.n1 vB.c1, .slice vB.a2 vB.n2 vB.c2, .slice vB.a3 vB.n3 vB.c3, .bool vC.l, .bool vC.h, .slice vC.a1 vC.n1 vC.c1, .slice vC.a2 vC.n2 vC.c2, .slice vC.a3 vC.n3 vC.c3, .bool (⟨kl, kh, ka1, kn1, kc1, ka2, kn2, kc2, ka3, kn3, kc3⟩ : SV).l, .bool (⟨kl, kh, ka1, kn1, kc1, ka2, kn2, kc2, ka3, kn3, kc3⟩ : SV).h, .slice (⟨kl, kh, ka1, kn1, kc1, ka2, kn2, kc2, ka3, kn3, kc3⟩ : SV).a1 (⟨kl, kh, ka1, kn1, kc1, ka2, kn2, kc2, ka3, kn3, kc3⟩ : SV).n1 (⟨kl, kh, ka1, kn1, kc1, ka2, kn2, kc2, ka3, kn3, kc3⟩ : SV).c1, .slice (⟨kl, kh, ka1, kn1, kc1, ka2, kn2, kc2, ka3, kn3, kc3⟩ : SV).a2 (⟨kl, kh, ka1, kn1, kc1, ka2, kn2, kc2, ka3, kn3, kc3⟩ : SV).n2 (⟨kl, kh, ka1, kn1, kc1, ka2, kn2, kc2, ka3, kn3, kc3⟩ : SV).c2, .slice (⟨kl, kh, ka1, kn1, kc1, ka2, kn2, kc2, ka3, kn3, kc3⟩ : SV).a3 (⟨kl, kh, ka1, kn1, kc1, ka2, kn2, kc2, ka3, kn3, kc3⟩ : SV).n3 (⟨kl, kh, ka1, kn1, kc1, ka2, kn2, kc2, ka3, kn3, kc3⟩ : SV).c3] 33)) := (Below.refl _ _).alloc (Nat.le_refl _) _
      have rL : Row4 (fun b => (0 ≤ b) ∧ b ≠ g10) (z37.alloc (.cells #[.bool vA.l, .bool vA.h, .slice vA.a1 vA.n1 vA.c1, .slice vA.a2 vA.n2 vA.c2, .slice vA.a3 vA.n3 vA.c3, .bool vB.l, .bool vB.h, .slice vB.a1 vB.n1 vB.c1, .slice vB.a2 vB.n2 vB.c2, .slice vB.a3 vB.n3 vB.c3, .bool vC.l, .bool vC.h, .slice vC.a1 vC.n1 vC.c1, .slice vC.a2 vC.n2 vC.c2, .slice vC.a3 vC.n3 vC.c3, .bool (⟨kl, kh, ka1, kn1, kc1, ka2, kn2, kc2, ka3, kn3, kc3⟩ : SV).l, .bool (⟨kl, kh, ka1, kn1, kc1, ka2, kn2, kc2, ka3, kn3, kc3⟩ : SV).h, .slice (⟨kl, kh, ka1, kn1, kc1, ka2, kn2, kc2, ka3, kn3, kc3⟩ : SV).a1 (⟨kl, kh, ka1, kn1, kc1, ka2, kn2, kc2, ka3, kn3, kc3⟩ : SV).n1 (⟨kl, kh, ka1, kn1, kc1, ka2, kn2, kc2, ka3, kn3, kc3⟩ : SV).c1, .slice (⟨kl, kh, ka1, kn1, kc1, ka2, kn2, kc2, ka3, kn3, kc3⟩ : SV).a2 (⟨kl, kh, ka1, kn1, kc1, ka2, kn2, kc2, ka3, kn3, kc3⟩ : SV).n2 (⟨kl, kh, ka1, kn1, kc1, ka2, kn2, kc2, ka3, kn3, kc3⟩ : SV).c2, .slice (⟨kl, kh, ka1, kn1, kc1, ka2, kn2, kc2, ka3, kn3, kc3⟩ : SV).a3 (⟨kl, kh, ka1, kn1, kc1, ka2, kn2, kc2, ka3, kn3, kc3⟩ : SV).n3 (⟨kl, kh, ka1, kn1, kc1, ka2, kn2, kc2, ka3, kn3, kc3⟩ : SV).c3] 33)) z37.heap.size vA vB vC ⟨kl, kh, ka1, kn1, kc1, ka2, kn2, kc2, ka3, kn3, kc3⟩ [50] (List.replicate 32 0) := ⟨(by have := s37.2.2.2.size; have := rG.lt; refine ⟨Nat.zero_le _, ?_⟩; omega), Box.new _ _ _, (rA.there.mono (fun b hb => ⟨hb.1, by have := hb.2; omega⟩)).after c38, (rB.there.mono (fun b hb => ⟨hb.1, by have := hb.2; omega⟩)).after c38, (rC.there.mono (fun b hb => ⟨hb.1, by have := hb.2; omega⟩)).after c38, (s37.2.1.there.mono (ok' := (fun b => ((fun b => (0 ≤ b) ∧ b ≠ g10)) b ∧ b ≠ z37.heap.size)) (fun b hb => ⟨by have h1 := hb.1; have h2 := hb.2; have h3 := lgg; exact ⟨Nat.zero_le _, by omega⟩, by have := hb.2; omega⟩)).after c38⟩
      replace rG := rG.after c38
      refine ⟨hKS _ _ s37 c38, ?_⟩
      simp only [Act.put, List.setIfInBounds_toArray, List.set_cons_zero, List.set_cons_succ]
      clear rA rB rC
      have HY : w.heap.size ≤ z37.heap.size := Nat.le_trans hw1 s37.2.2.2.size
      generalize z37.heap.size = y38 at *
      generalize (z37.alloc (.cells #[.bool vA.l, .bool vA.h, .slice vA.a1 vA.n1 vA.c1, .slice vA.a2 vA.n2 vA.c2, .slice vA.a3 vA.n3 vA.c3, .bool vB.l, .bool vB.h, .slice vB.a1 vB.n1 vB.c1, .slice vB.a2 vB.n2 vB.c2, .slice vB.a3 vB.n3 vB.c3, .bool vC.l, .bool vC.h, .slice vC.a1 vC.n1 vC.c1, .slice vC.a2 vC.n2 vC.c2, .slice vC.a3 vC.n3 vC.c3, .bool (⟨kl, kh, ka1, kn1, kc1, ka2, kn2, kc2, ka3, kn3, kc3⟩ : SV).l, .bool (⟨kl, kh, ka1, kn1, kc1, ka2, kn2, kc2, ka3, kn3, kc3⟩ : SV).h, .slice (⟨kl, kh, ka1, kn1, kc1, ka2, kn2, kc2, ka3, kn3, kc3⟩ : SV).a1 (⟨kl, kh, ka1, kn1, kc1, ka2, kn2, kc2, ka3, kn3, kc3⟩ : SV).n1 (⟨kl, kh, ka1, kn1, kc1, ka2, kn2, kc2, ka3, kn3, kc3⟩ : SV).c1, .slice (⟨kl, kh, ka1, kn1, kc1, ka2, kn2, kc2, ka3, kn3, kc3⟩ : SV).a2 (⟨kl, kh, ka1, kn1, kc1, ka2, kn2, kc2, ka3, kn3, kc3⟩ : SV).n2 (⟨kl, kh, ka1, kn1, kc1, ka2, kn2, kc2, ka3, kn3, kc3⟩ : SV).c2, .slice (⟨kl, kh, ka1, kn1, kc1, ka2, kn2, kc2, ka3, kn3, kc3⟩ : SV).a3 (⟨kl, kh, ka1, kn1, kc1, ka2, kn2, kc2, ka3, kn3, kc3⟩ : SV).n3 (⟨kl, kh, ka1, kn1, kc1, ka2, kn2, kc2, ka3, kn3, kc3⟩ : SV).c3] 33)) = x38 at *
      refine wpW_free 5 hKS rfl (by kernel_rfl) (by kernel_rfl) (by kernel_rfl) (by kernel_rfl) rfl (fun _ _ _ _ h => h) (.agg #[.bool true, .bool false, .slice none 0 0, .slice none 0 0, .slice (some ⟨y38, 0, none⟩) 4 4]) (fun w' => by simp [go_sem]) ?_
      simp only [Act.put, List.setIfInBounds_toArray, List.set_cons_zero, List.set_cons_succ]
      refine wpW_write 7 rfl (by kernel_rfl) (by kernel_rfl) rfl ?_
      intro z39 b39 s39
      replace rG := rG.after b39
      replace rL := rL.after b39
      refine wp_store_box 33 _ _ rfl rG (by rfl) (by rfl) rfl (by kernel_rfl) (by simp [Value.oneCell']) (cells := #[.bool true, .bool false, .slice none 0 0, .slice none 0 0, .slice (some ⟨y38, 0, none⟩) 4 4]) ?_
      intro zx Xx stx
      have RLx := rL.keep (w' := zx) (fun b hb => stx.other b hb.2)
      have Bx := stx.below x1.heap.size x1 lgg s39.2.2.2
      simp only [Act.put, List.setIfInBounds_toArray, List.set_cons_zero, List.set_cons_succ]
      refine wpU_done rfl (fun w9 b9 _ => ?_)
      have D := Bx.trans (b9.mono Bx.size)
      have T9 := Lib.hid (HT.out.after D)
      have G := Lib.hid (Xx.after b9)
      have R4 := Lib.hid (RLx.after b9)
      replace B := B.trans (D.mono B.size)
      clear hKS stx Xx RLx b9 Bx D rL s39 X HK HT
      go_wp2_with (refine wpList_load_box rfl 33 _ rfl G.out (by rfl) Tryd.underlying33 rfl (by kernel_rfl) ?_)
      refine (getJ_any (List.replicate 32 0) [50] ⟨true, false, none, 0, 0, none, 0, 0, some ⟨y38, 0, none⟩, 4, 4⟩ w9 (R4.out.rd.mono (fun _ _ => trivial)) (by simp) (by decide) (join_may rfl (by simp)) (joinJ_may (by simp)) T9.out).mono ?_
      rintro e wA (⟨_, rfl, bA⟩ | ⟨hno, _⟩)
      case inr =>
        rw [join_two] at hno
        cases hno
      replace G := Lib.hid (G.out.after bA)
      replace R4 := Lib.hid (R4.out.after bA)
      replace T9 := Lib.hid (T9.out.after bA)
      replace B := B.trans (bA.mono B.size)
      clear bA
      go_upto_region 4 with (refine wpList_store_box (cells := #[.int .u8 0, .bool false, .slice none 0 0, .slice none 0 0, .int .i64 0, .slice none 0 0]) rfl 28 _ _ rfl (Box.new _ _ _) (by rfl) (by rfl) rfl (by kernel_rfl) (by simp [Value.oneCell']) ?_; intro u9 X9 st9)
      have bs1 : Below wA.heap.size wA u9 := st9.below wA.heap.size wA (Nat.le_refl _) ((Below.refl _ _).alloc (Nat.le_refl _) _)
      have Q := Lib.hid X9
      replace G := Lib.hid (G.out.after bs1)
      replace R4 := Lib.hid (R4.out.after bs1)
      replace T9 := Lib.hid (T9.out.after bs1)
      replace B := B.trans (bs1.mono B.size)
      clear bs1 st9 X9
      generalize u9 = x1 at *
      clear Q
      have hK4 : Keeps (fun w' => Box w' g10 33 #[.bool true, .bool false, .slice none 0 0, .slice none 0 0, .slice (some ⟨y38, 0, none⟩) 4 4] ∧ Row4 (fun b => 0 ≤ b ∧ b ≠ g10) w' y38 vA vB vC ⟨kl, kh, ka1, kn1, kc1, ka2, kn2, kc2, ka3, kn3, kc3⟩ [50] (List.replicate 32 0) ∧ Tab w' ∧ Below w.heap.size w w') := fun _ _ h b => ⟨h.1.after b, h.2.1.after b, h.2.2.1.after b, h.2.2.2.trans (b.mono h.2.2.2.size)⟩
      refine wp_region_W (w := x1) [4] (fun w' => Box w' g10 33 #[.bool true, .bool false, .slice none 0 0, .slice none 0 0, .slice (some ⟨y38, 0, none⟩) 4 4] ∧ Row4 (fun b => 0 ≤ b ∧ b ≠ g10) w' y38 vA vB vC ⟨kl, kh, ka1, kn1, kc1, ka2, kn2, kc2, ka3, kn3, kc3⟩ [50] (List.replicate 32 0) ∧ Tab w' ∧ Below w.heap.size w w') rfl (hK4 _ _ ⟨G.out, R4.out, T9.out, B⟩ (Below.refl _ _).drew) ?_
      refine wpW_val 0 hK4 rfl (by kernel_rfl) (by kernel_rfl) (by kernel_rfl) (by kernel_rfl) rfl (fun _ _ _ _ h => h) (.pointer (some ⟨g10, 4, none⟩)) (fun w' h => by simp [go_sem]) ?_
      simp only [Act.put, List.setIfInBounds_toArray, List.set_cons_zero, List.set_cons_succ]
      refine wpW_val 1 hK4 rfl (by kernel_rfl) (by kernel_rfl) (by kernel_rfl) (by kernel_rfl) rfl (fun _ _ _ _ h => h) (.slice (some ⟨y38, 0, none⟩) 4 4) (fun w' h => by simp [go_sem, h.1.cell 4 rfl]) ?_
      simp only [Act.put, List.setIfInBounds_toArray, List.set_cons_zero, List.set_cons_succ]
      refine wpW_one 2 rfl (by kernel_rfl) (by kernel_rfl) rfl ?_
      intro t1 c1 q1
      refine wp_callR 15 #[.string ⟨#[49]⟩] (by simp [go_sem]) _ (refAtomI_any (fun b => (0 ≤ b ∧ b ≠ g10) ∧ b ≠ y38) ⟨#[49]⟩ (by decide) t1 (fun b hb => by have h1 := q1.1.lt; have h2 := q1.2.1.2.1.lt; refine ⟨⟨Nat.zero_le _, ?_⟩, ?_⟩ <;> omega)) ?_
      rintro e t2 ⟨vD, rfl, rD, c2⟩
      refine ⟨_, rfl, hK4 _ _ q1 c2, ?_⟩
      simp only [Act.put, List.setIfInBounds_toArray, List.set_cons_zero, List.set_cons_succ]
      refine wpW_val 3 hK4 rfl (by kernel_rfl) (by kernel_rfl) (by kernel_rfl) (by kernel_rfl) rfl (fun _ _ _ _ h => h) (.pointer (some ⟨y38, 10, none⟩)) (fun w' h => by simp [go_sem]) ?_
      simp only [Act.put, List.setIfInBounds_toArray, List.set_cons_zero, List.set_cons_succ]
      refine wpW_write 4 rfl (by kernel_rfl) (by kernel_rfl) rfl ?_
      intro t3 c3 q3
      replace rD := rD.after c3
      refine wp_store_mid 33 _ _ rfl y38 10 #[.bool vD.l, .bool vD.h, .slice vD.a1 vD.n1 vD.c1, .slice vD.a2 vD.n2 vD.c2, .slice vD.a3 vD.n3 vD.c3] rfl rfl q3.2.1.room (by kernel_rfl) (by simp [Value.oneCell']) ?_
      obtain ⟨R5, st5⟩ := q3.2.1.store vD [49] rD
      have G5 : Box (t3.setCells y38 10 [.bool vD.l, .bool vD.h, .slice vD.a1 vD.n1 vD.c1, .slice vD.a2 vD.n2 vD.c2, .slice vD.a3 vD.n3 vD.c3]) g10 33 #[.bool true, .bool false, .slice none 0 0, .slice none 0 0, .slice (some ⟨y38, 0, none⟩) 4 4] := (st5.other g10 (fun e => R5.1.2 e.symm)).trans q3.1
      have hy5 : w.heap.size ≤ y38 := HY
      have B5 := st5.below w.heap.size w hy5 q3.2.2.2
      have T5 : Tab _ := (HT0.out).after B5
      simp only [Act.put, List.setIfInBounds_toArray, List.set_cons_zero, List.set_cons_succ]
      change wpU _ _ _ _ _ _ _ _ (t3.setCells y38 10 [.bool vD.l, .bool vD.h, .slice vD.a1 vD.n1 vD.c1, .slice vD.a2 vD.n2 vD.c2, .slice vD.a3 vD.n3 vD.c3])
      generalize (t3.setCells y38 10 [.bool vD.l, .bool vD.h, .slice vD.a1 vD.n1 vD.c1, .slice vD.a2 vD.n2 vD.c2, .slice vD.a3 vD.n3 vD.c3]) = t5 at *
      refine wpU_done rfl (fun u5 d5 _ => ?_)
      have G6 := Lib.hid (G5.after d5)
      have R6 := Lib.hid (R5.after d5)
      have T6 := Lib.hid (T5.after d5)
      have B6 := B5.trans (d5.mono B5.size)
      clear hK4 q1 q3 st5 R5 G5 T5 B5 d5 c1 c2 c3 rD G R4 T9 B
      replace B6 : Below w.heap.size w u5 := B6
      have B := B6
      clear B6
      go_wp2_with (refine wpList_load_box rfl 33 _ rfl G6.out (by rfl) Tryd.underlying33 rfl (by kernel_rfl) ?_)
      refine (getJ_any (List.replicate 32 0) [49] ⟨true, false, none, 0, 0, none, 0, 0, some ⟨y38, 0, none⟩, 4, 4⟩ u5 (R6.out.rd.mono (fun _ _ => trivial)) (by simp) (by decide) (join_may rfl (by simp)) (joinJ_may (by simp)) T6.out).mono ?_
      rintro e wB (⟨hno, _⟩ | ⟨_, ⟨jkd, js, ja1, jn1, jc1, ja2, jn2, jc2, jk, ja3, jn3, jc3⟩, rfl, hj1, hj3, bB⟩)
      case inl =>
        rw [Sx.same_refl] at hno
        cases hno
      replace hj1 : jk = 1 := hj1
      replace hj3 : jn3 = 1 := hj3
      subst hj1 hj3
      dsimp only
      replace G6 := Lib.hid (G6.out.after bB)
      replace R6 := Lib.hid (R6.out.after bB)
      replace T6 := Lib.hid (T6.out.after bB)
      replace B := B.trans (bB.mono B.size)
      clear bB
      go_upto_region 6 with (refine wpList_store_box (cells := #[.int .u8 jkd, .bool js, .slice ja1 jn1 jc1, .slice ja2 jn2 jc2, .int .i64 1, .slice ja3 1 jc3]) rfl 28 _ _ rfl (Box.new _ _ _) (by rfl) (by rfl) rfl (by kernel_rfl) (by simp [Value.oneCell']) ?_; intro u9 X9 st9)
      have bs2 : Below wB.heap.size wB u9 := st9.below wB.heap.size wB (Nat.le_refl _) ((Below.refl _ _).alloc (Nat.le_refl _) _)
      have J := Lib.hid X9
      replace G6 := Lib.hid (G6.out.after bs2)
      replace R6 := Lib.hid (R6.out.after bs2)
      replace T6 := Lib.hid (T6.out.after bs2)
      replace B := B.trans (bs2.mono B.size)
      clear bs2 st9 X9
      generalize u9 = x2 at *
      have j4 := J.out.cell 4 rfl
      have j5 := J.out.cell 5 rfl
      go_wp2_with fail
      go_ret
      exact ⟨rfl, B⟩
  · intro z11 b11 s11
    have := s11.2.2.2.size; 
    refine wp_alloc_new 33 rfl #[.bool false, .bool false, .slice none 0 0, .slice none 0 0, .slice none 0 0] (by intro w; simp [go_sem]) ?_
    intro g10 w40 rG lg0 c40
    have lgg : x1.heap.size ≤ g10 := by omega
    refine ⟨hKS _ _ s11 c40, ?_⟩
    simp only [Act.put, List.setIfInBounds_toArray, List.set_cons_zero, List.set_cons_succ]
    clear lg0
    refine wpW_one 0 rfl (by kernel_rfl) rfl rfl ?_
    intro z41 b41 s41
    replace rG := rG.after b41
    refine wp_callR 15 #[.string ⟨#[107, 45, 111, 102, 45, 110]⟩] (by simp [go_sem]) _ (refAtomI_any (fun b => (0 ≤ b) ∧ b ≠ g10) ⟨#[107, 45, 111, 102, 45, 110]⟩ (by decide) z41 (fun b hb => by have := s41.2.2.2.size; have := rG.lt; first | omega | (refine ⟨?_, ?_⟩ <;> omega))) ?_
    rintro e w42 ⟨vA, rfl, rA, c42⟩
    replace rG := rG.after c42
    refine ⟨_, rfl, hKS _ _ s41 c42, ?_⟩
    simp only [Act.put, List.setIfInBounds_toArray, List.set_cons_zero, List.set_cons_succ]
    refine wpW_one 1 rfl (by kernel_rfl) rfl rfl ?_
    intro z43 b43 s43
    replace rG := rG.after b43
    replace rA := rA.after b43
    refine wp_callR 15 #[.string ⟨#[49]⟩] (by simp [go_sem]) _ (refAtomI_any (fun b => (0 ≤ b) ∧ b ≠ g10) ⟨#[49]⟩ (by decide) z43 (fun b hb => by have := s43.2.2.2.size; have := rG.lt; first | omega | (refine ⟨?_, ?_⟩ <;> omega))) ?_
    rintro e w44 ⟨vB, rfl, rB, c44⟩
    replace rG := rG.after c44
    replace rA := rA.after c44
    refine ⟨_, rfl, hKS _ _ s43 c44, ?_⟩
    simp only [Act.put, List.setIfInBounds_toArray, List.set_cons_zero, List.set_cons_succ]
    refine wpW_one 2 rfl (by kernel_rfl) rfl rfl ?_
    intro z45 b45 s45
    replace rG := rG.after b45
    replace rA := rA.after b45
    replace rB := rB.after b45
    refine wp_callR 15 #[.string ⟨#[50]⟩] (by simp [go_sem]) _ (refAtomI_any (fun b => (0 ≤ b) ∧ b ≠ g10) ⟨#[50]⟩ (by decide) z45 (fun b hb => by have := s45.2.2.2.size; have := rG.lt; first | omega | (refine ⟨?_, ?_⟩ <;> omega))) ?_
    rintro e w46 ⟨vC, rfl, rC, c46⟩
    replace rG := rG.after c46
    replace rA := rA.after c46
    replace rB := rB.after c46
    refine ⟨_, rfl, hKS _ _ s45 c46, ?_⟩
    simp only [Act.put, List.setIfInBounds_toArray, List.set_cons_zero, List.set_cons_succ]
    refine wpW_one 4 rfl (by kernel_rfl) rfl rfl ?_
    intro z47 b47 s47
    replace rG := rG.after b47
    replace rA := rA.after b47
    replace rB := rB.after b47
    replace rC := rC.after b47
    refine wp_of_run (.slice (some ⟨z47.heap.size, 0, none⟩) 4 4) (z47.alloc (.cells #[.bool vA.l, .bool vA.h, .slice vA.a1 vA.n1 vA.c1, .slice vA.a2 vA.n2 vA.c2, .slice vA.a3 vA.n3 vA.c3, .bool vB.l, .bool vB.h, .slice vB.a1 vB.n1 vB.c1, .slice vB.a2 vB.n2 vB.c2, .slice vB.a3 vB.n3 vB.c3, .bool vC.l, .bool vC.h, .slice vC.a1 vC.n1 vC.c1, .slice vC.a2 vC.n2 vC.c2, .slice vC.a3 vC.n3 vC.c3, .bool (⟨kl, kh, ka1, kn1, kc1, ka2, kn2, kc2, ka3, kn3, kc3⟩ : SV).l, .bool (⟨kl, kh, ka1, kn1, kc1, ka2, kn2, kc2, ka3, kn3, kc3⟩ : SV).h, .slice (⟨kl, kh, ka1, kn1, kc1, ka2, kn2, kc2, ka3, kn3, kc3⟩ : SV).a1 (⟨kl, kh, ka1, kn1, kc1, ka2, kn2, kc2, ka3, kn3, kc3⟩ : SV).n1 (⟨kl, kh, ka1, kn1, kc1, ka2, kn2, kc2, ka3, kn3, kc3⟩ : SV).c1, .slice (⟨kl, kh, ka1, kn1, kc1, ka2, kn2, kc2, ka3, kn3, kc3⟩ : SV).a2 (⟨kl, kh, ka1, kn1, kc1, ka2, kn2, kc2, ka3, kn3, kc3⟩ : SV).n2 (⟨kl, kh, ka1, kn1, kc1, ka2, kn2, kc2, ka3, kn3, kc3⟩ : SV).c2, .slice (⟨kl, kh, ka1, kn1, kc1, ka2, kn2, kc2, ka3, kn3, kc3⟩ : SV).a3 (⟨kl, kh, ka1, kn1, kc1, ka2, kn2, kc2, ka3, kn3, kc3⟩ : SV).n3 (⟨kl, kh, ka1, kn1, kc1, ka2, kn2, kc2, ka3, kn3, kc3⟩ : SV).c3] 33)) (by simp [go_sem, SV.val]) ?_
    have c48 : Below z47.heap.size z47 (z47.alloc (.cells #[.bool vA.l, .bool vA.h, .slice vA.a1 vA.n1 vA.c1, .slice vA.a2 vA.n2 vA.c2, .slice vA.a3 vA.n3 vA.c3, .bool vB.l, .bool vB.h, .slice vB.a1 vB.n1 vB.c1, .slice vB.a2 vB.n2 vB.c2, .slice vB.a3 vB.n3 vB.c3, .bool vC.l, .bool vC.h, .slice vC.a1 vC.n1 vC.c1, .slice vC.a2 vC.n2 vC.c2, .slice vC.a3 vC.n3 vC.c3, .bool (⟨kl, kh, ka1, kn1, kc1, ka2, kn2, kc2, ka3, kn3, kc3⟩ : SV).l, .bool (⟨kl, kh, ka1, kn1, kc1, ka2, kn2, kc2, ka3, kn3, kc3⟩ : SV).h, .slice (⟨kl, kh, ka1, kn1, kc1, ka2, kn2, kc2, ka3, kn3, kc3⟩ : SV).a1 (⟨kl, kh, ka1, kn1, kc1, ka2, kn2, kc2, ka3, kn3, kc3⟩ : SV).n1 (⟨kl, kh, ka1, kn1, kc1, ka2, kn2, kc2, ka3, kn3, kc3⟩ : SV).c1, .slice (⟨kl, kh, ka1, kn1, kc1, ka2, kn2, kc2, ka3, kn3, kc3⟩ : SV).a2 (⟨kl, kh, ka1, kn1, kc1, ka2, kn2, kc2, ka3, kn3, kc3⟩ : SV).n2 (⟨kl, kh, ka1, kn1, kc1, ka2, kn2, kc2, ka3, kn3, kc3⟩ : SV).c2, .slice (⟨kl, kh, ka1, kn1, kc1, ka2, kn2, kc2, ka3, kn3, kc3⟩ : SV).a3 (⟨kl, kh, ka1, kn1, kc1, ka2, kn2, kc2, ka3, kn3, kc3⟩ : SV).n3 (⟨kl, kh, ka1, kn1, kc1, ka2, kn2, kc2, ka3, kn3, kc3⟩ : SV).c3] 33)) := (Below.refl _ _).alloc (Nat.le_refl _) _
    have rL : Row4 (fun b => (0 ≤ b) ∧ b ≠ g10) (z47.alloc (.cells #[.bool vA.l, .bool vA.h, .slice vA.a1 vA.n1 vA.c1, .slice vA.a2 vA.n2 vA.c2, .slice vA.a3 vA.n3 vA.c3, .bool vB.l, .bool vB.h, .slice vB.a1 vB.n1 vB.c1, .slice vB.a2 vB.n2 vB.c2, .slice vB.a3 vB.n3 vB.c3, .bool vC.l, .bool vC.h, .slice vC.a1 vC.n1 vC.c1, .slice vC.a2 vC.n2 vC.c2, .slice vC.a3 vC.n3 vC.c3, .bool (⟨kl, kh, ka1, kn1, kc1, ka2, kn2, kc2, ka3, kn3, kc3⟩ : SV).l, .bool (⟨kl, kh, ka1, kn1, kc1, ka2, kn2, kc2, ka3, kn3, kc3⟩ : SV).h, .slice (⟨kl, kh, ka1, kn1, kc1, ka2, kn2, kc2, ka3, kn3, kc3⟩ : SV).a1 (⟨kl, kh, ka1, kn1, kc1, ka2, kn2, kc2, ka3, kn3, kc3⟩ : SV).n1 (⟨kl, kh, ka1, kn1, kc1, ka2, kn2, kc2, ka3, kn3, kc3⟩ : SV).c1, .slice (⟨kl, kh, ka1, kn1, kc1, ka2, kn2, kc2, ka3, kn3, kc3⟩ : SV).a2 (⟨kl, kh, ka1, kn1, kc1, ka2, kn2, kc2, ka3, kn3, kc3⟩ : SV).n2 (⟨kl, kh, ka1, kn1, kc1, ka2, kn2, kc2, ka3, kn3, kc3⟩ : SV).c2, .slice (⟨kl, kh, ka1, kn1, kc1, ka2, kn2, kc2, ka3, kn3, kc3⟩ : SV).a3 (⟨kl, kh, ka1, kn1, kc1, ka2, kn2, kc2, ka3, kn3, kc3⟩ : SV).n3 (⟨kl, kh, ka1, kn1, kc1, ka2, kn2, kc2, ka3, kn3, kc3⟩ : SV).c3] 33)) z47.heap.size vA vB vC ⟨kl, kh, ka1, kn1, kc1, ka2, kn2, kc2, ka3, kn3, kc3⟩ [50] (List.replicate 32 0) := ⟨(by have := s47.2.2.2.size; have := rG.lt; refine ⟨Nat.zero_le _, ?_⟩; omega), Box.new _ _ _, (rA.there.mono (fun b hb => ⟨hb.1, by have := hb.2; omega⟩)).after c48, (rB.there.mono (fun b hb => ⟨hb.1, by have := hb.2; omega⟩)).after c48, (rC.there.mono (fun b hb => ⟨hb.1, by have := hb.2; omega⟩)).after c48, (s47.2.1.there.mono (ok' := (fun b => ((fun b => (0 ≤ b) ∧ b ≠ g10)) b ∧ b ≠ z47.heap.size)) (fun b hb => ⟨by have h1 := hb.1; have h2 := hb.2; have h3 := lgg; exact ⟨Nat.zero_le _, by omega⟩, by have := hb.2; omega⟩)).after c48⟩
    replace rG := rG.after c48
    refine ⟨hKS _ _ s47 c48, ?_⟩
    simp only [Act.put, List.setIfInBounds_toArray, List.set_cons_zero, List.set_cons_succ]
    clear rA rB rC
    have HY : w.heap.size ≤ z47.heap.size := Nat.le_trans hw1 s47.2.2.2.size
    generalize z47.heap.size = y48 at *
    generalize (z47.alloc (.cells #[.bool vA.l, .bool vA.h, .slice vA.a1 vA.n1 vA.c1, .slice vA.a2 vA.n2 vA.c2, .slice vA.a3 vA.n3 vA.c3, .bool vB.l, .bool vB.h, .slice vB.a1 vB.n1 vB.c1, .slice vB.a2 vB.n2 vB.c2, .slice vB.a3 vB.n3 vB.c3, .bool vC.l, .bool vC.h, .slice vC.a1 vC.n1 vC.c1, .slice vC.a2 vC.n2 vC.c2, .slice vC.a3 vC.n3 vC.c3, .bool (⟨kl, kh, ka1, kn1, kc1, ka2, kn2, kc2, ka3, kn3, kc3⟩ : SV).l, .bool (⟨kl, kh, ka1, kn1, kc1, ka2, kn2, kc2, ka3, kn3, kc3⟩ : SV).h, .slice (⟨kl, kh, ka1, kn1, kc1, ka2, kn2, kc2, ka3, kn3, kc3⟩ : SV).a1 (⟨kl, kh, ka1, kn1, kc1, ka2, kn2, kc2, ka3, kn3, kc3⟩ : SV).n1 (⟨kl, kh, ka1, kn1, kc1, ka2, kn2, kc2, ka3, kn3, kc3⟩ : SV).c1, .slice (⟨kl, kh, ka1, kn1, kc1, ka2, kn2, kc2, ka3, kn3, kc3⟩ : SV).a2 (⟨kl, kh, ka1, kn1, kc1, ka2, kn2, kc2, ka3, kn3, kc3⟩ : SV).n2 (⟨kl, kh, ka1, kn1, kc1, ka2, kn2, kc2, ka3, kn3, kc3⟩ : SV).c2, .slice (⟨kl, kh, ka1, kn1, kc1, ka2, kn2, kc2, ka3, kn3, kc3⟩ : SV).a3 (⟨kl, kh, ka1, kn1, kc1, ka2, kn2, kc2, ka3, kn3, kc3⟩ : SV).n3 (⟨kl, kh, ka1, kn1, kc1, ka2, kn2, kc2, ka3, kn3, kc3⟩ : SV).c3] 33)) = x48 at *
    refine wpW_free 5 hKS rfl (by kernel_rfl) (by kernel_rfl) (by kernel_rfl) (by kernel_rfl) rfl (fun _ _ _ _ h => h) (.agg #[.bool true, .bool false, .slice none 0 0, .slice none 0 0, .slice (some ⟨y48, 0, none⟩) 4 4]) (fun w' => by simp [go_sem]) ?_
    simp only [Act.put, List.setIfInBounds_toArray, List.set_cons_zero, List.set_cons_succ]
    refine wpW_write 7 rfl (by kernel_rfl) (by kernel_rfl) rfl ?_
    intro z49 b49 s49
    replace rG := rG.after b49
    replace rL := rL.after b49
    refine wp_store_box 33 _ _ rfl rG (by rfl) (by rfl) rfl (by kernel_rfl) (by simp [Value.oneCell']) (cells := #[.bool true, .bool false, .slice none 0 0, .slice none 0 0, .slice (some ⟨y48, 0, none⟩) 4 4]) ?_
    intro zx Xx stx
    have RLx := rL.keep (w' := zx) (fun b hb => stx.other b hb.2)
    have Bx := stx.below x1.heap.size x1 lgg s49.2.2.2
    simp only [Act.put, List.setIfInBounds_toArray, List.set_cons_zero, List.set_cons_succ]
    refine wpU_done rfl (fun w9 b9 _ => ?_)
    have D := Bx.trans (b9.mono Bx.size)
    have T9 := Lib.hid (HT.out.after D)
    have G := Lib.hid (Xx.after b9)
    have R4 := Lib.hid (RLx.after b9)
    replace B := B.trans (D.mono B.size)
    clear hKS stx Xx RLx b9 Bx D rL s49 X HK HT
    go_wp2_with (refine wpList_load_box rfl 33 _ rfl G.out (by rfl) Tryd.underlying33 rfl (by kernel_rfl) ?_)
    refine (getJ_any (List.replicate 32 0) [50] ⟨true, false, none, 0, 0, none, 0, 0, some ⟨y48, 0, none⟩, 4, 4⟩ w9 (R4.out.rd.mono (fun _ _ => trivial)) (by simp) (by decide) (join_may rfl (by simp)) (joinJ_may (by simp)) T9.out).mono ?_
    rintro e wA (⟨_, rfl, bA⟩ | ⟨hno, _⟩)
    case inr =>
      rw [join_two] at hno
      cases hno
    replace G := Lib.hid (G.out.after bA)
    replace R4 := Lib.hid (R4.out.after bA)
    replace T9 := Lib.hid (T9.out.after bA)
    replace B := B.trans (bA.mono B.size)
    clear bA
    go_upto_region 4 with (refine wpList_store_box (cells := #[.int .u8 0, .bool false, .slice none 0 0, .slice none 0 0, .int .i64 0, .slice none 0 0]) rfl 28 _ _ rfl (Box.new _ _ _) (by rfl) (by rfl) rfl (by kernel_rfl) (by simp [Value.oneCell']) ?_; intro u9 X9 st9)
    have bs1 : Below wA.heap.size wA u9 := st9.below wA.heap.size wA (Nat.le_refl _) ((Below.refl _ _).alloc (Nat.le_refl _) _)
    have Q := Lib.hid X9
    replace G := Lib.hid (G.out.after bs1)
    replace R4 := Lib.hid (R4.out.after bs1)
    replace T9 := Lib.hid (T9.out.after bs1)
    replace B := B.trans (bs1.mono B.size)
    clear bs1 st9 X9
    generalize u9 = x1 at *
    clear Q
    have hK4 : Keeps (fun w' => Box w' g10 33 #[.bool true, .bool false, .slice none 0 0, .slice none 0 0, .slice (some ⟨y48, 0, none⟩) 4 4] ∧ Row4 (fun b => 0 ≤ b ∧ b ≠ g10) w' y48 vA vB vC ⟨kl, kh, ka1, kn1, kc1, ka2, kn2, kc2, ka3, kn3, kc3⟩ [50] (List.replicate 32 0) ∧ Tab w' ∧ Below w.heap.size w w') := fun _ _ h b => ⟨h.1.after b, h.2.1.after b, h.2.2.1.after b, h.2.2.2.trans (b.mono h.2.2.2.size)⟩
    refine wp_region_W (w := x1) [4] (fun w' => Box w' g10 33 #[.bool true, .bool false, .slice none 0 0, .slice none 0 0, .slice (some ⟨y48, 0, none⟩) 4 4] ∧ Row4 (fun b => 0 ≤ b ∧ b ≠ g10) w' y48 vA vB vC ⟨kl, kh, ka1, kn1, kc1, ka2, kn2, kc2, ka3, kn3, kc3⟩ [50] (List.replicate 32 0) ∧ Tab w' ∧ Below w.heap.size w w') rfl (hK4 _ _ ⟨G.out, R4.out, T9.out, B⟩ (Below.refl _ _).drew) ?_
    refine wpW_val 0 hK4 rfl (by kernel_rfl) (by kernel_rfl) (by kernel_rfl) (by kernel_rfl) rfl (fun _ _ _ _ h => h) (.pointer (some ⟨g10, 4, none⟩)) (fun w' h => by simp [go_sem]) ?_
    simp only [Act.put, List.setIfInBounds_toArray, List.set_cons_zero, List.set_cons_succ]
    refine wpW_val 1 hK4 rfl (by kernel_rfl) (by kernel_rfl) (by kernel_rfl) (by kernel_rfl) rfl (fun _ _ _ _ h => h) (.slice (some ⟨y48, 0, none⟩) 4 4) (fun w' h => by simp [go_sem, h.1.cell 4 rfl]) ?_
    simp only [Act.put, List.setIfInBounds_toArray, List.set_cons_zero, List.set_cons_succ]
    refine wpW_one 2 rfl (by kernel_rfl) (by kernel_rfl) rfl ?_
    intro t1 c1 q1
    refine wp_callR 15 #[.string ⟨#[49]⟩] (by simp [go_sem]) _ (refAtomI_any (fun b => (0 ≤ b ∧ b ≠ g10) ∧ b ≠ y48) ⟨#[49]⟩ (by decide) t1 (fun b hb => by have h1 := q1.1.lt; have h2 := q1.2.1.2.1.lt; refine ⟨⟨Nat.zero_le _, ?_⟩, ?_⟩ <;> omega)) ?_
    rintro e t2 ⟨vD, rfl, rD, c2⟩
    refine ⟨_, rfl, hK4 _ _ q1 c2, ?_⟩
    simp only [Act.put, List.setIfInBounds_toArray, List.set_cons_zero, List.set_cons_succ]
    refine wpW_val 3 hK4 rfl (by kernel_rfl) (by kernel_rfl) (by kernel_rfl) (by kernel_rfl) rfl (fun _ _ _ _ h => h) (.pointer (some ⟨y48, 10, none⟩)) (fun w' h => by simp [go_sem]) ?_
    simp only [Act.put, List.setIfInBounds_toArray, List.set_cons_zero, List.set_cons_succ]
    refine wpW_write 4 rfl (by kernel_rfl) (by kernel_rfl) rfl ?_
    intro t3 c3 q3
    replace rD := rD.after c3
    refine wp_store_mid 33 _ _ rfl y48 10 #[.bool vD.l, .bool vD.h, .slice vD.a1 vD.n1 vD.c1, .slice vD.a2 vD.n2 vD.c2, .slice vD.a3 vD.n3 vD.c3] rfl rfl q3.2.1.room (by kernel_rfl) (by simp [Value.oneCell']) ?_
    obtain ⟨R5, st5⟩ := q3.2.1.store vD [49] rD
    have G5 : Box (t3.setCells y48 10 [.bool vD.l, .bool vD.h, .slice vD.a1 vD.n1 vD.c1, .slice vD.a2 vD.n2 vD.c2, .slice vD.a3 vD.n3 vD.c3]) g10 33 #[.bool true, .bool false, .slice none 0 0, .slice none 0 0, .slice (some ⟨y48, 0, none⟩) 4 4] := (st5.other g10 (fun e => R5.1.2 e.symm)).trans q3.1
    have hy5 : w.heap.size ≤ y48 := HY
    have B5 := st5.below w.heap.size w hy5 q3.2.2.2
    have T5 : Tab _ := (HT0.out).after B5
    simp only [Act.put, List.setIfInBounds_toArray, List.set_cons_zero, List.set_cons_succ]
    change wpU _ _ _ _ _ _ _ _ (t3.setCells y48 10 [.bool vD.l, .bool vD.h, .slice vD.a1 vD.n1 vD.c1, .slice vD.a2 vD.n2 vD.c2, .slice vD.a3 vD.n3 vD.c3])
    generalize (t3.setCells y48 10 [.bool vD.l, .bool vD.h, .slice vD.a1 vD.n1 vD.c1, .slice vD.a2 vD.n2 vD.c2, .slice vD.a3 vD.n3 vD.c3]) = t5 at *
    refine wpU_done rfl (fun u5 d5 _ => ?_)
    have G6 := Lib.hid (G5.after d5)
    have R6 := Lib.hid (R5.after d5)
    have T6 := Lib.hid (T5.after d5)
    have B6 := B5.trans (d5.mono B5.size)
    clear hK4 q1 q3 st5 R5 G5 T5 B5 d5 c1 c2 c3 rD G R4 T9 B
    replace B6 : Below w.heap.size w u5 := B6
    have B := B6
    clear B6
    go_wp2_with (refine wpList_load_box rfl 33 _ rfl G6.out (by rfl) Tryd.underlying33 rfl (by kernel_rfl) ?_)
    refine (getJ_any (List.replicate 32 0) [49] ⟨true, false, none, 0, 0, none, 0, 0, some ⟨y48, 0, none⟩, 4, 4⟩ u5 (R6.out.rd.mono (fun _ _ => trivial)) (by simp) (by decide) (join_may rfl (by simp)) (joinJ_may (by simp)) T6.out).mono ?_
    rintro e wB (⟨hno, _⟩ | ⟨_, ⟨jkd, js, ja1, jn1, jc1, ja2, jn2, jc2, jk, ja3, jn3, jc3⟩, rfl, hj1, hj3, bB⟩)
    case inl =>
      rw [Sx.same_refl] at hno
      cases hno
    replace hj1 : jk = 1 := hj1
    replace hj3 : jn3 = 1 := hj3
    subst hj1 hj3
    dsimp only
    replace G6 := Lib.hid (G6.out.after bB)
    replace R6 := Lib.hid (R6.out.after bB)
    replace T6 := Lib.hid (T6.out.after bB)
    replace B := B.trans (bB.mono B.size)
    clear bB
    go_upto_region 6 with (refine wpList_store_box (cells := #[.int .u8 jkd, .bool js, .slice ja1 jn1 jc1, .slice ja2 jn2 jc2, .int .i64 1, .slice ja3 1 jc3]) rfl 28 _ _ rfl (Box.new _ _ _) (by rfl) (by rfl) rfl (by kernel_rfl) (by simp [Value.oneCell']) ?_; intro u9 X9 st9)
    have bs2 : Below wB.heap.size wB u9 := st9.below wB.heap.size wB (Nat.le_refl _) ((Below.refl _ _).alloc (Nat.le_refl _) _)
    have J := Lib.hid X9
    replace G6 := Lib.hid (G6.out.after bs2)
    replace R6 := Lib.hid (R6.out.after bs2)
    replace T6 := Lib.hid (T6.out.after bs2)
    replace B := B.trans (bs2.mono B.size)
    clear bs2 st9 X9
    generalize u9 = x2 at *
    have j4 := J.out.cell 4 rfl
    have j5 := J.out.cell 5 rfl
    go_wp2_with fail
    go_ret
    exact ⟨rfl, B⟩

end Go.Proofs.YthmigigclmogiaaDoor

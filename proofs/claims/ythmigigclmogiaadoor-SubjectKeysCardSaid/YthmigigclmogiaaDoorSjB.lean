/- The document's value of a public key. -/
import Derived.Test.YthmigigclmogiaaDoorSjA
namespace Go.Proofs.YthmigigclmogiaaDoor
open Go.RowKit
set_option linter.unusedSimpArgs false
set_option linter.unusedVariables false

set_option maxHeartbeats 16000000 in
set_option maxRecDepth 100000 in
theorem refVal0_any (a : Option Addr) (n c : Nat) (l : List UInt8) (w : World) (hs : Sl w a n c l) : Calls Tryd.prog 14 #[.agg #[.bool false, .slice a n c]] w (ValI (fun _ => True) (keyS false l) w) := by
  have HI := hs.inB
  have hsl := hs
  have B : Below w.heap.size w ((w.alloc (.cells #[.bool false, .slice a n c] 24)).alloc (.cells #[.bool false, .bool false, .slice none 0 0, .slice none 0 0, .slice none 0 0] 33)) := ((Below.refl _ _).alloc (Nat.le_refl _) _).alloc (by simp) _
  have X : Hid (Box ((w.alloc (.cells #[.bool false, .slice a n c] 24)).alloc (.cells #[.bool false, .bool false, .slice none 0 0, .slice none 0 0, .slice none 0 0] 33)) w.heap.size 24 #[.bool false, .slice a n c]) := Lib.hid ((Box.new _ _ _).alloc _)
  have Y : Hid (Box ((w.alloc (.cells #[.bool false, .slice a n c] 24)).alloc (.cells #[.bool false, .bool false, .slice none 0 0, .slice none 0 0, .slice none 0 0] 33)) (w.heap.size + 1) 33 #[.bool false, .bool false, .slice none 0 0, .slice none 0 0, .slice none 0 0]) := Lib.hid (by
    have := Box.new (w.alloc (.cells #[.bool false, .slice a n c] 24)) 33 #[.bool false, .bool false, .slice none 0 0, .slice none 0 0, .slice none 0 0]
    simpa using this)
  have HS := Lib.hid (hsl.after B)
  have HIB := Lib.hid HI
  clear hs hsl HI
  show Calls _ _ #[.agg #[.bool false, .slice a n c]] _ _
  go_enter Tryd.func14, Tryd.ntmps14
  go_upto_region 1 with fail
  change Code.wp _ _ _ _ ((w.alloc (.cells #[.bool false, .slice a n c] 24)).alloc (.cells #[.bool false, .bool false, .slice none 0 0, .slice none 0 0, .slice none 0 0] 33))
  generalize ((w.alloc (.cells #[.bool false, .slice a n c] 24)).alloc (.cells #[.bool false, .bool false, .slice none 0 0, .slice none 0 0, .slice none 0 0] 33)) = x0 at *
  have q1 := X.out.cell 1 rfl
  go_upto_region 2 with (refine wpList_store_box (cells := #[.bool false, .bool false, .slice none 0 0, .slice a n c, .slice none 0 0]) rfl 33 _ _ rfl (Box.new _ _ _) (by rfl) (by rfl) rfl (by kernel_rfl) (by simp [Value.oneCell']) ?_; intro u9 X9 st9)
  have bs : Below x0.heap.size x0 u9 := st9.below x0.heap.size x0 (Nat.le_refl _) ((Below.refl _ _).alloc (Nat.le_refl _) _)
  have hy0 := Y.out.lt
  have Z := Lib.hid X9
  replace X := Lib.hid (X.out.after bs)
  replace Y := Lib.hid (Y.out.after bs)
  replace HS := Lib.hid (HS.out.after bs)
  replace B := B.trans (bs.mono B.size)
  clear bs st9 X9 q1
  generalize u9 = x1 at *
  have q0 := X.out.cell 0 rfl
  go_upto_region 4 with fail
  clear q0
  have RA : RdI (fun b => b ≠ w.heap.size + 1) x1 ⟨false, false, none, 0, 0, a, n, c, none, 0, 0⟩ (.mk false false [] l []) := rd_atomI HS.out (HIB.out.imp id fun h b o s e => by have h1 := h b o s e; show b ≠ w.heap.size + 1; omega)
  obtain ⟨RB, hRB⟩ : ∃ r, r = RA.there := ⟨_, rfl⟩
  clear hRB RA HS
  have hKS : Keeps (fun w' => Box w' x0.heap.size 33 #[.bool false, .bool false, .slice none 0 0, .slice a n c, .slice none 0 0] ∧ RdI (fun b => (b ≠ w.heap.size + 1) ∧ b < x1.heap.size) w' ⟨false, false, none, 0, 0, a, n, c, none, 0, 0⟩ (.mk false false [] l []) ∧ Box w' (w.heap.size + 1) 33 #[.bool false, .bool false, .slice none 0 0, .slice none 0 0, .slice none 0 0] ∧ Below x1.heap.size x1 w') := fun _ _ h b => ⟨h.1.after b, h.2.1.after b, h.2.2.1.after b, h.2.2.2.trans (b.mono h.2.2.2.size)⟩
  refine wp_region_W (w := x1) [5] (fun w' => Box w' x0.heap.size 33 #[.bool false, .bool false, .slice none 0 0, .slice a n c, .slice none 0 0] ∧ RdI (fun b => (b ≠ w.heap.size + 1) ∧ b < x1.heap.size) w' ⟨false, false, none, 0, 0, a, n, c, none, 0, 0⟩ (.mk false false [] l []) ∧ Box w' (w.heap.size + 1) 33 #[.bool false, .bool false, .slice none 0 0, .slice none 0 0, .slice none 0 0] ∧ Below x1.heap.size x1 w') rfl (hKS _ _ ⟨Z.out, RB, Y.out, Below.refl _ _⟩ (Below.refl _ _).drew) ?_
  refine wpW_val 1 hKS rfl (by kernel_rfl) (by kernel_rfl) (by kernel_rfl) (by kernel_rfl) rfl (fun _ _ _ _ h => h) (.agg #[.bool false, .bool false, .slice none 0 0, .slice a n c, .slice none 0 0]) (fun w' h => run_load_box rfl h.1 (by rfl) Tryd.underlying33 rfl (by kernel_rfl)) ?_
  simp only [Act.put, List.setIfInBounds_toArray, List.set_cons_zero, List.set_cons_succ]
  refine wpW_two 0 4 rfl rfl (by kernel_rfl) rfl rfl rfl rfl ?_ ?_
  · intro z11 b11 s11
    refine wp_callR 15 #[.string ⟨#[101, 100, 50, 53, 53, 49, 57]⟩] (by simp [go_sem]) _ (refAtomI_any (fun b => b ≠ w.heap.size + 1) ⟨#[101, 100, 50, 53, 53, 49, 57]⟩ (by decide) z11 (fun b hb => by have := s11.2.2.2.size; have := s11.2.2.1.lt; first | omega | (refine ⟨?_, ?_⟩ <;> omega))) ?_
    rintro e w12 ⟨vA, rfl, rA, c12⟩
    refine ⟨_, rfl, hKS _ _ s11 c12, ?_⟩
    simp only [Act.put, List.setIfInBounds_toArray, List.set_cons_zero, List.set_cons_succ]
    refine wpW_two 2 4 rfl rfl (by kernel_rfl) rfl rfl rfl rfl ?_ ?_
    · intro z13 b13 s13
      replace rA := rA.after b13
      refine wp_of_run (.slice (some ⟨z13.heap.size, 0, none⟩) 2 2) (z13.alloc (.cells #[.bool vA.l, .bool vA.h, .slice vA.a1 vA.n1 vA.c1, .slice vA.a2 vA.n2 vA.c2, .slice vA.a3 vA.n3 vA.c3, .bool (⟨false, false, none, 0, 0, a, n, c, none, 0, 0⟩ : SV).l, .bool (⟨false, false, none, 0, 0, a, n, c, none, 0, 0⟩ : SV).h, .slice (⟨false, false, none, 0, 0, a, n, c, none, 0, 0⟩ : SV).a1 (⟨false, false, none, 0, 0, a, n, c, none, 0, 0⟩ : SV).n1 (⟨false, false, none, 0, 0, a, n, c, none, 0, 0⟩ : SV).c1, .slice (⟨false, false, none, 0, 0, a, n, c, none, 0, 0⟩ : SV).a2 (⟨false, false, none, 0, 0, a, n, c, none, 0, 0⟩ : SV).n2 (⟨false, false, none, 0, 0, a, n, c, none, 0, 0⟩ : SV).c2, .slice (⟨false, false, none, 0, 0, a, n, c, none, 0, 0⟩ : SV).a3 (⟨false, false, none, 0, 0, a, n, c, none, 0, 0⟩ : SV).n3 (⟨false, false, none, 0, 0, a, n, c, none, 0, 0⟩ : SV).c3] 33)) (by simp [go_sem, SV.val]) ?_
      have c14 : Below z13.heap.size z13 (z13.alloc (.cells #[.bool vA.l, .bool vA.h, .slice vA.a1 vA.n1 vA.c1, .slice vA.a2 vA.n2 vA.c2, .slice vA.a3 vA.n3 vA.c3, .bool (⟨false, false, none, 0, 0, a, n, c, none, 0, 0⟩ : SV).l, .bool (⟨false, false, none, 0, 0, a, n, c, none, 0, 0⟩ : SV).h, .slice (⟨false, false, none, 0, 0, a, n, c, none, 0, 0⟩ : SV).a1 (⟨false, false, none, 0, 0, a, n, c, none, 0, 0⟩ : SV).n1 (⟨false, false, none, 0, 0, a, n, c, none, 0, 0⟩ : SV).c1, .slice (⟨false, false, none, 0, 0, a, n, c, none, 0, 0⟩ : SV).a2 (⟨false, false, none, 0, 0, a, n, c, none, 0, 0⟩ : SV).n2 (⟨false, false, none, 0, 0, a, n, c, none, 0, 0⟩ : SV).c2, .slice (⟨false, false, none, 0, 0, a, n, c, none, 0, 0⟩ : SV).a3 (⟨false, false, none, 0, 0, a, n, c, none, 0, 0⟩ : SV).n3 (⟨false, false, none, 0, 0, a, n, c, none, 0, 0⟩ : SV).c3] 33)) := (Below.refl _ _).alloc (Nat.le_refl _) _
      have rW := row_two z13 vA (⟨false, false, none, 0, 0, a, n, c, none, 0, 0⟩ : SV) 33
      have hrw : InB (fun b => b ≠ w.heap.size + 1) (some ⟨z13.heap.size, 0, none⟩) 2 := .inr fun b o s e => by
        cases e
        have := s13.2.2.2.size; have := s13.2.2.1.lt; first | omega | (refine ⟨?_, ?_⟩ <;> omega)
      replace rA := rA.after c14
      have rL := rd_list rW hrw (ks := [(.mk false false [] [101, 100, 50, 53, 53, 49, 57] []), .mk false false [] l []]) rfl (fun i hi => match i, hi with | 0, _ => rA | 1, _ => ((s13.2.1.after c14).mono (ok' := (fun b => b ≠ w.heap.size + 1)) (fun b hb => by have h1 := hb.1; have h2 := hb.2; exact h1)))
      refine ⟨hKS _ _ s13 c14, ?_⟩
      simp only [Act.put, List.setIfInBounds_toArray, List.set_cons_zero, List.set_cons_succ]
      clear rW hrw
      generalize z13.heap.size = y14 at *
      generalize (z13.alloc (.cells #[.bool vA.l, .bool vA.h, .slice vA.a1 vA.n1 vA.c1, .slice vA.a2 vA.n2 vA.c2, .slice vA.a3 vA.n3 vA.c3, .bool (⟨false, false, none, 0, 0, a, n, c, none, 0, 0⟩ : SV).l, .bool (⟨false, false, none, 0, 0, a, n, c, none, 0, 0⟩ : SV).h, .slice (⟨false, false, none, 0, 0, a, n, c, none, 0, 0⟩ : SV).a1 (⟨false, false, none, 0, 0, a, n, c, none, 0, 0⟩ : SV).n1 (⟨false, false, none, 0, 0, a, n, c, none, 0, 0⟩ : SV).c1, .slice (⟨false, false, none, 0, 0, a, n, c, none, 0, 0⟩ : SV).a2 (⟨false, false, none, 0, 0, a, n, c, none, 0, 0⟩ : SV).n2 (⟨false, false, none, 0, 0, a, n, c, none, 0, 0⟩ : SV).c2, .slice (⟨false, false, none, 0, 0, a, n, c, none, 0, 0⟩ : SV).a3 (⟨false, false, none, 0, 0, a, n, c, none, 0, 0⟩ : SV).n3 (⟨false, false, none, 0, 0, a, n, c, none, 0, 0⟩ : SV).c3] 33)) = x14 at *
      refine wpW_free 3 hKS rfl (by kernel_rfl) (by kernel_rfl) (by kernel_rfl) (by kernel_rfl) rfl (fun _ _ _ _ h => h) (.agg #[.bool true, .bool false, .slice none 0 0, .slice none 0 0, .slice (some ⟨y14, 0, none⟩) 2 2]) (fun w' => by simp [go_sem]) ?_
      simp only [Act.put, List.setIfInBounds_toArray, List.set_cons_zero, List.set_cons_succ]
      refine wpW_one 4 rfl (by kernel_rfl) rfl rfl ?_
      intro z15 b15 s15
      replace rL := rL.after b15
      have := s15.2.2.2.size; have := s15.2.2.1.lt; 
      refine wp_alloc_new 33 rfl #[.bool false, .bool false, .slice none 0 0, .slice none 0 0, .slice none 0 0] (by intro w; simp [go_sem]) ?_
      intro g10 w16 rG lg0 c16
      have lgg : x1.heap.size ≤ g10 := by omega
      replace rL := ((rL.there).mono (ok' := (fun b => (b ≠ w.heap.size + 1) ∧ b ≠ g10)) (fun b hb => ⟨hb.1, by have := hb.2; omega⟩)).after c16
      refine ⟨hKS _ _ s15 c16, ?_⟩
      simp only [Act.put, List.setIfInBounds_toArray, List.set_cons_zero, List.set_cons_succ]
      clear lg0
      refine wpW_write 5 rfl (by kernel_rfl) (by kernel_rfl) rfl ?_
      intro z17 b17 s17
      replace rL := rL.after b17
      replace rG := rG.after b17
      have lgz : x1.heap.size ≤ z17.heap.size := s17.2.2.2.size
      refine wp_store_box 33 _ _ rfl rG (by rfl) (by rfl) rfl (by kernel_rfl) (by simp [Value.oneCell']) (cells := #[.bool true, .bool false, .slice none 0 0, .slice none 0 0, .slice (some ⟨_, 0, none⟩) 2 2]) ?_
      intro zx Xx stx
      have RLx := Lib.hid ((rL.keep (w' := zx) (fun b hb => stx.other b hb.2)).mono (ok' := (fun b => b ≠ w.heap.size + 1)) (fun b hb => hb.1))
      have Bx := stx.below x1.heap.size x1 lgg s17.2.2.2
      simp only [Act.put, List.setIfInBounds_toArray, List.set_cons_zero, List.set_cons_succ]
      refine wpU_done rfl (fun w9 b9 _ => ?_)
      have D := Bx.trans (b9.mono Bx.size)
      have B9 := B.trans (D.mono B.size)
      have Y9 := Lib.hid (Y.out.after D)
      have G9 := Lib.hid (Xx.after b9)
      have RL9 := Lib.hid (RLx.out.after b9)
      clear hKS
      clear RB Bx b9 stx Xx RLx rL
      go_upto_region 5 with fail
      have hK5 : Keeps (fun w' => Box w' g10 33 #[.bool true, .bool false, .slice none 0 0, .slice none 0 0, .slice (some ⟨y14, 0, none⟩) 2 2] ∧ RdI (fun b => (b ≠ w.heap.size + 1) ∧ b < w9.heap.size) w' ⟨true, false, none, 0, 0, none, 0, 0, some ⟨y14, 0, none⟩, 2, 2⟩ (.mk true false [] [] [(.mk false false [] [101, 100, 50, 53, 53, 49, 57] []), .mk false false [] l []]) ∧ Box w' (w.heap.size + 1) 33 #[.bool false, .bool false, .slice none 0 0, .slice none 0 0, .slice none 0 0] ∧ Below w9.heap.size w9 w') := fun _ _ h b => ⟨h.1.after b, h.2.1.after b, h.2.2.1.after b, h.2.2.2.trans (b.mono h.2.2.2.size)⟩
      refine wp_region_W (w := w9) [4] (fun w' => Box w' g10 33 #[.bool true, .bool false, .slice none 0 0, .slice none 0 0, .slice (some ⟨y14, 0, none⟩) 2 2] ∧ RdI (fun b => (b ≠ w.heap.size + 1) ∧ b < w9.heap.size) w' ⟨true, false, none, 0, 0, none, 0, 0, some ⟨y14, 0, none⟩, 2, 2⟩ (.mk true false [] [] [(.mk false false [] [101, 100, 50, 53, 53, 49, 57] []), .mk false false [] l []]) ∧ Box w' (w.heap.size + 1) 33 #[.bool false, .bool false, .slice none 0 0, .slice none 0 0, .slice none 0 0] ∧ Below w9.heap.size w9 w') rfl (hK5 _ _ ⟨G9.out, RL9.out.there, Y9.out, Below.refl _ _⟩ (Below.refl _ _).drew) ?_
      refine wpW_val 1 hK5 rfl (by kernel_rfl) (by kernel_rfl) (by kernel_rfl) (by kernel_rfl) rfl (fun _ _ _ _ h => h) (.agg #[.bool true, .bool false, .slice none 0 0, .slice none 0 0, .slice (some ⟨y14, 0, none⟩) 2 2]) (fun w' h => run_load_box rfl h.1 (by rfl) Tryd.underlying33 rfl (by kernel_rfl)) ?_
      simp only [Act.put, List.setIfInBounds_toArray, List.set_cons_zero, List.set_cons_succ]
      refine wpW_one 0 rfl (by kernel_rfl) rfl rfl ?_
      intro t11 b11 s11
      refine wp_callR 15 #[.string ⟨#[112, 117, 98, 108, 105, 99, 45, 107, 101, 121]⟩] (by simp [go_sem]) _ (refAtomI_any (fun b => b ≠ w.heap.size + 1) ⟨#[112, 117, 98, 108, 105, 99, 45, 107, 101, 121]⟩ (by decide) t11 (fun b hb => by have := s11.2.2.2.size; have := s11.2.2.1.lt; first | omega | (refine ⟨?_, ?_⟩ <;> omega))) ?_
      rintro e w12 ⟨vP, rfl, rP, c12⟩
      refine ⟨_, rfl, hK5 _ _ s11 c12, ?_⟩
      simp only [Act.put, List.setIfInBounds_toArray, List.set_cons_zero, List.set_cons_succ]
      refine wpW_one 2 rfl (by kernel_rfl) rfl rfl ?_
      intro t13 b13 s13
      replace rP := rP.after b13
      refine wp_of_run (.slice (some ⟨t13.heap.size, 0, none⟩) 2 2) (t13.alloc (.cells #[.bool vP.l, .bool vP.h, .slice vP.a1 vP.n1 vP.c1, .slice vP.a2 vP.n2 vP.c2, .slice vP.a3 vP.n3 vP.c3, .bool (⟨true, false, none, 0, 0, none, 0, 0, some ⟨y14, 0, none⟩, 2, 2⟩ : SV).l, .bool (⟨true, false, none, 0, 0, none, 0, 0, some ⟨y14, 0, none⟩, 2, 2⟩ : SV).h, .slice (⟨true, false, none, 0, 0, none, 0, 0, some ⟨y14, 0, none⟩, 2, 2⟩ : SV).a1 (⟨true, false, none, 0, 0, none, 0, 0, some ⟨y14, 0, none⟩, 2, 2⟩ : SV).n1 (⟨true, false, none, 0, 0, none, 0, 0, some ⟨y14, 0, none⟩, 2, 2⟩ : SV).c1, .slice (⟨true, false, none, 0, 0, none, 0, 0, some ⟨y14, 0, none⟩, 2, 2⟩ : SV).a2 (⟨true, false, none, 0, 0, none, 0, 0, some ⟨y14, 0, none⟩, 2, 2⟩ : SV).n2 (⟨true, false, none, 0, 0, none, 0, 0, some ⟨y14, 0, none⟩, 2, 2⟩ : SV).c2, .slice (⟨true, false, none, 0, 0, none, 0, 0, some ⟨y14, 0, none⟩, 2, 2⟩ : SV).a3 (⟨true, false, none, 0, 0, none, 0, 0, some ⟨y14, 0, none⟩, 2, 2⟩ : SV).n3 (⟨true, false, none, 0, 0, none, 0, 0, some ⟨y14, 0, none⟩, 2, 2⟩ : SV).c3] 33)) (by simp [go_sem, SV.val]) ?_
      have c14 : Below t13.heap.size t13 (t13.alloc (.cells #[.bool vP.l, .bool vP.h, .slice vP.a1 vP.n1 vP.c1, .slice vP.a2 vP.n2 vP.c2, .slice vP.a3 vP.n3 vP.c3, .bool (⟨true, false, none, 0, 0, none, 0, 0, some ⟨y14, 0, none⟩, 2, 2⟩ : SV).l, .bool (⟨true, false, none, 0, 0, none, 0, 0, some ⟨y14, 0, none⟩, 2, 2⟩ : SV).h, .slice (⟨true, false, none, 0, 0, none, 0, 0, some ⟨y14, 0, none⟩, 2, 2⟩ : SV).a1 (⟨true, false, none, 0, 0, none, 0, 0, some ⟨y14, 0, none⟩, 2, 2⟩ : SV).n1 (⟨true, false, none, 0, 0, none, 0, 0, some ⟨y14, 0, none⟩, 2, 2⟩ : SV).c1, .slice (⟨true, false, none, 0, 0, none, 0, 0, some ⟨y14, 0, none⟩, 2, 2⟩ : SV).a2 (⟨true, false, none, 0, 0, none, 0, 0, some ⟨y14, 0, none⟩, 2, 2⟩ : SV).n2 (⟨true, false, none, 0, 0, none, 0, 0, some ⟨y14, 0, none⟩, 2, 2⟩ : SV).c2, .slice (⟨true, false, none, 0, 0, none, 0, 0, some ⟨y14, 0, none⟩, 2, 2⟩ : SV).a3 (⟨true, false, none, 0, 0, none, 0, 0, some ⟨y14, 0, none⟩, 2, 2⟩ : SV).n3 (⟨true, false, none, 0, 0, none, 0, 0, some ⟨y14, 0, none⟩, 2, 2⟩ : SV).c3] 33)) := (Below.refl _ _).alloc (Nat.le_refl _) _
      have rW := row_two t13 vP (⟨true, false, none, 0, 0, none, 0, 0, some ⟨y14, 0, none⟩, 2, 2⟩ : SV) 33
      have hrw : InB (fun b => b ≠ w.heap.size + 1) (some ⟨t13.heap.size, 0, none⟩) 2 := .inr fun b o s e => by
        cases e
        have := s13.2.2.2.size; have := s13.2.2.1.lt; first | omega | (refine ⟨?_, ?_⟩ <;> omega)
      replace rP := rP.after c14
      have rM := rd_list rW hrw (ks := [(.mk false false [] [112, 117, 98, 108, 105, 99, 45, 107, 101, 121] []), .mk true false [] [] [(.mk false false [] [101, 100, 50, 53, 53, 49, 57] []), .mk false false [] l []]]) rfl (fun i hi => match i, hi with | 0, _ => rP | 1, _ => ((s13.2.1.after c14).mono (ok' := (fun b => b ≠ w.heap.size + 1)) (fun b hb => by have h1 := hb.1; have h2 := hb.2; exact h1)))
      refine ⟨hK5 _ _ s13 c14, ?_⟩
      simp only [Act.put, List.setIfInBounds_toArray, List.set_cons_zero, List.set_cons_succ]
      clear rW hrw
      generalize t13.heap.size = y14 at *
      generalize (t13.alloc (.cells #[.bool vP.l, .bool vP.h, .slice vP.a1 vP.n1 vP.c1, .slice vP.a2 vP.n2 vP.c2, .slice vP.a3 vP.n3 vP.c3, .bool (⟨true, false, none, 0, 0, none, 0, 0, some ⟨y14, 0, none⟩, 2, 2⟩ : SV).l, .bool (⟨true, false, none, 0, 0, none, 0, 0, some ⟨y14, 0, none⟩, 2, 2⟩ : SV).h, .slice (⟨true, false, none, 0, 0, none, 0, 0, some ⟨y14, 0, none⟩, 2, 2⟩ : SV).a1 (⟨true, false, none, 0, 0, none, 0, 0, some ⟨y14, 0, none⟩, 2, 2⟩ : SV).n1 (⟨true, false, none, 0, 0, none, 0, 0, some ⟨y14, 0, none⟩, 2, 2⟩ : SV).c1, .slice (⟨true, false, none, 0, 0, none, 0, 0, some ⟨y14, 0, none⟩, 2, 2⟩ : SV).a2 (⟨true, false, none, 0, 0, none, 0, 0, some ⟨y14, 0, none⟩, 2, 2⟩ : SV).n2 (⟨true, false, none, 0, 0, none, 0, 0, some ⟨y14, 0, none⟩, 2, 2⟩ : SV).c2, .slice (⟨true, false, none, 0, 0, none, 0, 0, some ⟨y14, 0, none⟩, 2, 2⟩ : SV).a3 (⟨true, false, none, 0, 0, none, 0, 0, some ⟨y14, 0, none⟩, 2, 2⟩ : SV).n3 (⟨true, false, none, 0, 0, none, 0, 0, some ⟨y14, 0, none⟩, 2, 2⟩ : SV).c3] 33)) = x14 at *
      refine wpW_free 3 hK5 rfl (by kernel_rfl) (by kernel_rfl) (by kernel_rfl) (by kernel_rfl) rfl (fun _ _ _ _ h => h) (.agg #[.bool true, .bool false, .slice none 0 0, .slice none 0 0, .slice (some ⟨y14, 0, none⟩) 2 2]) (fun w' => by simp [go_sem]) ?_
      simp only [Act.put, List.setIfInBounds_toArray, List.set_cons_zero, List.set_cons_succ]
      refine wpW_write 4 rfl (by kernel_rfl) (by kernel_rfl) rfl ?_
      intro t15 b15 s15
      replace rM := rM.after b15
      refine wp_store_box 33 _ _ rfl s15.2.2.1 (by rfl) (by rfl) rfl (by kernel_rfl) (by simp [Value.oneCell']) (cells := #[.bool true, .bool false, .slice none 0 0, .slice none 0 0, .slice (some ⟨_, 0, none⟩) 2 2]) ?_
      intro zx Xx stx
      have RLx := rM.keep (w' := zx) (fun b hb => stx.other b hb)
      have Bx := stx.below w.heap.size w (by omega) (B9.trans (s15.2.2.2.mono B9.size))
      simp only [Act.put, List.setIfInBounds_toArray, List.set_cons_zero, List.set_cons_succ]
      refine wpU_done rfl (fun w8 b8 _ => ?_)
      have B8 := Bx.trans (b8.mono Bx.size)
      have X8 := Xx.after b8
      have R8 := RLx.after b8
      go_wp2_with fail
      exact bodyPost_ret (v := .agg #[.bool true, .bool false, .slice none 0 0, .slice none 0 0, .slice (some ⟨_, 0, none⟩) 2 2]) (box_result rfl _ _ (by rfl) X8 Tryd.underlying33 rfl (by kernel_rfl)) rfl ⟨_, rfl, R8.mono (fun _ _ => trivial), B8⟩
    · intro z13 b13 s13
      replace rA := rA.after b13
      have := s13.2.2.2.size; have := s13.2.2.1.lt; 
      refine wp_alloc_new 33 rfl #[.bool false, .bool false, .slice none 0 0, .slice none 0 0, .slice none 0 0] (by intro w; simp [go_sem]) ?_
      intro g10 w18 rG lg0 c18
      have lgg : x1.heap.size ≤ g10 := by omega
      replace rA := ((rA.there).mono (ok' := (fun b => (b ≠ w.heap.size + 1) ∧ b ≠ g10)) (fun b hb => ⟨hb.1, by have := hb.2; omega⟩)).after c18
      refine ⟨hKS _ _ s13 c18, ?_⟩
      simp only [Act.put, List.setIfInBounds_toArray, List.set_cons_zero, List.set_cons_succ]
      clear lg0
      refine wpW_one 2 rfl (by kernel_rfl) rfl rfl ?_
      intro z19 b19 s19
      replace rA := rA.after b19
      replace rG := rG.after b19
      refine wp_of_run (.slice (some ⟨z19.heap.size, 0, none⟩) 2 2) (z19.alloc (.cells #[.bool vA.l, .bool vA.h, .slice vA.a1 vA.n1 vA.c1, .slice vA.a2 vA.n2 vA.c2, .slice vA.a3 vA.n3 vA.c3, .bool (⟨false, false, none, 0, 0, a, n, c, none, 0, 0⟩ : SV).l, .bool (⟨false, false, none, 0, 0, a, n, c, none, 0, 0⟩ : SV).h, .slice (⟨false, false, none, 0, 0, a, n, c, none, 0, 0⟩ : SV).a1 (⟨false, false, none, 0, 0, a, n, c, none, 0, 0⟩ : SV).n1 (⟨false, false, none, 0, 0, a, n, c, none, 0, 0⟩ : SV).c1, .slice (⟨false, false, none, 0, 0, a, n, c, none, 0, 0⟩ : SV).a2 (⟨false, false, none, 0, 0, a, n, c, none, 0, 0⟩ : SV).n2 (⟨false, false, none, 0, 0, a, n, c, none, 0, 0⟩ : SV).c2, .slice (⟨false, false, none, 0, 0, a, n, c, none, 0, 0⟩ : SV).a3 (⟨false, false, none, 0, 0, a, n, c, none, 0, 0⟩ : SV).n3 (⟨false, false, none, 0, 0, a, n, c, none, 0, 0⟩ : SV).c3] 33)) (by simp [go_sem, SV.val]) ?_
      have c20 : Below z19.heap.size z19 (z19.alloc (.cells #[.bool vA.l, .bool vA.h, .slice vA.a1 vA.n1 vA.c1, .slice vA.a2 vA.n2 vA.c2, .slice vA.a3 vA.n3 vA.c3, .bool (⟨false, false, none, 0, 0, a, n, c, none, 0, 0⟩ : SV).l, .bool (⟨false, false, none, 0, 0, a, n, c, none, 0, 0⟩ : SV).h, .slice (⟨false, false, none, 0, 0, a, n, c, none, 0, 0⟩ : SV).a1 (⟨false, false, none, 0, 0, a, n, c, none, 0, 0⟩ : SV).n1 (⟨false, false, none, 0, 0, a, n, c, none, 0, 0⟩ : SV).c1, .slice (⟨false, false, none, 0, 0, a, n, c, none, 0, 0⟩ : SV).a2 (⟨false, false, none, 0, 0, a, n, c, none, 0, 0⟩ : SV).n2 (⟨false, false, none, 0, 0, a, n, c, none, 0, 0⟩ : SV).c2, .slice (⟨false, false, none, 0, 0, a, n, c, none, 0, 0⟩ : SV).a3 (⟨false, false, none, 0, 0, a, n, c, none, 0, 0⟩ : SV).n3 (⟨false, false, none, 0, 0, a, n, c, none, 0, 0⟩ : SV).c3] 33)) := (Below.refl _ _).alloc (Nat.le_refl _) _
      have rW := row_two z19 vA (⟨false, false, none, 0, 0, a, n, c, none, 0, 0⟩ : SV) 33
      have hrw : InB (fun b => (b ≠ w.heap.size + 1) ∧ b ≠ g10) (some ⟨z19.heap.size, 0, none⟩) 2 := .inr fun b o s e => by
        cases e
        have := s19.2.2.2.size; have := s19.2.2.1.lt; have := rG.lt; first | omega | (refine ⟨?_, ?_⟩ <;> omega)
      replace rA := rA.after c20
      replace rG := rG.after c20
      have rL := rd_list rW hrw (ks := [(.mk false false [] [101, 100, 50, 53, 53, 49, 57] []), .mk false false [] l []]) rfl (fun i hi => match i, hi with | 0, _ => rA | 1, _ => ((s19.2.1.after c20).mono (ok' := (fun b => (b ≠ w.heap.size + 1) ∧ b ≠ g10)) (fun b hb => by have h1 := hb.1; have h2 := hb.2; exact ⟨h1, by omega⟩)))
      refine ⟨hKS _ _ s19 c20, ?_⟩
      simp only [Act.put, List.setIfInBounds_toArray, List.set_cons_zero, List.set_cons_succ]
      clear rW hrw
      generalize z19.heap.size = y20 at *
      generalize (z19.alloc (.cells #[.bool vA.l, .bool vA.h, .slice vA.a1 vA.n1 vA.c1, .slice vA.a2 vA.n2 vA.c2, .slice vA.a3 vA.n3 vA.c3, .bool (⟨false, false, none, 0, 0, a, n, c, none, 0, 0⟩ : SV).l, .bool (⟨false, false, none, 0, 0, a, n, c, none, 0, 0⟩ : SV).h, .slice (⟨false, false, none, 0, 0, a, n, c, none, 0, 0⟩ : SV).a1 (⟨false, false, none, 0, 0, a, n, c, none, 0, 0⟩ : SV).n1 (⟨false, false, none, 0, 0, a, n, c, none, 0, 0⟩ : SV).c1, .slice (⟨false, false, none, 0, 0, a, n, c, none, 0, 0⟩ : SV).a2 (⟨false, false, none, 0, 0, a, n, c, none, 0, 0⟩ : SV).n2 (⟨false, false, none, 0, 0, a, n, c, none, 0, 0⟩ : SV).c2, .slice (⟨false, false, none, 0, 0, a, n, c, none, 0, 0⟩ : SV).a3 (⟨false, false, none, 0, 0, a, n, c, none, 0, 0⟩ : SV).n3 (⟨false, false, none, 0, 0, a, n, c, none, 0, 0⟩ : SV).c3] 33)) = x20 at *
      refine wpW_free 3 hKS rfl (by kernel_rfl) (by kernel_rfl) (by kernel_rfl) (by kernel_rfl) rfl (fun _ _ _ _ h => h) (.agg #[.bool true, .bool false, .slice none 0 0, .slice none 0 0, .slice (some ⟨y20, 0, none⟩) 2 2]) (fun w' => by simp [go_sem]) ?_
      simp only [Act.put, List.setIfInBounds_toArray, List.set_cons_zero, List.set_cons_succ]
      refine wpW_write 5 rfl (by kernel_rfl) (by kernel_rfl) rfl ?_
      intro z21 b21 s21
      replace rG := rG.after b21
      replace rL := rL.after b21
      have lgz : x1.heap.size ≤ z21.heap.size := s21.2.2.2.size
      refine wp_store_box 33 _ _ rfl rG (by rfl) (by rfl) rfl (by kernel_rfl) (by simp [Value.oneCell']) (cells := #[.bool true, .bool false, .slice none 0 0, .slice none 0 0, .slice (some ⟨_, 0, none⟩) 2 2]) ?_
      intro zx Xx stx
      have RLx := Lib.hid ((rL.keep (w' := zx) (fun b hb => stx.other b hb.2)).mono (ok' := (fun b => b ≠ w.heap.size + 1)) (fun b hb => hb.1))
      have Bx := stx.below x1.heap.size x1 lgg s21.2.2.2
      simp only [Act.put, List.setIfInBounds_toArray, List.set_cons_zero, List.set_cons_succ]
      refine wpU_done rfl (fun w9 b9 _ => ?_)
      have D := Bx.trans (b9.mono Bx.size)
      have B9 := B.trans (D.mono B.size)
      have Y9 := Lib.hid (Y.out.after D)
      have G9 := Lib.hid (Xx.after b9)
      have RL9 := Lib.hid (RLx.out.after b9)
      clear hKS
      clear RB Bx b9 stx Xx RLx rL
      go_upto_region 5 with fail
      have hK5 : Keeps (fun w' => Box w' g10 33 #[.bool true, .bool false, .slice none 0 0, .slice none 0 0, .slice (some ⟨y20, 0, none⟩) 2 2] ∧ RdI (fun b => (b ≠ w.heap.size + 1) ∧ b < w9.heap.size) w' ⟨true, false, none, 0, 0, none, 0, 0, some ⟨y20, 0, none⟩, 2, 2⟩ (.mk true false [] [] [(.mk false false [] [101, 100, 50, 53, 53, 49, 57] []), .mk false false [] l []]) ∧ Box w' (w.heap.size + 1) 33 #[.bool false, .bool false, .slice none 0 0, .slice none 0 0, .slice none 0 0] ∧ Below w9.heap.size w9 w') := fun _ _ h b => ⟨h.1.after b, h.2.1.after b, h.2.2.1.after b, h.2.2.2.trans (b.mono h.2.2.2.size)⟩
      refine wp_region_W (w := w9) [4] (fun w' => Box w' g10 33 #[.bool true, .bool false, .slice none 0 0, .slice none 0 0, .slice (some ⟨y20, 0, none⟩) 2 2] ∧ RdI (fun b => (b ≠ w.heap.size + 1) ∧ b < w9.heap.size) w' ⟨true, false, none, 0, 0, none, 0, 0, some ⟨y20, 0, none⟩, 2, 2⟩ (.mk true false [] [] [(.mk false false [] [101, 100, 50, 53, 53, 49, 57] []), .mk false false [] l []]) ∧ Box w' (w.heap.size + 1) 33 #[.bool false, .bool false, .slice none 0 0, .slice none 0 0, .slice none 0 0] ∧ Below w9.heap.size w9 w') rfl (hK5 _ _ ⟨G9.out, RL9.out.there, Y9.out, Below.refl _ _⟩ (Below.refl _ _).drew) ?_
      refine wpW_val 1 hK5 rfl (by kernel_rfl) (by kernel_rfl) (by kernel_rfl) (by kernel_rfl) rfl (fun _ _ _ _ h => h) (.agg #[.bool true, .bool false, .slice none 0 0, .slice none 0 0, .slice (some ⟨y20, 0, none⟩) 2 2]) (fun w' h => run_load_box rfl h.1 (by rfl) Tryd.underlying33 rfl (by kernel_rfl)) ?_
      simp only [Act.put, List.setIfInBounds_toArray, List.set_cons_zero, List.set_cons_succ]
      refine wpW_one 0 rfl (by kernel_rfl) rfl rfl ?_
      intro t11 b11 s11
      refine wp_callR 15 #[.string ⟨#[112, 117, 98, 108, 105, 99, 45, 107, 101, 121]⟩] (by simp [go_sem]) _ (refAtomI_any (fun b => b ≠ w.heap.size + 1) ⟨#[112, 117, 98, 108, 105, 99, 45, 107, 101, 121]⟩ (by decide) t11 (fun b hb => by have := s11.2.2.2.size; have := s11.2.2.1.lt; first | omega | (refine ⟨?_, ?_⟩ <;> omega))) ?_
      rintro e w12 ⟨vP, rfl, rP, c12⟩
      refine ⟨_, rfl, hK5 _ _ s11 c12, ?_⟩
      simp only [Act.put, List.setIfInBounds_toArray, List.set_cons_zero, List.set_cons_succ]
      refine wpW_one 2 rfl (by kernel_rfl) rfl rfl ?_
      intro t13 b13 s13
      replace rP := rP.after b13
      refine wp_of_run (.slice (some ⟨t13.heap.size, 0, none⟩) 2 2) (t13.alloc (.cells #[.bool vP.l, .bool vP.h, .slice vP.a1 vP.n1 vP.c1, .slice vP.a2 vP.n2 vP.c2, .slice vP.a3 vP.n3 vP.c3, .bool (⟨true, false, none, 0, 0, none, 0, 0, some ⟨y20, 0, none⟩, 2, 2⟩ : SV).l, .bool (⟨true, false, none, 0, 0, none, 0, 0, some ⟨y20, 0, none⟩, 2, 2⟩ : SV).h, .slice (⟨true, false, none, 0, 0, none, 0, 0, some ⟨y20, 0, none⟩, 2, 2⟩ : SV).a1 (⟨true, false, none, 0, 0, none, 0, 0, some ⟨y20, 0, none⟩, 2, 2⟩ : SV).n1 (⟨true, false, none, 0, 0, none, 0, 0, some ⟨y20, 0, none⟩, 2, 2⟩ : SV).c1, .slice (⟨true, false, none, 0, 0, none, 0, 0, some ⟨y20, 0, none⟩, 2, 2⟩ : SV).a2 (⟨true, false, none, 0, 0, none, 0, 0, some ⟨y20, 0, none⟩, 2, 2⟩ : SV).n2 (⟨true, false, none, 0, 0, none, 0, 0, some ⟨y20, 0, none⟩, 2, 2⟩ : SV).c2, .slice (⟨true, false, none, 0, 0, none, 0, 0, some ⟨y20, 0, none⟩, 2, 2⟩ : SV).a3 (⟨true, false, none, 0, 0, none, 0, 0, some ⟨y20, 0, none⟩, 2, 2⟩ : SV).n3 (⟨true, false, none, 0, 0, none, 0, 0, some ⟨y20, 0, none⟩, 2, 2⟩ : SV).c3] 33)) (by simp [go_sem, SV.val]) ?_
      have c14 : Below t13.heap.size t13 (t13.alloc (.cells #[.bool vP.l, .bool vP.h, .slice vP.a1 vP.n1 vP.c1, .slice vP.a2 vP.n2 vP.c2, .slice vP.a3 vP.n3 vP.c3, .bool (⟨true, false, none, 0, 0, none, 0, 0, some ⟨y20, 0, none⟩, 2, 2⟩ : SV).l, .bool (⟨true, false, none, 0, 0, none, 0, 0, some ⟨y20, 0, none⟩, 2, 2⟩ : SV).h, .slice (⟨true, false, none, 0, 0, none, 0, 0, some ⟨y20, 0, none⟩, 2, 2⟩ : SV).a1 (⟨true, false, none, 0, 0, none, 0, 0, some ⟨y20, 0, none⟩, 2, 2⟩ : SV).n1 (⟨true, false, none, 0, 0, none, 0, 0, some ⟨y20, 0, none⟩, 2, 2⟩ : SV).c1, .slice (⟨true, false, none, 0, 0, none, 0, 0, some ⟨y20, 0, none⟩, 2, 2⟩ : SV).a2 (⟨true, false, none, 0, 0, none, 0, 0, some ⟨y20, 0, none⟩, 2, 2⟩ : SV).n2 (⟨true, false, none, 0, 0, none, 0, 0, some ⟨y20, 0, none⟩, 2, 2⟩ : SV).c2, .slice (⟨true, false, none, 0, 0, none, 0, 0, some ⟨y20, 0, none⟩, 2, 2⟩ : SV).a3 (⟨true, false, none, 0, 0, none, 0, 0, some ⟨y20, 0, none⟩, 2, 2⟩ : SV).n3 (⟨true, false, none, 0, 0, none, 0, 0, some ⟨y20, 0, none⟩, 2, 2⟩ : SV).c3] 33)) := (Below.refl _ _).alloc (Nat.le_refl _) _
      have rW := row_two t13 vP (⟨true, false, none, 0, 0, none, 0, 0, some ⟨y20, 0, none⟩, 2, 2⟩ : SV) 33
      have hrw : InB (fun b => b ≠ w.heap.size + 1) (some ⟨t13.heap.size, 0, none⟩) 2 := .inr fun b o s e => by
        cases e
        have := s13.2.2.2.size; have := s13.2.2.1.lt; first | omega | (refine ⟨?_, ?_⟩ <;> omega)
      replace rP := rP.after c14
      have rM := rd_list rW hrw (ks := [(.mk false false [] [112, 117, 98, 108, 105, 99, 45, 107, 101, 121] []), .mk true false [] [] [(.mk false false [] [101, 100, 50, 53, 53, 49, 57] []), .mk false false [] l []]]) rfl (fun i hi => match i, hi with | 0, _ => rP | 1, _ => ((s13.2.1.after c14).mono (ok' := (fun b => b ≠ w.heap.size + 1)) (fun b hb => by have h1 := hb.1; have h2 := hb.2; exact h1)))
      refine ⟨hK5 _ _ s13 c14, ?_⟩
      simp only [Act.put, List.setIfInBounds_toArray, List.set_cons_zero, List.set_cons_succ]
      clear rW hrw
      generalize t13.heap.size = y14 at *
      generalize (t13.alloc (.cells #[.bool vP.l, .bool vP.h, .slice vP.a1 vP.n1 vP.c1, .slice vP.a2 vP.n2 vP.c2, .slice vP.a3 vP.n3 vP.c3, .bool (⟨true, false, none, 0, 0, none, 0, 0, some ⟨y14, 0, none⟩, 2, 2⟩ : SV).l, .bool (⟨true, false, none, 0, 0, none, 0, 0, some ⟨y14, 0, none⟩, 2, 2⟩ : SV).h, .slice (⟨true, false, none, 0, 0, none, 0, 0, some ⟨y14, 0, none⟩, 2, 2⟩ : SV).a1 (⟨true, false, none, 0, 0, none, 0, 0, some ⟨y14, 0, none⟩, 2, 2⟩ : SV).n1 (⟨true, false, none, 0, 0, none, 0, 0, some ⟨y14, 0, none⟩, 2, 2⟩ : SV).c1, .slice (⟨true, false, none, 0, 0, none, 0, 0, some ⟨y14, 0, none⟩, 2, 2⟩ : SV).a2 (⟨true, false, none, 0, 0, none, 0, 0, some ⟨y14, 0, none⟩, 2, 2⟩ : SV).n2 (⟨true, false, none, 0, 0, none, 0, 0, some ⟨y14, 0, none⟩, 2, 2⟩ : SV).c2, .slice (⟨true, false, none, 0, 0, none, 0, 0, some ⟨y14, 0, none⟩, 2, 2⟩ : SV).a3 (⟨true, false, none, 0, 0, none, 0, 0, some ⟨y14, 0, none⟩, 2, 2⟩ : SV).n3 (⟨true, false, none, 0, 0, none, 0, 0, some ⟨y14, 0, none⟩, 2, 2⟩ : SV).c3] 33)) = x14 at *
      refine wpW_free 3 hK5 rfl (by kernel_rfl) (by kernel_rfl) (by kernel_rfl) (by kernel_rfl) rfl (fun _ _ _ _ h => h) (.agg #[.bool true, .bool false, .slice none 0 0, .slice none 0 0, .slice (some ⟨y14, 0, none⟩) 2 2]) (fun w' => by simp [go_sem]) ?_
      simp only [Act.put, List.setIfInBounds_toArray, List.set_cons_zero, List.set_cons_succ]
      refine wpW_write 4 rfl (by kernel_rfl) (by kernel_rfl) rfl ?_
      intro t15 b15 s15
      replace rM := rM.after b15
      refine wp_store_box 33 _ _ rfl s15.2.2.1 (by rfl) (by rfl) rfl (by kernel_rfl) (by simp [Value.oneCell']) (cells := #[.bool true, .bool false, .slice none 0 0, .slice none 0 0, .slice (some ⟨_, 0, none⟩) 2 2]) ?_
      intro zx Xx stx
      have RLx := rM.keep (w' := zx) (fun b hb => stx.other b hb)
      have Bx := stx.below w.heap.size w (by omega) (B9.trans (s15.2.2.2.mono B9.size))
      simp only [Act.put, List.setIfInBounds_toArray, List.set_cons_zero, List.set_cons_succ]
      refine wpU_done rfl (fun w8 b8 _ => ?_)
      have B8 := Bx.trans (b8.mono Bx.size)
      have X8 := Xx.after b8
      have R8 := RLx.after b8
      go_wp2_with fail
      exact bodyPost_ret (v := .agg #[.bool true, .bool false, .slice none 0 0, .slice none 0 0, .slice (some ⟨_, 0, none⟩) 2 2]) (box_result rfl _ _ (by rfl) X8 Tryd.underlying33 rfl (by kernel_rfl)) rfl ⟨_, rfl, R8.mono (fun _ _ => trivial), B8⟩
  · intro z11 b11 s11
    have := s11.2.2.2.size; have := s11.2.2.1.lt; 
    refine wp_alloc_new 33 rfl #[.bool false, .bool false, .slice none 0 0, .slice none 0 0, .slice none 0 0] (by intro w; simp [go_sem]) ?_
    intro g10 w22 rG lg0 c22
    have lgg : x1.heap.size ≤ g10 := by omega
    refine ⟨hKS _ _ s11 c22, ?_⟩
    simp only [Act.put, List.setIfInBounds_toArray, List.set_cons_zero, List.set_cons_succ]
    clear lg0
    refine wpW_one 0 rfl (by kernel_rfl) rfl rfl ?_
    intro z23 b23 s23
    replace rG := rG.after b23
    refine wp_callR 15 #[.string ⟨#[101, 100, 50, 53, 53, 49, 57]⟩] (by simp [go_sem]) _ (refAtomI_any (fun b => (b ≠ w.heap.size + 1) ∧ b ≠ g10) ⟨#[101, 100, 50, 53, 53, 49, 57]⟩ (by decide) z23 (fun b hb => by have := s23.2.2.2.size; have := s23.2.2.1.lt; have := rG.lt; first | omega | (refine ⟨?_, ?_⟩ <;> omega))) ?_
    rintro e w24 ⟨vA, rfl, rA, c24⟩
    replace rG := rG.after c24
    refine ⟨_, rfl, hKS _ _ s23 c24, ?_⟩
    simp only [Act.put, List.setIfInBounds_toArray, List.set_cons_zero, List.set_cons_succ]
    refine wpW_one 2 rfl (by kernel_rfl) rfl rfl ?_
    intro z25 b25 s25
    replace rG := rG.after b25
    replace rA := rA.after b25
    refine wp_of_run (.slice (some ⟨z25.heap.size, 0, none⟩) 2 2) (z25.alloc (.cells #[.bool vA.l, .bool vA.h, .slice vA.a1 vA.n1 vA.c1, .slice vA.a2 vA.n2 vA.c2, .slice vA.a3 vA.n3 vA.c3, .bool (⟨false, false, none, 0, 0, a, n, c, none, 0, 0⟩ : SV).l, .bool (⟨false, false, none, 0, 0, a, n, c, none, 0, 0⟩ : SV).h, .slice (⟨false, false, none, 0, 0, a, n, c, none, 0, 0⟩ : SV).a1 (⟨false, false, none, 0, 0, a, n, c, none, 0, 0⟩ : SV).n1 (⟨false, false, none, 0, 0, a, n, c, none, 0, 0⟩ : SV).c1, .slice (⟨false, false, none, 0, 0, a, n, c, none, 0, 0⟩ : SV).a2 (⟨false, false, none, 0, 0, a, n, c, none, 0, 0⟩ : SV).n2 (⟨false, false, none, 0, 0, a, n, c, none, 0, 0⟩ : SV).c2, .slice (⟨false, false, none, 0, 0, a, n, c, none, 0, 0⟩ : SV).a3 (⟨false, false, none, 0, 0, a, n, c, none, 0, 0⟩ : SV).n3 (⟨false, false, none, 0, 0, a, n, c, none, 0, 0⟩ : SV).c3] 33)) (by simp [go_sem, SV.val]) ?_
    have c26 : Below z25.heap.size z25 (z25.alloc (.cells #[.bool vA.l, .bool vA.h, .slice vA.a1 vA.n1 vA.c1, .slice vA.a2 vA.n2 vA.c2, .slice vA.a3 vA.n3 vA.c3, .bool (⟨false, false, none, 0, 0, a, n, c, none, 0, 0⟩ : SV).l, .bool (⟨false, false, none, 0, 0, a, n, c, none, 0, 0⟩ : SV).h, .slice (⟨false, false, none, 0, 0, a, n, c, none, 0, 0⟩ : SV).a1 (⟨false, false, none, 0, 0, a, n, c, none, 0, 0⟩ : SV).n1 (⟨false, false, none, 0, 0, a, n, c, none, 0, 0⟩ : SV).c1, .slice (⟨false, false, none, 0, 0, a, n, c, none, 0, 0⟩ : SV).a2 (⟨false, false, none, 0, 0, a, n, c, none, 0, 0⟩ : SV).n2 (⟨false, false, none, 0, 0, a, n, c, none, 0, 0⟩ : SV).c2, .slice (⟨false, false, none, 0, 0, a, n, c, none, 0, 0⟩ : SV).a3 (⟨false, false, none, 0, 0, a, n, c, none, 0, 0⟩ : SV).n3 (⟨false, false, none, 0, 0, a, n, c, none, 0, 0⟩ : SV).c3] 33)) := (Below.refl _ _).alloc (Nat.le_refl _) _
    have rW := row_two z25 vA (⟨false, false, none, 0, 0, a, n, c, none, 0, 0⟩ : SV) 33
    have hrw : InB (fun b => (b ≠ w.heap.size + 1) ∧ b ≠ g10) (some ⟨z25.heap.size, 0, none⟩) 2 := .inr fun b o s e => by
      cases e
      have := s25.2.2.2.size; have := s25.2.2.1.lt; have := rG.lt; first | omega | (refine ⟨?_, ?_⟩ <;> omega)
    replace rG := rG.after c26
    replace rA := rA.after c26
    have rL := rd_list rW hrw (ks := [(.mk false false [] [101, 100, 50, 53, 53, 49, 57] []), .mk false false [] l []]) rfl (fun i hi => match i, hi with | 0, _ => rA | 1, _ => ((s25.2.1.after c26).mono (ok' := (fun b => (b ≠ w.heap.size + 1) ∧ b ≠ g10)) (fun b hb => by have h1 := hb.1; have h2 := hb.2; exact ⟨h1, by omega⟩)))
    refine ⟨hKS _ _ s25 c26, ?_⟩
    simp only [Act.put, List.setIfInBounds_toArray, List.set_cons_zero, List.set_cons_succ]
    clear rW hrw
    generalize z25.heap.size = y26 at *
    generalize (z25.alloc (.cells #[.bool vA.l, .bool vA.h, .slice vA.a1 vA.n1 vA.c1, .slice vA.a2 vA.n2 vA.c2, .slice vA.a3 vA.n3 vA.c3, .bool (⟨false, false, none, 0, 0, a, n, c, none, 0, 0⟩ : SV).l, .bool (⟨false, false, none, 0, 0, a, n, c, none, 0, 0⟩ : SV).h, .slice (⟨false, false, none, 0, 0, a, n, c, none, 0, 0⟩ : SV).a1 (⟨false, false, none, 0, 0, a, n, c, none, 0, 0⟩ : SV).n1 (⟨false, false, none, 0, 0, a, n, c, none, 0, 0⟩ : SV).c1, .slice (⟨false, false, none, 0, 0, a, n, c, none, 0, 0⟩ : SV).a2 (⟨false, false, none, 0, 0, a, n, c, none, 0, 0⟩ : SV).n2 (⟨false, false, none, 0, 0, a, n, c, none, 0, 0⟩ : SV).c2, .slice (⟨false, false, none, 0, 0, a, n, c, none, 0, 0⟩ : SV).a3 (⟨false, false, none, 0, 0, a, n, c, none, 0, 0⟩ : SV).n3 (⟨false, false, none, 0, 0, a, n, c, none, 0, 0⟩ : SV).c3] 33)) = x26 at *
    refine wpW_free 3 hKS rfl (by kernel_rfl) (by kernel_rfl) (by kernel_rfl) (by kernel_rfl) rfl (fun _ _ _ _ h => h) (.agg #[.bool true, .bool false, .slice none 0 0, .slice none 0 0, .slice (some ⟨y26, 0, none⟩) 2 2]) (fun w' => by simp [go_sem]) ?_
    simp only [Act.put, List.setIfInBounds_toArray, List.set_cons_zero, List.set_cons_succ]
    refine wpW_write 5 rfl (by kernel_rfl) (by kernel_rfl) rfl ?_
    intro z27 b27 s27
    replace rG := rG.after b27
    replace rL := rL.after b27
    have lgz : x1.heap.size ≤ z27.heap.size := s27.2.2.2.size
    refine wp_store_box 33 _ _ rfl rG (by rfl) (by rfl) rfl (by kernel_rfl) (by simp [Value.oneCell']) (cells := #[.bool true, .bool false, .slice none 0 0, .slice none 0 0, .slice (some ⟨_, 0, none⟩) 2 2]) ?_
    intro zx Xx stx
    have RLx := Lib.hid ((rL.keep (w' := zx) (fun b hb => stx.other b hb.2)).mono (ok' := (fun b => b ≠ w.heap.size + 1)) (fun b hb => hb.1))
    have Bx := stx.below x1.heap.size x1 lgg s27.2.2.2
    simp only [Act.put, List.setIfInBounds_toArray, List.set_cons_zero, List.set_cons_succ]
    refine wpU_done rfl (fun w9 b9 _ => ?_)
    have D := Bx.trans (b9.mono Bx.size)
    have B9 := B.trans (D.mono B.size)
    have Y9 := Lib.hid (Y.out.after D)
    have G9 := Lib.hid (Xx.after b9)
    have RL9 := Lib.hid (RLx.out.after b9)
    clear hKS
    clear RB Bx b9 stx Xx RLx rL
    go_upto_region 5 with fail
    have hK5 : Keeps (fun w' => Box w' g10 33 #[.bool true, .bool false, .slice none 0 0, .slice none 0 0, .slice (some ⟨y26, 0, none⟩) 2 2] ∧ RdI (fun b => (b ≠ w.heap.size + 1) ∧ b < w9.heap.size) w' ⟨true, false, none, 0, 0, none, 0, 0, some ⟨y26, 0, none⟩, 2, 2⟩ (.mk true false [] [] [(.mk false false [] [101, 100, 50, 53, 53, 49, 57] []), .mk false false [] l []]) ∧ Box w' (w.heap.size + 1) 33 #[.bool false, .bool false, .slice none 0 0, .slice none 0 0, .slice none 0 0] ∧ Below w9.heap.size w9 w') := fun _ _ h b => ⟨h.1.after b, h.2.1.after b, h.2.2.1.after b, h.2.2.2.trans (b.mono h.2.2.2.size)⟩
    refine wp_region_W (w := w9) [4] (fun w' => Box w' g10 33 #[.bool true, .bool false, .slice none 0 0, .slice none 0 0, .slice (some ⟨y26, 0, none⟩) 2 2] ∧ RdI (fun b => (b ≠ w.heap.size + 1) ∧ b < w9.heap.size) w' ⟨true, false, none, 0, 0, none, 0, 0, some ⟨y26, 0, none⟩, 2, 2⟩ (.mk true false [] [] [(.mk false false [] [101, 100, 50, 53, 53, 49, 57] []), .mk false false [] l []]) ∧ Box w' (w.heap.size + 1) 33 #[.bool false, .bool false, .slice none 0 0, .slice none 0 0, .slice none 0 0] ∧ Below w9.heap.size w9 w') rfl (hK5 _ _ ⟨G9.out, RL9.out.there, Y9.out, Below.refl _ _⟩ (Below.refl _ _).drew) ?_
    refine wpW_val 1 hK5 rfl (by kernel_rfl) (by kernel_rfl) (by kernel_rfl) (by kernel_rfl) rfl (fun _ _ _ _ h => h) (.agg #[.bool true, .bool false, .slice none 0 0, .slice none 0 0, .slice (some ⟨y26, 0, none⟩) 2 2]) (fun w' h => run_load_box rfl h.1 (by rfl) Tryd.underlying33 rfl (by kernel_rfl)) ?_
    simp only [Act.put, List.setIfInBounds_toArray, List.set_cons_zero, List.set_cons_succ]
    refine wpW_one 0 rfl (by kernel_rfl) rfl rfl ?_
    intro t11 b11 s11
    refine wp_callR 15 #[.string ⟨#[112, 117, 98, 108, 105, 99, 45, 107, 101, 121]⟩] (by simp [go_sem]) _ (refAtomI_any (fun b => b ≠ w.heap.size + 1) ⟨#[112, 117, 98, 108, 105, 99, 45, 107, 101, 121]⟩ (by decide) t11 (fun b hb => by have := s11.2.2.2.size; have := s11.2.2.1.lt; first | omega | (refine ⟨?_, ?_⟩ <;> omega))) ?_
    rintro e w12 ⟨vP, rfl, rP, c12⟩
    refine ⟨_, rfl, hK5 _ _ s11 c12, ?_⟩
    simp only [Act.put, List.setIfInBounds_toArray, List.set_cons_zero, List.set_cons_succ]
    refine wpW_one 2 rfl (by kernel_rfl) rfl rfl ?_
    intro t13 b13 s13
    replace rP := rP.after b13
    refine wp_of_run (.slice (some ⟨t13.heap.size, 0, none⟩) 2 2) (t13.alloc (.cells #[.bool vP.l, .bool vP.h, .slice vP.a1 vP.n1 vP.c1, .slice vP.a2 vP.n2 vP.c2, .slice vP.a3 vP.n3 vP.c3, .bool (⟨true, false, none, 0, 0, none, 0, 0, some ⟨y26, 0, none⟩, 2, 2⟩ : SV).l, .bool (⟨true, false, none, 0, 0, none, 0, 0, some ⟨y26, 0, none⟩, 2, 2⟩ : SV).h, .slice (⟨true, false, none, 0, 0, none, 0, 0, some ⟨y26, 0, none⟩, 2, 2⟩ : SV).a1 (⟨true, false, none, 0, 0, none, 0, 0, some ⟨y26, 0, none⟩, 2, 2⟩ : SV).n1 (⟨true, false, none, 0, 0, none, 0, 0, some ⟨y26, 0, none⟩, 2, 2⟩ : SV).c1, .slice (⟨true, false, none, 0, 0, none, 0, 0, some ⟨y26, 0, none⟩, 2, 2⟩ : SV).a2 (⟨true, false, none, 0, 0, none, 0, 0, some ⟨y26, 0, none⟩, 2, 2⟩ : SV).n2 (⟨true, false, none, 0, 0, none, 0, 0, some ⟨y26, 0, none⟩, 2, 2⟩ : SV).c2, .slice (⟨true, false, none, 0, 0, none, 0, 0, some ⟨y26, 0, none⟩, 2, 2⟩ : SV).a3 (⟨true, false, none, 0, 0, none, 0, 0, some ⟨y26, 0, none⟩, 2, 2⟩ : SV).n3 (⟨true, false, none, 0, 0, none, 0, 0, some ⟨y26, 0, none⟩, 2, 2⟩ : SV).c3] 33)) (by simp [go_sem, SV.val]) ?_
    have c14 : Below t13.heap.size t13 (t13.alloc (.cells #[.bool vP.l, .bool vP.h, .slice vP.a1 vP.n1 vP.c1, .slice vP.a2 vP.n2 vP.c2, .slice vP.a3 vP.n3 vP.c3, .bool (⟨true, false, none, 0, 0, none, 0, 0, some ⟨y26, 0, none⟩, 2, 2⟩ : SV).l, .bool (⟨true, false, none, 0, 0, none, 0, 0, some ⟨y26, 0, none⟩, 2, 2⟩ : SV).h, .slice (⟨true, false, none, 0, 0, none, 0, 0, some ⟨y26, 0, none⟩, 2, 2⟩ : SV).a1 (⟨true, false, none, 0, 0, none, 0, 0, some ⟨y26, 0, none⟩, 2, 2⟩ : SV).n1 (⟨true, false, none, 0, 0, none, 0, 0, some ⟨y26, 0, none⟩, 2, 2⟩ : SV).c1, .slice (⟨true, false, none, 0, 0, none, 0, 0, some ⟨y26, 0, none⟩, 2, 2⟩ : SV).a2 (⟨true, false, none, 0, 0, none, 0, 0, some ⟨y26, 0, none⟩, 2, 2⟩ : SV).n2 (⟨true, false, none, 0, 0, none, 0, 0, some ⟨y26, 0, none⟩, 2, 2⟩ : SV).c2, .slice (⟨true, false, none, 0, 0, none, 0, 0, some ⟨y26, 0, none⟩, 2, 2⟩ : SV).a3 (⟨true, false, none, 0, 0, none, 0, 0, some ⟨y26, 0, none⟩, 2, 2⟩ : SV).n3 (⟨true, false, none, 0, 0, none, 0, 0, some ⟨y26, 0, none⟩, 2, 2⟩ : SV).c3] 33)) := (Below.refl _ _).alloc (Nat.le_refl _) _
    have rW := row_two t13 vP (⟨true, false, none, 0, 0, none, 0, 0, some ⟨y26, 0, none⟩, 2, 2⟩ : SV) 33
    have hrw : InB (fun b => b ≠ w.heap.size + 1) (some ⟨t13.heap.size, 0, none⟩) 2 := .inr fun b o s e => by
      cases e
      have := s13.2.2.2.size; have := s13.2.2.1.lt; first | omega | (refine ⟨?_, ?_⟩ <;> omega)
    replace rP := rP.after c14
    have rM := rd_list rW hrw (ks := [(.mk false false [] [112, 117, 98, 108, 105, 99, 45, 107, 101, 121] []), .mk true false [] [] [(.mk false false [] [101, 100, 50, 53, 53, 49, 57] []), .mk false false [] l []]]) rfl (fun i hi => match i, hi with | 0, _ => rP | 1, _ => ((s13.2.1.after c14).mono (ok' := (fun b => b ≠ w.heap.size + 1)) (fun b hb => by have h1 := hb.1; have h2 := hb.2; exact h1)))
    refine ⟨hK5 _ _ s13 c14, ?_⟩
    simp only [Act.put, List.setIfInBounds_toArray, List.set_cons_zero, List.set_cons_succ]
    clear rW hrw
    generalize t13.heap.size = y14 at *
    generalize (t13.alloc (.cells #[.bool vP.l, .bool vP.h, .slice vP.a1 vP.n1 vP.c1, .slice vP.a2 vP.n2 vP.c2, .slice vP.a3 vP.n3 vP.c3, .bool (⟨true, false, none, 0, 0, none, 0, 0, some ⟨y14, 0, none⟩, 2, 2⟩ : SV).l, .bool (⟨true, false, none, 0, 0, none, 0, 0, some ⟨y14, 0, none⟩, 2, 2⟩ : SV).h, .slice (⟨true, false, none, 0, 0, none, 0, 0, some ⟨y14, 0, none⟩, 2, 2⟩ : SV).a1 (⟨true, false, none, 0, 0, none, 0, 0, some ⟨y14, 0, none⟩, 2, 2⟩ : SV).n1 (⟨true, false, none, 0, 0, none, 0, 0, some ⟨y14, 0, none⟩, 2, 2⟩ : SV).c1, .slice (⟨true, false, none, 0, 0, none, 0, 0, some ⟨y14, 0, none⟩, 2, 2⟩ : SV).a2 (⟨true, false, none, 0, 0, none, 0, 0, some ⟨y14, 0, none⟩, 2, 2⟩ : SV).n2 (⟨true, false, none, 0, 0, none, 0, 0, some ⟨y14, 0, none⟩, 2, 2⟩ : SV).c2, .slice (⟨true, false, none, 0, 0, none, 0, 0, some ⟨y14, 0, none⟩, 2, 2⟩ : SV).a3 (⟨true, false, none, 0, 0, none, 0, 0, some ⟨y14, 0, none⟩, 2, 2⟩ : SV).n3 (⟨true, false, none, 0, 0, none, 0, 0, some ⟨y14, 0, none⟩, 2, 2⟩ : SV).c3] 33)) = x14 at *
    refine wpW_free 3 hK5 rfl (by kernel_rfl) (by kernel_rfl) (by kernel_rfl) (by kernel_rfl) rfl (fun _ _ _ _ h => h) (.agg #[.bool true, .bool false, .slice none 0 0, .slice none 0 0, .slice (some ⟨y14, 0, none⟩) 2 2]) (fun w' => by simp [go_sem]) ?_
    simp only [Act.put, List.setIfInBounds_toArray, List.set_cons_zero, List.set_cons_succ]
    refine wpW_write 4 rfl (by kernel_rfl) (by kernel_rfl) rfl ?_
    intro t15 b15 s15
    replace rM := rM.after b15
    refine wp_store_box 33 _ _ rfl s15.2.2.1 (by rfl) (by rfl) rfl (by kernel_rfl) (by simp [Value.oneCell']) (cells := #[.bool true, .bool false, .slice none 0 0, .slice none 0 0, .slice (some ⟨_, 0, none⟩) 2 2]) ?_
    intro zx Xx stx
    have RLx := rM.keep (w' := zx) (fun b hb => stx.other b hb)
    have Bx := stx.below w.heap.size w (by omega) (B9.trans (s15.2.2.2.mono B9.size))
    simp only [Act.put, List.setIfInBounds_toArray, List.set_cons_zero, List.set_cons_succ]
    refine wpU_done rfl (fun w8 b8 _ => ?_)
    have B8 := Bx.trans (b8.mono Bx.size)
    have X8 := Xx.after b8
    have R8 := RLx.after b8
    go_wp2_with fail
    exact bodyPost_ret (v := .agg #[.bool true, .bool false, .slice none 0 0, .slice none 0 0, .slice (some ⟨_, 0, none⟩) 2 2]) (box_result rfl _ _ (by rfl) X8 Tryd.underlying33 rfl (by kernel_rfl)) rfl ⟨_, rfl, R8.mono (fun _ _ => trivial), B8⟩

end Go.Proofs.YthmigigclmogiaaDoor

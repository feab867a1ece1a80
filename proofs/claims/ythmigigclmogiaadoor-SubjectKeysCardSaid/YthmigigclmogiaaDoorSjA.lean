/- The document's Atom. -/
import Derived.Test.YthmigigclmogiaaDoorSjM2
namespace Go.Proofs.YthmigigclmogiaaDoor
open Go.RowKit
set_option linter.unusedSimpArgs false
set_option linter.unusedVariables false

set_option maxHeartbeats 2000000 in
set_option maxRecDepth 100000 in
theorem refAtomI_any (ok : Nat → Prop) (s : ByteArray) (hs : s.size ≤ 140737488355328) (w : World) (hok : ∀ b, w.heap.size ≤ b → ok b) : Calls Tryd.prog 15 #[.string s] w (ValI ok (.mk false false [] s.data.toList []) w) := by
  have hb0 : Below w.heap.size w (w.alloc (.cells SV.nil.cells 33)) := (Below.refl _ _).alloc (Nat.le_refl _) _
  have X0 := Box.new w 33 SV.nil.cells
  go_enter Tryd.func15, Tryd.ntmps15
  go_upto_region 1 with fail
  change Code.wp _ _ _ _ (w.alloc (.cells SV.nil.cells 33))
  generalize w.alloc (.cells SV.nil.cells 33) = v0 at *
  obtain ⟨v, v1, hr, ho, hb1⟩ := conv_own v0 s hs
  obtain ⟨a, c, rfl, hsl⟩ := ho.sl
  have hown : ∀ b o s, a = some ⟨b, o, s⟩ → v0.heap.size ≤ b := fun b o s e => by subst e; exact (ho.own b rfl).1
  have X1 := Lib.hid (X0.after hb1)
  have HS := Lib.hid hsl
  have hB1 := hb0.trans (hb1.mono hb0.size)
  have hz := X0.lt
  have hsz := hb0.size
  obtain ⟨n, hn⟩ : ∃ n, n = s.data.toList.length := ⟨_, rfl⟩
  rw [← hn] at hr HS
  have HOW := Lib.hid hown
  clear X0 ho hsl hb1 hb0 hn hown
  go_wp2_with (refine wpList_store_box (cells := (SV.mk false false none 0 0 a n c none 0 0).cells) rfl 33 _ _ rfl X1.out (by rfl) (by rfl) rfl (by kernel_rfl) (SV.one _) ?_; intro v2 X2 st2)
  have hB2 := st2.below w.heap.size w (Nat.le_refl _) hB1
  have hsl2 := HS.out.keep (w' := v2) (.inr fun b o s e => st2.other b (by have := HOW.out b o s e; omega))
  exact bodyPost_ret (v := (SV.mk false false none 0 0 a n c none 0 0).val) (box_result rfl _ _ (by rfl) X2 Tryd.underlying33 rfl (by kernel_rfl)) rfl ⟨_, rfl, rd_atomI hsl2 (.inr fun b o s e => hok b (by have := HOW.out b o s e; have := hsz; omega)), hB2⟩

end Go.Proofs.YthmigigclmogiaaDoor

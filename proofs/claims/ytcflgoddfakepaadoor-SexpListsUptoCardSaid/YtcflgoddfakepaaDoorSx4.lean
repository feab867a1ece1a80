/- The document's text and Form: what they compute. -/
import Derived.Test.YtcflgoddfakepaaDoorSx3
import Derived.Test.YtcflgoddfakepaaDoorOwnG
import Derived.Test.YtcflgoddfakepaaDoorDec
namespace Go.Proofs.YtcflgoddfakepaaDoor
open Go.RowKit

/-- bytes with their length -/
def textL (l : List UInt8) : List UInt8 := numL l.length ++ 58 :: l
theorem textL_len (l : List UInt8) (h : l.length ≤ 9223372036854775807) : (textL l).length ≤ l.length + 20 := by
  have := numL_len (l.length : Int) (by omega)
  simp only [textL, List.length_append, List.length_cons]
  omega
mutual
/-- the canonical form -/
def Sx.form : Sx → List UInt8
  | .mk l h hi da ks => if l then 40 :: (Sx.formL ks ++ [41]) else (if h then 91 :: (textL hi ++ [93]) else []) ++ textL da
def Sx.formL : List Sx → List UInt8
  | [] => []
  | k :: r => k.form ++ Sx.formL r
end
theorem Sx.formL_append (a b : List Sx) : Sx.formL (a ++ b) = Sx.formL a ++ Sx.formL b := by
  induction a with
  | nil => rfl
  | cons k a ih => simp only [List.cons_append, Sx.formL, ih, List.append_assoc]
theorem Sx.formL_snoc (ks : List Sx) (k : Nat) (h : k < ks.length) : Sx.formL (ks.take (k + 1)) = Sx.formL (ks.take k) ++ ks[k].form := by
  rw [List.take_succ_eq_append_getElem h, Sx.formL_append]
  simp [Sx.formL]
theorem form_def (l h : Bool) (hi da : List UInt8) (ks : List Sx) : (Sx.mk l h hi da ks).form = if l then 40 :: (Sx.formL ks ++ [41]) else (if h then 91 :: (textL hi ++ [93]) else []) ++ textL da := by simp only [Sx.form]
theorem Sx.formL_take (ks : List Sx) (k : Nat) : (Sx.formL (ks.take k)).length ≤ (Sx.formL ks).length := by
  conv => rhs; rw [← List.take_append_drop k ks, Sx.formL_append]
  simp
theorem Sx.formL_mem {ks : List Sx} {k : Sx} (h : k ∈ ks) : k.form.length ≤ (Sx.formL ks).length := by
  induction ks with
  | nil => cases h
  | cons a r ih => rcases List.mem_cons.1 h with rfl | h
                   · simp only [Sx.formL, List.length_append]; omega
                   · have := ih h; simp only [Sx.formL, List.length_append]; omega

/-- bytes of the call's own are handed back -/
def OutP (l : List UInt8) (w : World) (e : Ending) (w' : World) : Prop := ∃ v, e = .returned v ∧ OwnB w' w.heap.size v l ∧ Below w.heap.size w w'

theorem below_grown {B : Nat} {w0 w w' : World} {row : Option Nat} (h : Below B w0 w) (hg : w.grownBy w' row) (hrow : ∀ k, row = some k → B ≤ k) (hB : B ≤ w.heap.size) : Below B w0 w' :=
  h.grown hg hB hrow

set_option maxHeartbeats 1000000 in
set_option maxRecDepth 100000 in
theorem refText_any (a : Option Addr) (n c : Nat) (l : List UInt8) (w : World) (hs : Sl w a n c l) (hn : n ≤ 70368744177664) :
    Calls Tryd.prog 34 #[.slice a n c] w (OutP (textL l) w) := by
  have hl := hs.1
  have HS := Lib.hid hs
  have HL := Lib.hid hl
  have hk := numL_len (n : Int) (by omega)
  obtain ⟨d, hd⟩ : ∃ d, d = numL n := ⟨_, rfl⟩
  rw [← hd] at hk
  have HD := Lib.hid hd
  clear hs hl hd
  go_enter Tryd.func34, Tryd.ntmps34
  go_wp2_with fail
  refine (dec_any n n (by omega) (by omega) _).mono ?_
  rintro e w1 ⟨rfl, hb1⟩
  rw [← HD.out]
  obtain ⟨v2, w2, hcv, ho2, hb2⟩ := conv_own w1 ⟨d.toArray⟩ (by simp [ByteArray.size]; omega)
  have HO2 := Lib.hid ho2
  have hB2 := hb1.trans (hb2.mono hb1.size)
  have z1 := hb1.size
  have z2 := hb2.size
  clear ho2
  go_upto_region 2 with (refine wpList_append_B rfl _ _ rfl (l := d) rfl (OwnG.alloc HO2.out _) (l2 := [58]) rfl (sl_cell1 _ 58 _ rfl) (by simp; omega) (by simp; omega) ?_; intro v3 w3 ho3 hg3)
  have hB3 := below_grown (hB2.alloc (by omega) _) hg3 (fun k hk => Nat.le_trans z1 ((OwnG.lt HO2.out) k hk).1) (by simp; omega)
  have HO3 := Lib.hid ho3
  have z3 := hg3.size
  simp only [World.size_alloc] at z3
  clear ho3 hg3
  go_wp2_with (refine wpList_append_B rfl _ _ rfl rfl HO3.out (l2 := l) rfl (HS.out.after hB3) (by simp; omega) (by omega) ?_; intro v4 w4 ho4 hg4)
  have hB4 := below_grown hB3 hg4 (fun k hk => Nat.le_trans z1 ((OwnG.lt HO3.out) k hk).1) (by omega)
  go_ret
  refine ⟨v4, rfl, ?_, hB4⟩
  have := OwnB.le ho4 z1
  rwa [show d ++ [58] ++ l = textL l by unfold textL; rw [HD.out, HL.out]; simp] at this
end Go.Proofs.YtcflgoddfakepaaDoor

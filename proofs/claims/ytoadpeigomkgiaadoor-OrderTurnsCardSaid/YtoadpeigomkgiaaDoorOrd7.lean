/- Clone, own, tighter, Empty, inside, Within of the program: what they compute. -/
import Derived.Test.YtoadpeigomkgiaaDoorOrd6
namespace Go.Proofs.YtoadpeigomkgiaaDoor
open Go.RowKit

theorem ordInfo5 : (Tryd.prog.info? 5).map (fun i => (i.zero, i.size, i.bytes)) = some (some (.int .u8 0), 1, 1) := by kernel_rfl
theorem Sl.other {w w' : World} {a : Option Addr} {n c : Nat} {l : List UInt8} (h : Sl w a n c l) (hb : ∀ b o, a = Option.some ⟨b, o, none⟩ → w'.heap[b]? = w.heap[b]?) : Sl w' a n c l := by
  obtain ⟨h1, h2, h3, h5, h4⟩ := h
  refine ⟨h1, h2, h3, h5, ?_⟩
  rcases h4 with h4 | ⟨b, o, e, h4⟩
  · exact .inl h4
  · exact .inr ⟨b, o, e, fun i hi => (World.cell?_of_block (hb b o e)).trans (h4 i hi)⟩
theorem Sl.setCell {w : World} {a : Option Addr} {n c : Nat} {l : List UInt8} (h : Sl w a n c l) (A : Addr) (v : Value) (hne : ∀ b o, a = Option.some ⟨b, o, none⟩ → b ≠ A.block) : Sl (w.setCell A v) a n c l :=
  h.other fun b o e => heap_setCell_other _ _ _ _ (hne b o e)
theorem Sl.stored {w w' : World} {g : Nat} {a : Option Addr} {n c : Nat} {l : List UInt8} (h : Sl w a n c l) (st : Stored w w' g) (hne : ∀ b o, a = Option.some ⟨b, o, none⟩ → b ≠ g) : Sl w' a n c l :=
  h.other fun b o e => st.other b (hne b o e)
theorem box_at {W : World} {g : Nat} {T : TypeId} {cs : Array Value} (h : g = W.heap.size) : Box (W.alloc (.cells cs T)) g T cs := by subst h; exact Box.new _ _ _
/-- in memory of the call's own -/
def Own (B : Nat) (a : Option Addr) : Prop := ∀ b o, a = some ⟨b, o, none⟩ → B ≤ b
theorem Own.ne {B : Nat} {a : Option Addr} (h : Own B a) {g : Nat} (hg : g < B) : ∀ b o, a = some ⟨b, o, none⟩ → b ≠ g := fun b o e hb => by have := h b o e; omega
theorem Own.le {B B' : Nat} {a : Option Addr} (h : Own B a) (hB : B' ≤ B) : Own B' a := fun b o e => Nat.le_trans hB (h b o e)
def SlP (l : List UInt8) (w : World) (e : Ending) (w' : World) : Prop := ∃ a' n' c', e = .returned (.slice a' n' c') ∧ Sl w' a' n' c' l ∧ Own w.heap.size a' ∧ Below w.heap.size w w'

set_option maxHeartbeats 2000000 in
set_option maxRecDepth 100000 in
theorem clone_any (xa : Option Addr) (xn xc : Nat) (xl : List UInt8) (w : World) (Sx : Sl w xa xn xc xl) (Nx : xn ≤ 200) :
    Calls Tryd.prog 49 #[.slice xa xn xc] w (SlP xl w) := by
  cases xa with
  | none =>
    have hc := Sx.2.2.2.1 rfl
    have hle := Sx.2.1
    have hl := Sx.1
    have e : xl = [] := List.eq_nil_of_length_eq_zero (by omega)
    obtain rfl : xn = 0 := by omega
    subst hc e
    clear hle hl
    have hnn : ∀ W, (binOp .eql 22 (.slice none 0 0) (.slice none 0 0)).run Tryd.prog W = .ok (.bool true) W := fun _ => rfl
    go_enter Tryd.func49, Tryd.ntmps49
    go_wp2_with fail
    go_ret
    exact ⟨none, 0, 0, rfl, ⟨rfl, Nat.le_refl _, Nat.zero_le _, fun _ => rfl, .inl rfl⟩, (fun _ _ h => by cases h), Below.refl _ _⟩
  | some ad =>
    obtain ⟨i0, hi, hi2⟩ := Option.map_eq_some_iff.1 ordInfo5
    simp only [Prod.mk.injEq] at hi2
    obtain ⟨hz0, hz1, hz2⟩ := hi2
    have hown : (w.alloc (.cells #[] 5)).ownsRow w.heap.size 5 1 (.slice (some ⟨w.heap.size, 0, none⟩) 0 0) 0 (Lib.byteCells []) :=
      World.ownsRow_lit (base := w.heap.size) (size := 1) (e := 5) w #[] 0 (Nat.le_refl _) (Nat.zero_le _) rfl
    have hb0 : Below w.heap.size w (w.alloc (.cells #[] 5)) := (Below.refl _ _).alloc (Nat.le_refl _) _
    have hs0 := Sx.after hb0
    have hnn : ∀ W, (binOp .eql 22 (.slice (some ad) xn xc) (.slice none 0 0)).run Tryd.prog W = .ok (.bool false) W := fun _ => rfl
    go_enter Tryd.func49, Tryd.ntmps49
    go_wp2_with (at_builtin; refine wpList_append_sl rfl (.tmp 5) (.tmp 6) 22 rfl w.heap.size 5 i0 Tryd.underlying22 hi hz0 hz1 hz2 _ 0 [] rfl hown _ xn xc xl rfl hs0 (by omega) (by simp) ?_; intro v2 w2 hown2 hg2)
    go_ret
    rw [Nat.zero_add, List.nil_append] at hown2
    obtain ⟨a', c', rfl, hs⟩ := Sl.ofOwns hown2
    exact ⟨a', xn, c', rfl, hs, (fun b o e => by
      subst e
      exact (hown2.lt b rfl).1), hb0.grown hg2 (by simp) (by intro k hk; cases hk; exact Nat.le_refl _)⟩

def BdP (i o : Bool) (l : List UInt8) (w : World) (e : Ending) (w' : World) : Prop := ∃ a' n' c', e = .returned (.agg #[.bool i, .bool o, .slice a' n' c']) ∧ Sl w' a' n' c' l ∧ Own w.heap.size a' ∧ Below w.heap.size w w'

set_option maxHeartbeats 4000000 in
set_option maxRecDepth 100000 in
theorem own_any (xi xo : Bool) (xa : Option Addr) (xn xc : Nat) (xl : List UInt8) (w : World) (Sx : Sl w xa xn xc xl) (Nx : xn ≤ 200) :
    Calls Tryd.prog 36 #[.agg #[.bool xi, .bool xo, .slice xa xn xc]] w (BdP xi xo xl w) := by
  have hb0 : Below w.heap.size w ((w.alloc (.cells #[.bool xi, .bool xo, .slice xa xn xc] 29)).alloc (.cells #[.bool false, .bool false, .slice none 0 0] 29)) := ((Below.refl _ _).alloc (Nat.le_refl _) _).alloc (by simp) _
  have hs0 := Sx.after hb0
  have B0 : Box ((w.alloc (.cells #[.bool xi, .bool xo, .slice xa xn xc] 29)).alloc (.cells #[.bool false, .bool false, .slice none 0 0] 29)) w.heap.size 29 #[.bool xi, .bool xo, .slice xa xn xc] := (Box.new _ _ _).alloc _
  have B1 : Box ((w.alloc (.cells #[.bool xi, .bool xo, .slice xa xn xc] 29)).alloc (.cells #[.bool false, .bool false, .slice none 0 0] 29)) (w.heap.size + 1) 29 #[.bool false, .bool false, .slice none 0 0] := by
    have := Box.new (w.alloc (.cells #[.bool xi, .bool xo, .slice xa xn xc] 29)) 29 #[.bool false, .bool false, .slice none 0 0]
    simpa using this
  go_enter Tryd.func36, Tryd.ntmps36
  go_wp2_with fail
  refine (clone_any _ _ _ _ _ hs0 Nx).mono ?_
  rintro e w1 ⟨a', n', c', rfl, hs1, ho1, hb1⟩
  have hW := hb0.trans (hb1.mono hb0.size)
  have C0 := B0.after hb1
  have C1 := B1.after hb1
  have hne : w.heap.size + 1 ≠ w.heap.size := by omega
  have D0 := C0.set 2 (.slice a' n' c')
  have D1 := C1.far ⟨w.heap.size, 2, none⟩ (.slice a' n' c') hne
  have hD := hW.setCell (p := (⟨w.heap.size, 2, none⟩ : Addr)) (Nat.le_refl _) (.slice a' n' c')
  have k0 := C0.cell 0 rfl
  have k1 := C0.cell 1 rfl
  have k2 := C0.cell 2 rfl
  have f2 := C0.frozen 2
  have f1 := C1.frozen 0
  have f11 := C1.frozen 1
  have f12 := C1.frozen 2
  have l0 := C1.cell 0 rfl
  have l1 := C1.cell 1 rfl
  have l2 := C1.cell 2 rfl
  have ho2 : Own (w.heap.size + 2) a' := ho1.le (by simp)
  go_wp2_with fail
  have E1 := ((D1.set 0 (.bool xi)).set 1 (.bool xo)).set 2 (.slice a' n' c')
  refine bodyPost_ret (box_result Tryd.results36 _ _ rfl E1 Tryd.underlying29 rfl (by kernel_rfl)) rfl ⟨a', n', c', rfl, ?_, ho2.le (by omega), ?_⟩
  · exact (((hs1.setCell _ _ (ho2.ne (by simp))).setCell _ _ (ho2.ne (by simp))).setCell _ _ (ho2.ne (by simp))).setCell _ _ (ho2.ne (by simp))
  · exact ((hD.setCell (by simp) _).setCell (by simp) _).setCell (by simp) _

set_option maxHeartbeats 8000000 in
set_option maxRecDepth 100000 in
theorem tighter_any (o : Nat) (xi xo : Bool) (xa : Option Addr) (xn xc : Nat) (xl : List UInt8) (yi yo : Bool) (ya : Option Addr) (yn yc : Nat) (yl : List UInt8) (t : Int) (ht : t = 1 ∨ t = -1) (w : World) (Sx : Sl w xa xn xc xl) (Nx : xn ≤ 200) (Sy : Sl w ya yn yc yl) (Ny : yn ≤ 200) :
    Calls Tryd.prog 37 #[.int .u8 o, .agg #[.bool xi, .bool xo, .slice xa xn xc], .agg #[.bool yi, .bool yo, .slice ya yn yc], .int .i64 t] w fun e w' => e = .returned (if yB o ⟨xi, xo, xl⟩ ⟨yi, yo, yl⟩ t then .agg #[.bool yi, .bool yo, .slice ya yn yc] else .agg #[.bool xi, .bool xo, .slice xa xn xc]) ∧ Below w.heap.size w w' := by
  have hb0 : Below w.heap.size w (((w.alloc (.cells #[.bool xi, .bool xo, .slice xa xn xc] 29)).alloc (.cells #[.bool yi, .bool yo, .slice ya yn yc] 29)).alloc (.cells #[.bool false, .bool false, .slice none 0 0] 29)) := (((Below.refl _ _).alloc (Nat.le_refl _) _).alloc (by simp) _).alloc (by simp; omega) _
  have hs0 := Sx.after hb0
  have hs1 := Sy.after hb0
  have B5 : Box (((w.alloc (.cells #[.bool xi, .bool xo, .slice xa xn xc] 29)).alloc (.cells #[.bool yi, .bool yo, .slice ya yn yc] 29)).alloc (.cells #[.bool false, .bool false, .slice none 0 0] 29)) w.heap.size 29 #[.bool xi, .bool xo, .slice xa xn xc] := ((Box.new _ _ _).alloc _).alloc _
  have B6 : Box (((w.alloc (.cells #[.bool xi, .bool xo, .slice xa xn xc] 29)).alloc (.cells #[.bool yi, .bool yo, .slice ya yn yc] 29)).alloc (.cells #[.bool false, .bool false, .slice none 0 0] 29)) (w.heap.size + 1) 29 #[.bool yi, .bool yo, .slice ya yn yc] := by
    have := (Box.new (w.alloc (.cells #[.bool xi, .bool xo, .slice xa xn xc] 29)) 29 #[.bool yi, .bool yo, .slice ya yn yc]).alloc (.cells #[.bool false, .bool false, .slice none 0 0] 29)
    simpa using this
  have B8 : Box (((w.alloc (.cells #[.bool xi, .bool xo, .slice xa xn xc] 29)).alloc (.cells #[.bool yi, .bool yo, .slice ya yn yc] 29)).alloc (.cells #[.bool false, .bool false, .slice none 0 0] 29)) (w.heap.size + 2) 29 #[.bool false, .bool false, .slice none 0 0] := by
    have := Box.new ((w.alloc (.cells #[.bool xi, .bool xo, .slice xa xn xc] 29)).alloc (.cells #[.bool yi, .bool yo, .slice ya yn yc] 29)) 29 #[.bool false, .bool false, .slice none 0 0]
    simpa using this
  cases yi
  · have q : yB o ⟨xi, xo, xl⟩ ⟨false, yo, yl⟩ t = false := rfl
    rw [q]
    go_enter Tryd.func37, Tryd.ntmps37
    go_wp2_with fail
    exact bodyPost_ret (box_result Tryd.results37 _ _ rfl (box_at (by simp)) Tryd.underlying29 rfl (by kernel_rfl)) rfl ⟨rfl, (((Below.refl _ _).alloc (Nat.le_refl _) _).alloc (by simp) _).alloc (by simp; omega) _⟩
  · cases xi
    · have q : yB o ⟨false, xo, xl⟩ ⟨true, yo, yl⟩ t = true := rfl
      rw [q]
      go_enter Tryd.func37, Tryd.ntmps37
      go_wp2_with fail
      exact bodyPost_ret (box_result Tryd.results37 _ _ rfl (box_at (by simp)) Tryd.underlying29 rfl (by kernel_rfl)) rfl ⟨rfl, (((Below.refl _ _).alloc (Nat.le_refl _) _).alloc (by simp) _).alloc (by simp; omega) _⟩
    · have h3 := cV_three o yl xl
      obtain ⟨C, hC⟩ : ∃ C, C = cV o yl xl := ⟨_, rfl⟩
      have q : yB o ⟨true, xo, xl⟩ ⟨true, yo, yl⟩ t = (decide (0 < t * C) || (decide (C = 0) && yo && !xo)) := by rw [hC]; rfl
      rw [q]
      rw [← hC] at h3
      have HC := Lib.hid hC
      have kB : ∀ j v W, Below w.heap.size w W → Below w.heap.size w (W.setCell ⟨w.heap.size + 1 + 1, j, none⟩ v) := fun j v W h => h.setCell (by dsimp only; omega) v
      clear hC q
      rcases h3 with rfl | rfl | rfl <;> rcases ht with rfl | rfl <;> cases xo <;> cases yo
      all_goals
        go_enter Tryd.func37, Tryd.ntmps37
        go_wp2_with fail
        refine (compare_any _ _ _ _ _ _ _ _ _ _ hs1 hs0 Ny Nx).mono ?_
        rintro e w1 ⟨rfl, hb1⟩
        rw [← HC.out]
        have hW := hb0.trans (hb1.mono hb0.size)
        have C5 := B5.after hb1
        have C6 := B6.after hb1
        have C8 := B8.after hb1
        have c0 := C5.cell 0 rfl
        have c1 := C5.cell 1 rfl
        have c2 := C5.cell 2 rfl
        have d0 := C6.cell 0 rfl
        have d1 := C6.cell 1 rfl
        have d2 := C6.cell 2 rfl
        have e0 := C8.cell 0 rfl
        have e1 := C8.cell 1 rfl
        have e2 := C8.cell 2 rfl
        have f0 := C8.frozen 0
        have f1 := C8.frozen 1
        have f2 := C8.frozen 2
        go_wp2_with fail
        exact bodyPost_ret (box_result Tryd.results37 _ _ rfl (((C8.set 0 _).set 1 _).set 2 _) Tryd.underlying29 rfl (by kernel_rfl)) rfl ⟨rfl, kB _ _ _ (kB _ _ _ (kB _ _ _ hW))⟩

end Go.Proofs.YtoadpeigomkgiaaDoor

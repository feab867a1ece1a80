import Derived.Test.YtmmkaclmgnpplaaGreatDoorMz14
set_option maxRecDepth 100000
set_option maxHeartbeats 64000000
set_option linter.unusedSimpArgs false
set_option linter.unusedVariables false
namespace Go.Proofs.YtmmkaclmgnpplaaGreatDoor
open Go.RowKit
theorem vW : (Tryz.prog.info? 5).map (fun i => (i.zero, i.size, i.bytes)) = some (some (.int .u8 0), 1, 1) := by kernel_rfl
theorem Sl.other {w w' : World} {a : Option Addr} {n c : Nat} {l : List UInt8} (h : Sl w a n c l) (hb : ∀ b o, a = Option.some ⟨b, o, none⟩ → w'.heap[b]? = w.heap[b]?) : Sl w' a n c l := by
 obtain ⟨h1, h2, h3, h5, h4⟩ := h
 refine ⟨h1, h2, h3, h5, ?_⟩
 rcases h4 with h4 | ⟨b, o, e, h4⟩
 ·exact .inl h4
 ·exact .inr ⟨b, o, e, fun i hi => (World.cell?_of_block (hb b o e)).trans (h4 i hi)⟩
theorem Sl.setCell {w : World} {a : Option Addr} {n c : Nat} {l : List UInt8} (h : Sl w a n c l) (A : Addr) (v : Value) (gj : ∀ b o, a = Option.some ⟨b, o, none⟩ → b ≠ A.block) : Sl (w.setCell A v) a n c l :=
 h.other fun b o e => heap_setCell_other _ _ _ _ (gj b o e)
theorem Sl.stored {w w' : World} {g : Nat} {a : Option Addr} {n c : Nat} {l : List UInt8} (h : Sl w a n c l) (st : Stored w w' g) (gj : ∀ b o, a = Option.some ⟨b, o, none⟩ → b ≠ g) : Sl w' a n c l :=
 h.other fun b o e => st.other b (gj b o e)
theorem mE {W : World} {g : Nat} {T : TypeId} {cs : Array Value} (h : g = W.heap.size) : Box (W.alloc (.cells cs T)) g T cs := by subst h; exact Box.new _ _ _
def Own (B : Nat) (a : Option Addr) : Prop := ∀ b o, a = some ⟨b, o, none⟩ → B ≤ b
theorem Own.ne {B : Nat} {a : Option Addr} (h : Own B a) {g : Nat} (hg : g < B) : ∀ b o, a = some ⟨b, o, none⟩ → b ≠ g := fun b o e hb => by have := h b o e; omega
theorem Own.le {B B' : Nat} {a : Option Addr} (h : Own B a) (hB : B' ≤ B) : Own B' a := fun b o e => Nat.le_trans hB (h b o e)
def SlP (l : List UInt8) (w : World) (e : Ending) (w' : World) : Prop := ∃ a' n' c', e = .returned (.slice a' n' c') ∧ Sl w' a' n' c' l ∧ Own w.heap.size a' ∧ Below w.heap.size w w'
theorem uV (xa : Option Addr) (xn xc : Nat) (xl : List UInt8) (w : World) (Sx : Sl w xa xn xc xl) (Nx : xn ≤ 6000) :
  Calls Tryz.prog 157 #[.slice xa xn xc] w (SlP xl w) := by
 cases xa with
 | none =>
  have hc := Sx.2.2.2.1 rfl
  have td := Sx.2.1
  have hl := Sx.1
  have e : xl = [] := List.eq_nil_of_length_eq_zero (by omega)
  obtain rfl : xn = 0 := by omega
  subst hc e
  clear td hl
  have ly : ∀ W, (binOp .eql 22 (.slice none 0 0) (.slice none 0 0)).run Tryz.prog W = .ok (.bool true) W := fun _ => rfl
  go_enter Tryz.func157, Tryz.ntmps157
  go_wp2_with fail
  go_ret
  exact ⟨none, 0, 0, rfl, ⟨rfl, Nat.le_refl _, Nat.zero_le _, fun _ => rfl, .inl rfl⟩, (fun _ _ h => by cases h), Below.refl _ _⟩
 | some ad =>
  obtain ⟨i0, hi, o5⟩ := Option.map_eq_some_iff.1 vW
  simp only [Prod.mk.injEq] at o5
  obtain ⟨mg, uj, m3⟩ := o5
  have iX : (w.alloc (.cells #[] 5)).ownsRow w.heap.size 5 1 (.slice (some ⟨w.heap.size, 0, none⟩) 0 0) 0 (Lib.byteCells []) :=
   World.ownsRow_lit (base := w.heap.size) (size := 1) (e := 5) w #[] 0 (Nat.le_refl _) (Nat.zero_le _) rfl
  have au : Below w.heap.size w (w.alloc (.cells #[] 5)) := (Below.refl _ _).alloc (Nat.le_refl _) _
  have yH := Sx.after au
  have ly : ∀ W, (binOp .eql 22 (.slice (some ad) xn xc) (.slice none 0 0)).run Tryz.prog W = .ok (.bool false) W := fun _ => rfl
  go_enter Tryz.func157, Tryz.ntmps157
  go_wp2_with (at_builtin; refine kI rfl (.tmp 5) (.tmp 6) 22 rfl w.heap.size 5 i0 Tryz.underlying22 hi mg uj m3 _ 0 [] rfl iX _ xn xc xl rfl yH (by omega) (by simp) ?_; intro v2 w2 hown2 lm)
  go_ret
  rw [Nat.zero_add, List.nil_append] at hown2
  obtain ⟨a', c', rfl, hs⟩ := Sl.ofOwns hown2
  exact ⟨a', xn, c', rfl, hs, (fun b o e => by
   subst e
   exact (hown2.lt b rfl).1), au.grown lm (by simp) (by intro k hk; cases hk; exact Nat.le_refl _)⟩
def BdP (i o : Bool) (l : List UInt8) (w : World) (e : Ending) (w' : World) : Prop := ∃ a' n' c', e = .returned (.agg #[.bool i, .bool o, .slice a' n' c']) ∧ Sl w' a' n' c' l ∧ Own w.heap.size a' ∧ Below w.heap.size w w'
theorem sC (xi xo : Bool) (xa : Option Addr) (xn xc : Nat) (xl : List UInt8) (w : World) (Sx : Sl w xa xn xc xl) (Nx : xn ≤ 6000) :
  Calls Tryz.prog 134 #[.agg #[.bool xi, .bool xo, .slice xa xn xc]] w (BdP xi xo xl w) := by
 have au : Below w.heap.size w ((w.alloc (.cells #[.bool xi, .bool xo, .slice xa xn xc] 25)).alloc (.cells #[.bool false, .bool false, .slice none 0 0] 25)) := ((Below.refl _ _).alloc (Nat.le_refl _) _).alloc (by simp) _
 have yH := Sx.after au
 have B0 : Box ((w.alloc (.cells #[.bool xi, .bool xo, .slice xa xn xc] 25)).alloc (.cells #[.bool false, .bool false, .slice none 0 0] 25)) w.heap.size 25 #[.bool xi, .bool xo, .slice xa xn xc] := (Box.new _ _ _).alloc _
 have B1 : Box ((w.alloc (.cells #[.bool xi, .bool xo, .slice xa xn xc] 25)).alloc (.cells #[.bool false, .bool false, .slice none 0 0] 25)) (w.heap.size + 1) 25 #[.bool false, .bool false, .slice none 0 0] := by
  have := Box.new (w.alloc (.cells #[.bool xi, .bool xo, .slice xa xn xc] 25)) 25 #[.bool false, .bool false, .slice none 0 0]
  simpa using this
 go_enter Tryz.func134, Tryz.ntmps134
 go_wp2_with fail
 refine (uV _ _ _ _ _ yH Nx).mono ?_
 rintro e w1 ⟨a', n', c', rfl, an, ho1, af⟩
 have hW := au.trans (af.mono au.size)
 have C0 := B0.after af
 have C1 := B1.after af
 have gj : w.heap.size + 1 ≠ w.heap.size := by omega
 have D0 := C0.set 2 (.slice a' n' c')
 have D1 := C1.far ⟨w.heap.size, 2, none⟩ (.slice a' n' c') gj
 have hD := hW.setCell (p := (⟨w.heap.size, 2, none⟩ : Addr)) (Nat.le_refl _) (.slice a' n' c')
 have k0 := C0.cell 0 rfl
 have k1 := C0.cell 1 rfl
 have k2 := C0.cell 2 rfl
 have f2 := C0.frozen 2
 have f1 := C1.frozen 0
 have f11 := C1.frozen 1
 have f12 := C1.frozen 2
 have l0 := C1.cell 0 rfl
 have l1 := C1.cell 1 rfl
 have l2 := C1.cell 2 rfl
 have kS : Own (w.heap.size + 2) a' := ho1.le (by simp)
 go_wp2_with fail
 have E1 := ((D1.set 0 (.bool xi)).set 1 (.bool xo)).set 2 (.slice a' n' c')
 refine bodyPost_ret (ae Tryz.results134 _ _ rfl E1 Tryz.underlying25 rfl (by kernel_rfl)) rfl ⟨a', n', c', rfl, ?_, kS.le (by omega), ?_⟩
 ·exact (((an.setCell _ _ (kS.ne (by simp))).setCell _ _ (kS.ne (by simp))).setCell _ _ (kS.ne (by simp))).setCell _ _ (kS.ne (by simp))
 ·exact ((hD.setCell (by simp) _).setCell (by simp) _).setCell (by simp) _
theorem kZ (o : Nat) (xi xo : Bool) (xa : Option Addr) (xn xc : Nat) (xl : List UInt8) (yi yo : Bool) (ya : Option Addr) (yn yc : Nat) (yl : List UInt8) (t : Int) (ht : t = 1 ∨ t = -1) (w : World) (Sx : Sl w xa xn xc xl) (Nx : xn ≤ 6000) (Sy : Sl w ya yn yc yl) (Ny : yn ≤ 6000) :
  Calls Tryz.prog 135 #[.int .u8 o, .agg #[.bool xi, .bool xo, .slice xa xn xc], .agg #[.bool yi, .bool yo, .slice ya yn yc], .int .i64 t] w fun e w' => e = .returned (if yB o ⟨xi, xo, xl⟩ ⟨yi, yo, yl⟩ t then .agg #[.bool yi, .bool yo, .slice ya yn yc] else .agg #[.bool xi, .bool xo, .slice xa xn xc]) ∧ Below w.heap.size w w' := by
 have au : Below w.heap.size w (((w.alloc (.cells #[.bool xi, .bool xo, .slice xa xn xc] 25)).alloc (.cells #[.bool yi, .bool yo, .slice ya yn yc] 25)).alloc (.cells #[.bool false, .bool false, .slice none 0 0] 25)) := (((Below.refl _ _).alloc (Nat.le_refl _) _).alloc (by simp) _).alloc (by simp; omega) _
 have yH := Sx.after au
 have an := Sy.after au
 have B5 : Box (((w.alloc (.cells #[.bool xi, .bool xo, .slice xa xn xc] 25)).alloc (.cells #[.bool yi, .bool yo, .slice ya yn yc] 25)).alloc (.cells #[.bool false, .bool false, .slice none 0 0] 25)) w.heap.size 25 #[.bool xi, .bool xo, .slice xa xn xc] := ((Box.new _ _ _).alloc _).alloc _
 have B6 : Box (((w.alloc (.cells #[.bool xi, .bool xo, .slice xa xn xc] 25)).alloc (.cells #[.bool yi, .bool yo, .slice ya yn yc] 25)).alloc (.cells #[.bool false, .bool false, .slice none 0 0] 25)) (w.heap.size + 1) 25 #[.bool yi, .bool yo, .slice ya yn yc] := by
  have := (Box.new (w.alloc (.cells #[.bool xi, .bool xo, .slice xa xn xc] 25)) 25 #[.bool yi, .bool yo, .slice ya yn yc]).alloc (.cells #[.bool false, .bool false, .slice none 0 0] 25)
  simpa using this
 have B8 : Box (((w.alloc (.cells #[.bool xi, .bool xo, .slice xa xn xc] 25)).alloc (.cells #[.bool yi, .bool yo, .slice ya yn yc] 25)).alloc (.cells #[.bool false, .bool false, .slice none 0 0] 25)) (w.heap.size + 2) 25 #[.bool false, .bool false, .slice none 0 0] := by
  have := Box.new ((w.alloc (.cells #[.bool xi, .bool xo, .slice xa xn xc] 25)).alloc (.cells #[.bool yi, .bool yo, .slice ya yn yc] 25)) 25 #[.bool false, .bool false, .slice none 0 0]
  simpa using this
 cases yi
 ·have q : yB o ⟨xi, xo, xl⟩ ⟨false, yo, yl⟩ t = false := rfl
  rw [q]
  go_enter Tryz.func135, Tryz.ntmps135
  go_wp2_with fail
  exact bodyPost_ret (ae Tryz.results135 _ _ rfl (mE (by simp)) Tryz.underlying25 rfl (by kernel_rfl)) rfl ⟨rfl, (((Below.refl _ _).alloc (Nat.le_refl _) _).alloc (by simp) _).alloc (by simp; omega) _⟩
 ·cases xi
  ·have q : yB o ⟨false, xo, xl⟩ ⟨true, yo, yl⟩ t = true := rfl
   rw [q]
   go_enter Tryz.func135, Tryz.ntmps135
   go_wp2_with fail
   exact bodyPost_ret (ae Tryz.results135 _ _ rfl (mE (by simp)) Tryz.underlying25 rfl (by kernel_rfl)) rfl ⟨rfl, (((Below.refl _ _).alloc (Nat.le_refl _) _).alloc (by simp) _).alloc (by simp; omega) _⟩
  ·have h3 := fG o yl xl
   obtain ⟨C, hC⟩ : ∃ C, C = cV o yl xl := ⟨_, rfl⟩
   have q : yB o ⟨true, xo, xl⟩ ⟨true, yo, yl⟩ t = (decide (0 < t * C) || (decide (C = 0) && yo && !xo)) := by rw [hC]; rfl
   rw [q]
   rw [← hC] at h3
   have HC := I5 hC
   have kB : ∀ j v W, Below w.heap.size w W → Below w.heap.size w (W.setCell ⟨w.heap.size + 1 + 1, j, none⟩ v) := fun j v W h => h.setCell (by dsimp only; omega) v
   clear hC q
   rcases h3 with rfl | rfl | rfl <;> rcases ht with rfl | rfl <;> cases xo <;> cases yo
   all_goals
    go_enter Tryz.func135, Tryz.ntmps135
    go_wp2_with fail
    refine (fU _ _ _ _ _ _ _ _ _ _ an yH Ny Nx).mono ?_
    rintro e w1 ⟨rfl, af⟩
    rw [← HC.out]
    have hW := au.trans (af.mono au.size)
    have C5 := B5.after af
    have C6 := B6.after af
    have C8 := B8.after af
    have c0 := C5.cell 0 rfl
    have c1 := C5.cell 1 rfl
    have c2 := C5.cell 2 rfl
    have d0 := C6.cell 0 rfl
    have d1 := C6.cell 1 rfl
    have d2 := C6.cell 2 rfl
    have e0 := C8.cell 0 rfl
    have e1 := C8.cell 1 rfl
    have e2 := C8.cell 2 rfl
    have f0 := C8.frozen 0
    have f1 := C8.frozen 1
    have f2 := C8.frozen 2
    go_wp2_with fail
    exact bodyPost_ret (ae Tryz.results135 _ _ rfl (((C8.set 0 _).set 1 _).set 2 _) Tryz.underlying25 rfl (by kernel_rfl)) rfl ⟨rfl, kB _ _ _ (kB _ _ _ (kB _ _ _ hW))⟩
theorem uK (r : Nat) (bV a7 : Bool) (bs : Option Addr) (bi bm : Nat) (bU : List UInt8) (bW bf : Bool) (bu : Option Addr) (bg bt : Nat) (bZ : List UInt8) (w : World) (Srl : Sl w bs bi bm bU) (Nrl : bi ≤ 6000) (Srh : Sl w bu bg bt bZ) (Nrh : bg ≤ 6000) :
  Calls Tryz.prog 89 #[.agg #[.int .u8 r, .bool bV, .bool a7, .slice bs bi bm, .bool bW, .bool bf, .slice bu bg bt]] w fun e w' => e = .returned (.bool (emptyB ⟨r, ⟨bV, a7, bU⟩, ⟨bW, bf, bZ⟩⟩)) ∧ Below w.heap.size w w' := by
 have au : Below w.heap.size w (w.alloc (.cells #[.int .u8 r, .bool bV, .bool a7, .slice bs bi bm, .bool bW, .bool bf, .slice bu bg bt] 27 (0, 0))) := (Below.refl _ _).alloc (Nat.le_refl _) _
 have an := Srl.after au
 have aO := Srh.after au
 have B0 : Box (w.alloc (.cells #[.int .u8 r, .bool bV, .bool a7, .slice bs bi bm, .bool bW, .bool bf, .slice bu bg bt] 27 (0, 0))) w.heap.size 27 #[.int .u8 r, .bool bV, .bool a7, .slice bs bi bm, .bool bW, .bool bf, .slice bu bg bt] := Box.new _ _ _
 have q0 : emptyB ⟨r, ⟨bV, a7, bU⟩, ⟨bW, bf, bZ⟩⟩ = (mayB ⟨r, ⟨bV, a7, bU⟩, ⟨bW, bf, bZ⟩⟩ && bV && bW && (decide (0 < cV r bU bZ) || (decide (cV r bU bZ = 0) && (a7 || bf)))) := rfl
 cases hM : mayB ⟨r, ⟨bV, a7, bU⟩, ⟨bW, bf, bZ⟩⟩
 ·have q : emptyB ⟨r, ⟨bV, a7, bU⟩, ⟨bW, bf, bZ⟩⟩ = false := by rw [q0, hM]; rfl
  rw [q]
  go_enter Tryz.func89, Tryz.ntmps89
  go_wp2_with fail
  refine (aR _ _ _ _ _ _ _ _ _ _ _ _ _ _ an Nrl aO Nrh).mono ?_
  rintro e w1 ⟨rfl, af⟩
  rw [hM]
  have hW := au.trans (af.mono au.size)
  go_wp2_with fail
  go_ret
  exact ⟨rfl, hW⟩
 ·obtain ⟨C, hC⟩ : ∃ C, C = cV r bU bZ := ⟨_, rfl⟩
  have h3 := fG r bU bZ
  rw [q0, hM, ← hC]
  rw [← hC] at h3
  have HC := I5 hC
  clear hC q0
  cases bV
  ·go_enter Tryz.func89, Tryz.ntmps89
   go_wp2_with fail
   refine (aR _ _ _ _ _ _ _ _ _ _ _ _ _ _ an Nrl aO Nrh).mono ?_
   rintro e w1 ⟨rfl, af⟩
   rw [hM]
   have hW := au.trans (af.mono au.size)
   have B1 := B0.after af
   have c1 := B1.cell 1 rfl
   go_wp2_with fail
   go_ret
   exact ⟨rfl, hW⟩
  ·cases bW
   ·go_enter Tryz.func89, Tryz.ntmps89
    go_wp2_with fail
    refine (aR _ _ _ _ _ _ _ _ _ _ _ _ _ _ an Nrl aO Nrh).mono ?_
    rintro e w1 ⟨rfl, af⟩
    rw [hM]
    have hW := au.trans (af.mono au.size)
    have B1 := B0.after af
    have c1 := B1.cell 1 rfl
    have c4 := B1.cell 4 rfl
    go_wp2_with fail
    go_ret
    exact ⟨rfl, hW⟩
   ·rcases h3 with rfl | rfl | rfl <;> cases a7
    all_goals
     go_enter Tryz.func89, Tryz.ntmps89
     go_wp2_with fail
     refine (aR _ _ _ _ _ _ _ _ _ _ _ _ _ _ an Nrl aO Nrh).mono ?_
     rintro e w1 ⟨rfl, af⟩
     rw [hM]
     have hW := au.trans (af.mono au.size)
     have B1 := B0.after af
     have c0 := B1.cell 0 rfl
     have c1 := B1.cell 1 rfl
     have c3 := B1.cell 3 rfl
     have c4 := B1.cell 4 rfl
     have c6 := B1.cell 6 rfl
     go_wp2_with fail
     refine (fU _ _ _ _ _ _ _ _ _ _ (an.after af) (aO.after af) Nrl Nrh).mono ?_
     rintro e w2 ⟨rfl, aK⟩
     rw [← HC.out]
     have bE := hW.trans (aK.mono hW.size)
     have B2 := B1.after aK
     have d2 := B2.cell 2 rfl
     have d5 := B2.cell 5 rfl
     go_wp2_with fail
     go_ret
     exact ⟨by first | rfl | simp, bE⟩
structure RgV where
 o : Nat
 li : Bool
 lo : Bool
 la : Option Addr
 ln : Nat
 lc : Nat
 ll : List UInt8
 hi : Bool
 ho : Bool
 ha : Option Addr
 hn : Nat
 hc : Nat
 hl : List UInt8
def RgV.val (v : RgV) : Value := .agg #[.int .u8 v.o, .bool v.li, .bool v.lo, .slice v.la v.ln v.lc, .bool v.hi, .bool v.ho, .slice v.ha v.hn v.hc]
def RgV.rg (v : RgV) : Rg := ⟨v.o, ⟨v.li, v.lo, v.ll⟩, ⟨v.hi, v.ho, v.hl⟩⟩
def RgV.at (v : RgV) (w : World) : Prop := Sl w v.la v.ln v.lc v.ll ∧ v.ln ≤ 6000 ∧ Sl w v.ha v.hn v.hc v.hl ∧ v.hn ≤ 6000
def vNo : RgV := ⟨0, false, false, none, 0, 0, [], false, false, none, 0, 0, []⟩
theorem qN (w : World) : vNo.at w := ⟨⟨rfl, Nat.le_refl _, Nat.zero_le _, fun _ => rfl, .inl rfl⟩, Nat.zero_le _, ⟨rfl, Nat.le_refl _, Nat.zero_le _, fun _ => rfl, .inl rfl⟩, Nat.zero_le _⟩
theorem BS (o : Nat) (xi xo : Bool) (xa : Option Addr) (xn xc : Nat) (xl : List UInt8) (yi yo : Bool) (ya : Option Addr) (yn yc : Nat) (yl : List UInt8) (t : Int) (S : World → Prop)
  (hx : ∀ w, S w → Sl w xa xn xc xl) (nx : xn ≤ 6000) (hy : ∀ w, S w → Sl w ya yn yc yl) (ny : yn ≤ 6000) :
  ∃ (i p : Bool) (a : Option Addr) (n c : Nat) (l : List UInt8), (if yB o ⟨xi, xo, xl⟩ ⟨yi, yo, yl⟩ t then (.agg #[.bool yi, .bool yo, .slice ya yn yc] : Value) else .agg #[.bool xi, .bool xo, .slice xa xn xc]) = .agg #[.bool i, .bool p, .slice a n c] ∧
   tiB o ⟨xi, xo, xl⟩ ⟨yi, yo, yl⟩ t = ⟨i, p, l⟩ ∧ (∀ w, S w → Sl w a n c l) ∧ n ≤ 6000 := by
 unfold tiB
 cases yB o ⟨xi, xo, xl⟩ ⟨yi, yo, yl⟩ t
 ·exact ⟨xi, xo, xa, xn, xc, xl, rfl, rfl, hx, nx⟩
 ·exact ⟨yi, yo, ya, yn, yc, yl, rfl, rfl, hy, ny⟩
theorem jA (w : World) : Calls Tryz.prog 153 #[] w fun e w' => e = .returned (.float .f64 0) ∧ w = w' := by
 go_enter Tryz.func153, Tryz.ntmps153
 go_wp2_with fail
 go_ret
 exact ⟨rfl, rfl⟩
theorem xO (w : World) : ∃ v, isNan v = true ∧ (binOp .quo 128 (.float .f64 0) (.float .f64 0)).run Tryz.prog w = .ok (.float .f64 v) (w.drewN 1) := by
 have h : Ieee.double.div 0 0 = none := by decide
 refine ⟨(Question.nanBits .f64 0 0).cut (w.tape w.drawn (.nanBits .f64 0 0)), ub _ _ _, ?_⟩
 have h2 : FloatKind.f64.format.div 0 0 = none := h
 simp only [binOp, Op.floatArith, h2]
 rfl
end Go.Proofs.YtmmkaclmgnpplaaGreatDoor

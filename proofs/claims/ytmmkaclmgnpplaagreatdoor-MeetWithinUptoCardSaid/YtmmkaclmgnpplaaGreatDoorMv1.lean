import Derived.Test.YtmmkaclmgnpplaaGreatDoorMz40
import Derived.Test.YtmmkaclmgnpplaaGreatDoorMz42
import Derived.Test.YtmmkaclmgnpplaaGreatDoorMz44
set_option maxRecDepth 100000
set_option maxHeartbeats 64000000
set_option linter.unusedSimpArgs false
set_option linter.unusedVariables false
namespace Go.Proofs.YtmmkaclmgnpplaaGreatDoor
open Go.RowKit
theorem Lk {P : Program} {ops : Array Oper} {C : World → Prop} {Q : Act → Prop} {a : Act} {o : Oper} {rest : List Oper} (v : Value) (h : wpQuiet P ops C Q rest (a.put o.dst v)) (hgd : Region.wanted o (yielded ops a.tmps) = true := by rfl) (hr : ∀ w, C w → (execOp a.eval o).run P w = .ok (.value v) w := by (intro w' hw; simp [go_sem])) : wpQuiet P ops C Q (o :: rest) a := aa hgd v hr h
theorem JK : ∀ l m n : List UInt8, Op.bytesLess l m = true → Op.bytesLess m n = true → Op.bytesLess l n = true
 | [], [], _, h, _ => by simp [Op.bytesLess] at h
 | _, _ :: _, [], _, h => by simp [Op.bytesLess] at h
 | [], _ :: _, _ :: _, _, _ => by simp [Op.bytesLess]
 | _ :: _, [], _, h, _ => by simp [Op.bytesLess] at h
 | a :: l, b :: m, c :: n, h, h' => by
  simp only [Op.bytesLess, Bool.or_eq_true, decide_eq_true_eq, Bool.and_eq_true, beq_iff_eq] at h h' ⊢
  rcases h with h | ⟨rfl, h⟩ <;> rcases h' with h' | ⟨rfl, h'⟩
  ·exact .inl (UInt8.lt_trans h h')
  ·exact .inl h
  ·exact .inl h'
  ·exact .inr ⟨rfl, JK l m n h h'⟩
def leK (x y : Int × List UInt8) : Prop := x.1 < y.1 ∨ (x.1 = y.1 ∧ Op.bytesLess y.2 x.2 = false)
theorem Jz (x y : Int × List UInt8) : cmpK x y ≤ 0 ↔ leK x y := by
 unfold cmpK leK bcmp
 by_cases h1 : x.1 < y.1
 ·simp [h1]
 ·by_cases h2 : y.1 < x.1
  ·simp [h1, h2]; omega
  ·have e : x.1 = y.1 := by omega
   rw [if_neg h1, if_neg h2]
   cases h3 : Op.bytesLess x.2 y.2
   ·cases h4 : Op.bytesLess y.2 x.2 <;> simp [e]
   ·simp [e, xu _ _ h3]
theorem Kk (x y : Int × List UInt8) : cmpK y x = -cmpK x y := by
 unfold cmpK bcmp
 by_cases h1 : x.1 < y.1
 ·rw [if_neg (by omega), if_pos h1, if_pos h1]; rfl
 ·by_cases h2 : y.1 < x.1
  ·rw [if_pos h2, if_neg h1, if_pos h2]
  ·rw [if_neg h2, if_neg h1, if_neg h1, if_neg h2]
   cases h3 : Op.bytesLess x.2 y.2
   ·cases h4 : Op.bytesLess y.2 x.2 <;> simp
   ·simp [xu _ _ h3]
theorem J4 (x y z : Int × List UInt8) (h : leK x y) (h' : leK y z) : leK x z := by
 unfold leK at *
 rcases h with h | ⟨e, h⟩ <;> rcases h' with h' | ⟨e', h'⟩
 ·exact .inl (by omega)
 ·exact .inl (by omega)
 ·exact .inl (by omega)
 ·refine .inr ⟨by omega, ?_⟩
  cases hc : Op.bytesLess z.2 x.2
  ·rfl
  ·exfalso
   cases hb : Op.bytesLess y.2 z.2
   ·rw [qC _ _ hb h', hc] at h; cases h
   ·rw [JK _ _ _ hb hc] at h; cases h
theorem JS (x y z : Int × List UInt8) (h : cmpK x y ≤ 0) (h' : cmpK y z ≤ 0) : cmpK x z ≤ 0 :=
 (Jz _ _).2 (J4 _ _ _ ((Jz _ _).1 h) ((Jz _ _).1 h'))
theorem Ju (o : Nat) (l m : List UInt8) : cV o m l = - cV o l m := by
 unfold cV
 cases h1 : ordV o l <;> cases h2 : ordV o m <;> first | rfl | exact Kk _ _
theorem Jc (o : Nat) (l m n : List UInt8) (hm : isV o m = true) (h : cV o l m ≤ 0) (h' : cV o m n ≤ 0) (hl : isV o l = true) (hn : isV o n = true) : cV o l n ≤ 0 := by
 unfold isV at *
 obtain ⟨x, hx⟩ := Option.isSome_iff_exists.1 hl
 obtain ⟨y, hy⟩ := Option.isSome_iff_exists.1 hm
 obtain ⟨z, hz⟩ := Option.isSome_iff_exists.1 hn
 unfold cV at *
 rw [hx, hy] at h; rw [hy, hz] at h'; rw [hx, hz]
 exact JS _ _ _ h h'
def insB (o : Nat) (x y : Bd) (t : Int) : Bool := !y.is || (x.is && (decide (0 < t * cV o x.att y.att) || (decide (cV o x.att y.att = 0) && (x.op || !y.op))))
def withinB (a b : Rg) : Bool := okB a b && (emptyB a || insB a.o a.lo b.lo 1 && insB a.o a.hi b.hi (-1))
theorem tri (o : Nat) (b x y : List UInt8) (hb : isV o b = true) (hx : isV o x = true) (hy : isV o y = true) :
  (cV o b y ≤ 0 → cV o y x ≤ 0 → cV o b x ≤ 0) ∧ (0 ≤ cV o y x → 0 ≤ cV o b y → 0 ≤ cV o b x) ∧ (cV o b x ≤ 0 → 0 ≤ cV o y x → cV o b y ≤ 0) ∧
  (cV o y x ≤ 0 → 0 ≤ cV o b x → 0 ≤ cV o b y) ∧ (0 ≤ cV o b y → cV o b x ≤ 0 → cV o y x ≤ 0) ∧ (0 ≤ cV o b x → cV o b y ≤ 0 → 0 ≤ cV o y x) := by
 have a1 := Jc o b y x hy; have a2 := Jc o x y b hy; have a3 := Jc o b x y hx; have a4 := Jc o y x b hx
 have a5 := Jc o y b x hb; have a6 := Jc o x b y hb
 have n1 := Ju o b y; have n2 := Ju o y x; have n3 := Ju o b x
 refine ⟨fun h h' => a1 h h' hb hx, fun h h' => ?_, fun h h' => a3 h (by omega) hb hy, fun h h' => ?_, fun h h' => a5 (by omega) h' hy hx, fun h h' => ?_⟩
 ·have := a2 (by omega) (by omega) hx hb; omega
 ·have := a4 h (by omega) hy hb; omega
 ·have := a6 (by omega) h' hx hy; omega
theorem Ki (r : Rg) (b : List UInt8) (h : emptyB r = true) : inB r b = false := by
 obtain ⟨o, ⟨li, lo, la⟩, ⟨hi, ho, ha⟩⟩ := r
 unfold emptyB at h
 simp only [Bool.and_eq_true, Bool.or_eq_true, decide_eq_true_eq] at h
 obtain ⟨⟨⟨hm, rfl⟩, rfl⟩, h⟩ := h
 unfold mayB endB at hm
 simp only [if_true, Bool.and_eq_true] at hm
 unfold inB wiB
 cases hb : isV o b
 ·simp
 ·have T := tri o b la ha hb hm.1.2 hm.2
  have n := Ju o la ha
  rcases fG o b la with h1 | h1 | h1 <;> rcases fG o b ha with h2 | h2 | h2 <;> rw [h1, h2] at T <;> simp [h1, h2] <;> (first | (exfalso; omega) | (intros; rcases h with h | ⟨h, h'⟩ <;> (first | (exfalso; omega) | (rcases h' with h' | h' <;> simp_all))))
theorem Kh (o : Nat) (x y : Bd) (b : List UInt8) (t : Int) (ht : t = 1 ∨ t = -1) (hx : endB o x = true) (hy : endB o y = true) (hb : isV o b = true) (h : insB o x y t = true) (hw : wiB o x b t = true) :
  wiB o y b t = true := by
 obtain ⟨xi, xo, xa⟩ := x
 obtain ⟨yi, yo, ya⟩ := y
 unfold insB wiB endB at *
 cases xi <;> cases yi <;> simp only [Bool.not_true, Bool.not_false, Bool.false_and, Bool.true_and, Bool.true_or, Bool.false_or, Bool.false_eq_true, if_false, if_true] at hx hy h hw ⊢
 have T := tri o b xa ya hb hx hy
 have n := Ju o ya xa
 rcases fG o b xa with h1 | h1 | h1 <;> rcases fG o b ya with h2 | h2 | h2 <;> rcases fG o ya xa with h3 | h3 | h3 <;> rw [h1, h2, h3] at T <;> rw [h3] at n <;> (first | (exfalso; omega) | (rcases ht with rfl | rfl <;> cases xo <;> cases yo <;> simp [h1, h2, n] at h hw ⊢))
theorem J3 {a b : Rg} (h : okB a b = true) : mayB a = true ∧ mayB b = true ∧ a.o = b.o ∧ endB a.o a.lo = true ∧ endB a.o a.hi = true ∧ endB a.o b.lo = true ∧ endB a.o b.hi = true := by
 unfold okB at h
 simp only [Bool.and_eq_true, decide_eq_true_eq] at h
 obtain ⟨⟨h1, h2⟩, h3⟩ := h
 refine ⟨h1, h2, h3, ?_⟩
 unfold mayB at *
 simp only [Bool.and_eq_true] at *
 rw [← h3] at h2
 exact ⟨h1.1.2, h1.2, h2.1.2, h2.2⟩
theorem JX (a b : Rg) (l : List UInt8) (h : withinB a b = true) (hi : inB a l = true) : inB b l = true := by
 unfold withinB at h
 rw [Bool.and_eq_true] at h
 obtain ⟨ho, h⟩ := h
 obtain ⟨h1, h2, h3, e1, e2, e3, e4⟩ := J3 ho
 cases he : emptyB a
 ·rw [he, Bool.false_or, Bool.and_eq_true] at h
  unfold inB at *
  rw [h2, ← h3]
  simp only [Bool.and_eq_true] at hi ⊢
  exact ⟨⟨⟨trivial, hi.1.1.2⟩, Kh _ _ _ _ _ (.inl rfl) e1 e3 hi.1.1.2 h.1 hi.1.2⟩, Kh _ _ _ _ _ (.inr rfl) e2 e4 hi.1.1.2 h.2 hi.2⟩
 ·rw [Ki a l he] at hi; cases hi
theorem Jt (o : Nat) (xi xo : Bool) (xa : Option Addr) (xn xc : Nat) (xl : List UInt8) (yi yo : Bool) (ya : Option Addr) (yn yc : Nat) (yl : List UInt8) (t : Int) (ht : t = 1 ∨ t = -1) (w : World) (Sx : Sl w xa xn xc xl) (Nx : xn ≤ 6000) (Sy : Sl w ya yn yc yl) (Ny : yn ≤ 6000) :
  Calls Tryz.prog 90 #[.int .u8 o, .agg #[.bool xi, .bool xo, .slice xa xn xc], .agg #[.bool yi, .bool yo, .slice ya yn yc], .int .i64 t] w fun e w' => e = .returned (.bool (insB o ⟨xi, xo, xl⟩ ⟨yi, yo, yl⟩ t)) ∧ Below w.heap.size w w' := by
 have au : Below w.heap.size w ((w.alloc (.cells #[.bool xi, .bool xo, .slice xa xn xc] 25)).alloc (.cells #[.bool yi, .bool yo, .slice ya yn yc] 25)) := ((Below.refl _ _).alloc (Nat.le_refl _) _).alloc (by simp) _
 have yH := Sx.after au
 have an := Sy.after au
 have B5 : Box ((w.alloc (.cells #[.bool xi, .bool xo, .slice xa xn xc] 25)).alloc (.cells #[.bool yi, .bool yo, .slice ya yn yc] 25)) w.heap.size 25 #[.bool xi, .bool xo, .slice xa xn xc] := (Box.new _ _ _).alloc _
 have B6 : Box ((w.alloc (.cells #[.bool xi, .bool xo, .slice xa xn xc] 25)).alloc (.cells #[.bool yi, .bool yo, .slice ya yn yc] 25)) (w.heap.size + 1) 25 #[.bool yi, .bool yo, .slice ya yn yc] := mE (by simp)
 cases yi
 ·have q : insB o ⟨xi, xo, xl⟩ ⟨false, yo, yl⟩ t = true := rfl
  rw [q]
  go_enter Tryz.func90, Tryz.ntmps90
  go_wp2_with fail
  go_ret
  exact ⟨rfl, au⟩
 ·cases xi
  ·have q : insB o ⟨false, xo, xl⟩ ⟨true, yo, yl⟩ t = false := rfl
   rw [q]
   go_enter Tryz.func90, Tryz.ntmps90
   go_wp2_with fail
   go_ret
   exact ⟨rfl, au⟩
  ·have h3 := fG o xl yl
   obtain ⟨C, hC⟩ : ∃ C, C = cV o xl yl := ⟨_, rfl⟩
   have q : insB o ⟨true, xo, xl⟩ ⟨true, yo, yl⟩ t = (decide (0 < t * C) || (decide (C = 0) && (xo || !yo))) := by rw [hC]; rfl
   rw [q]
   rw [← hC] at h3
   have HC := I5 hC
   clear hC q
   rcases h3 with rfl | rfl | rfl <;> rcases ht with rfl | rfl <;> cases xo
   all_goals
    go_enter Tryz.func90, Tryz.ntmps90
    go_wp2_with fail
    refine (fU _ _ _ _ _ _ _ _ _ _ yH an Nx Ny).mono ?_
    rintro e w1 ⟨rfl, af⟩
    rw [← HC.out]
    have hW := au.trans (af.mono au.size)
    have C5 := B5.after af
    have C6 := B6.after af
    have c1 := C5.cell 1 rfl
    have d1 := C6.cell 1 rfl
    go_wp2_with fail
    go_ret
    exact ⟨by first | rfl | simp, hW⟩
theorem JQ (r : Nat) (bV a7 : Bool) (bs : Option Addr) (bi bm : Nat) (bU : List UInt8) (bW bf : Bool) (bu : Option Addr) (bg bt : Nat) (bZ : List UInt8) (s : Nat) (iU iT : Bool) (oh : Option Addr) (nl og : Nat) (mK : List UInt8) (fg iV : Bool) (om : Option Addr) (np ol : Nat) (mL : List UInt8) (w : World) (Srl : Sl w bs bi bm bU) (Nrl : bi ≤ 6000) (Srh : Sl w bu bg bt bZ) (Nrh : bg ≤ 6000) (Ssl : Sl w oh nl og mK) (Nsl : nl ≤ 6000) (Ssh : Sl w om np ol mL) (Nsh : np ≤ 6000) :
  Calls Tryz.prog 60 #[.agg #[.int .u8 r, .bool bV, .bool a7, .slice bs bi bm, .bool bW, .bool bf, .slice bu bg bt], .agg #[.int .u8 s, .bool iU, .bool iT, .slice oh nl og, .bool fg, .bool iV, .slice om np ol]] w fun e w' => e = .returned (.bool (withinB ⟨r, ⟨bV, a7, bU⟩, ⟨bW, bf, bZ⟩⟩ ⟨s, ⟨iU, iT, mK⟩, ⟨fg, iV, mL⟩⟩)) ∧ Below w.heap.size w w' := by
 have au : Below w.heap.size w ((w.alloc (.cells #[.int .u8 r, .bool bV, .bool a7, .slice bs bi bm, .bool bW, .bool bf, .slice bu bg bt] 27)).alloc (.cells #[.int .u8 s, .bool iU, .bool iT, .slice oh nl og, .bool fg, .bool iV, .slice om np ol] 27)) := ((Below.refl _ _).alloc (Nat.le_refl _) _).alloc (by simp) _
 have p6 := Srl.after au
 have oY := Srh.after au
 have an := Ssl.after au
 have aO := Ssh.after au
 have A0 : Box ((w.alloc (.cells #[.int .u8 r, .bool bV, .bool a7, .slice bs bi bm, .bool bW, .bool bf, .slice bu bg bt] 27)).alloc (.cells #[.int .u8 s, .bool iU, .bool iT, .slice oh nl og, .bool fg, .bool iV, .slice om np ol] 27)) w.heap.size 27 #[.int .u8 r, .bool bV, .bool a7, .slice bs bi bm, .bool bW, .bool bf, .slice bu bg bt] := (Box.new _ _ _).alloc _
 have B0 : Box ((w.alloc (.cells #[.int .u8 r, .bool bV, .bool a7, .slice bs bi bm, .bool bW, .bool bf, .slice bu bg bt] 27)).alloc (.cells #[.int .u8 s, .bool iU, .bool iT, .slice oh nl og, .bool fg, .bool iV, .slice om np ol] 27)) (w.heap.size + 1) 27 #[.int .u8 s, .bool iU, .bool iT, .slice oh nl og, .bool fg, .bool iV, .slice om np ol] := mE (by simp)
 have q0 : withinB ⟨r, ⟨bV, a7, bU⟩, ⟨bW, bf, bZ⟩⟩ ⟨s, ⟨iU, iT, mK⟩, ⟨fg, iV, mL⟩⟩ = ((mayB ⟨r, ⟨bV, a7, bU⟩, ⟨bW, bf, bZ⟩⟩ && mayB ⟨s, ⟨iU, iT, mK⟩, ⟨fg, iV, mL⟩⟩ && decide (r = s)) && (emptyB ⟨r, ⟨bV, a7, bU⟩, ⟨bW, bf, bZ⟩⟩ || insB r ⟨bV, a7, bU⟩ ⟨iU, iT, mK⟩ 1 && insB r ⟨bW, bf, bZ⟩ ⟨fg, iV, mL⟩ (-1))) := rfl
 cases hM : mayB ⟨r, ⟨bV, a7, bU⟩, ⟨bW, bf, bZ⟩⟩
 ·have q : withinB ⟨r, ⟨bV, a7, bU⟩, ⟨bW, bf, bZ⟩⟩ ⟨s, ⟨iU, iT, mK⟩, ⟨fg, iV, mL⟩⟩ = false := by rw [q0, hM]; rfl
  rw [q]
  go_enter Tryz.func60, Tryz.ntmps60
  go_wp2_with fail
  refine (aR _ _ _ _ _ _ _ _ _ _ _ _ _ _ p6 Nrl oY Nrh).mono ?_
  rintro e w1 ⟨rfl, af⟩
  rw [hM]
  have hW := au.trans (af.mono au.size)
  go_wp2_with fail
  go_ret
  exact ⟨rfl, hW⟩
 ·cases CZ : mayB ⟨s, ⟨iU, iT, mK⟩, ⟨fg, iV, mL⟩⟩
  ·have q : withinB ⟨r, ⟨bV, a7, bU⟩, ⟨bW, bf, bZ⟩⟩ ⟨s, ⟨iU, iT, mK⟩, ⟨fg, iV, mL⟩⟩ = false := by rw [q0, hM, CZ]; rfl
   rw [q]
   go_enter Tryz.func60, Tryz.ntmps60
   go_wp2_with fail
   refine (aR _ _ _ _ _ _ _ _ _ _ _ _ _ _ p6 Nrl oY Nrh).mono ?_
   rintro e w1 ⟨rfl, af⟩
   rw [hM]
   have hW := au.trans (af.mono au.size)
   have A1 := A0.after af
   have B1 := B0.after af
   have c0 := B1.cell 0 rfl
   have c1 := B1.cell 1 rfl
   have c2 := B1.cell 2 rfl
   have c3 := B1.cell 3 rfl
   have c4 := B1.cell 4 rfl
   have c5 := B1.cell 5 rfl
   have c6 := B1.cell 6 rfl
   go_wp2_with fail
   refine (aR _ _ _ _ _ _ _ _ _ _ _ _ _ _ (an.after af) Nsl (aO.after af) Nsh).mono ?_
   rintro e w2 ⟨rfl, aK⟩
   rw [CZ]
   have bE := hW.trans (aK.mono hW.size)
   have A2 := A1.after aK
   have B2 := B1.after aK
   go_wp2_with fail
   go_ret
   exact ⟨rfl, bE⟩
  ·by_cases ho : r = s
   ·subst ho
    have gj : ((r : Int) != (r : Int)) = false := by simp
    cases hE : emptyB ⟨r, ⟨bV, a7, bU⟩, ⟨bW, bf, bZ⟩⟩
    ·obtain ⟨X, hX⟩ : ∃ X, X = insB r ⟨bW, bf, bZ⟩ ⟨fg, iV, mL⟩ (-1) := ⟨_, rfl⟩
     obtain ⟨Y, hY⟩ : ∃ Y, Y = insB r ⟨bV, a7, bU⟩ ⟨iU, iT, mK⟩ 1 := ⟨_, rfl⟩
     have q : withinB ⟨r, ⟨bV, a7, bU⟩, ⟨bW, bf, bZ⟩⟩ ⟨r, ⟨iU, iT, mK⟩, ⟨fg, iV, mL⟩⟩ = (Y && X) := by rw [q0, hM, CZ, hE, hX, hY]; simp
     rw [q]
     have HX := I5 hX
     have HY := I5 hY
     clear q q0 hX hY
     cases Y
     all_goals
      go_enter Tryz.func60, Tryz.ntmps60
      go_wp2_with fail
      refine (aR _ _ _ _ _ _ _ _ _ _ _ _ _ _ p6 Nrl oY Nrh).mono ?_
      rintro e w1 ⟨rfl, af⟩
      rw [hM]
      have hW := au.trans (af.mono au.size)
      have A1 := A0.after af
      have B1 := B0.after af
      have c0 := B1.cell 0 rfl
      have c1 := B1.cell 1 rfl
      have c2 := B1.cell 2 rfl
      have c3 := B1.cell 3 rfl
      have c4 := B1.cell 4 rfl
      have c5 := B1.cell 5 rfl
      have c6 := B1.cell 6 rfl
      go_wp2_with fail
      refine (aR _ _ _ _ _ _ _ _ _ _ _ _ _ _ (an.after af) Nsl (aO.after af) Nsh).mono ?_
      rintro e w2 ⟨rfl, aK⟩
      rw [CZ]
      have bE := hW.trans (aK.mono hW.size)
      have A2 := A1.after aK
      have B2 := B1.after aK
      have d0 := A2.cell 0 rfl
      have d1 := A2.cell 1 rfl
      have d2 := A2.cell 2 rfl
      have d3 := A2.cell 3 rfl
      have d4 := A2.cell 4 rfl
      have d5 := A2.cell 5 rfl
      have d6 := A2.cell 6 rfl
      have e0 := B2.cell 0 rfl
      go_wp2_with fail
      refine (uK _ _ _ _ _ _ _ _ _ _ _ _ _ _ ((p6.after af).after aK) Nrl ((oY.after af).after aK) Nrh).mono ?_
      rintro e w3 ⟨rfl, bK⟩
      rw [hE]
      have gl := bE.trans (bK.mono bE.size)
      have A3 := A2.after bK
      have B3 := B2.after bK
      have g0 := A3.cell 0 rfl
      have g1 := A3.cell 1 rfl
      have g2 := A3.cell 2 rfl
      have g3 := A3.cell 3 rfl
      have h1 := B3.cell 1 rfl
      have h2 := B3.cell 2 rfl
      have h3 := B3.cell 3 rfl
      go_wp2_with fail
      refine (Jt _ _ _ _ _ _ _ _ _ _ _ _ _ _ (.inl rfl) _ (((p6.after af).after aK).after bK) Nrl (((an.after af).after aK).after bK) Nsl).mono ?_
      rintro e w4 ⟨rfl, Kf⟩
      rw [← HY.out]
      have nb := gl.trans (Kf.mono gl.size)
     ·go_wp2_with fail
      go_ret
      exact ⟨rfl, nb⟩
     ·have A4 := A3.after Kf
      have B4 := B3.after Kf
      have i0 := A4.cell 0 rfl
      have i4 := A4.cell 4 rfl
      have i5 := A4.cell 5 rfl
      have i6 := A4.cell 6 rfl
      have j4 := B4.cell 4 rfl
      have j5 := B4.cell 5 rfl
      have j6 := B4.cell 6 rfl
      go_wp2_with fail
      refine (Jt _ _ _ _ _ _ _ _ _ _ _ _ _ _ (.inr rfl) _ ((((oY.after af).after aK).after bK).after Kf) Nrh ((((aO.after af).after aK).after bK).after Kf) Nsh).mono ?_
      rintro e w5 ⟨rfl, Jh⟩
      rw [← HX.out]
      have Le := nb.trans (Jh.mono nb.size)
      go_wp2_with fail
      go_ret
      exact ⟨rfl, Le⟩
    ·have q : withinB ⟨r, ⟨bV, a7, bU⟩, ⟨bW, bf, bZ⟩⟩ ⟨r, ⟨iU, iT, mK⟩, ⟨fg, iV, mL⟩⟩ = true := by rw [q0, hM, CZ, hE]; simp
     rw [q]
     go_enter Tryz.func60, Tryz.ntmps60
     go_wp2_with fail
     refine (aR _ _ _ _ _ _ _ _ _ _ _ _ _ _ p6 Nrl oY Nrh).mono ?_
     rintro e w1 ⟨rfl, af⟩
     rw [hM]
     have hW := au.trans (af.mono au.size)
     have A1 := A0.after af
     have B1 := B0.after af
     have c0 := B1.cell 0 rfl
     have c1 := B1.cell 1 rfl
     have c2 := B1.cell 2 rfl
     have c3 := B1.cell 3 rfl
     have c4 := B1.cell 4 rfl
     have c5 := B1.cell 5 rfl
     have c6 := B1.cell 6 rfl
     go_wp2_with fail
     refine (aR _ _ _ _ _ _ _ _ _ _ _ _ _ _ (an.after af) Nsl (aO.after af) Nsh).mono ?_
     rintro e w2 ⟨rfl, aK⟩
     rw [CZ]
     have bE := hW.trans (aK.mono hW.size)
     have A2 := A1.after aK
     have B2 := B1.after aK
     have d0 := A2.cell 0 rfl
     have d1 := A2.cell 1 rfl
     have d2 := A2.cell 2 rfl
     have d3 := A2.cell 3 rfl
     have d4 := A2.cell 4 rfl
     have d5 := A2.cell 5 rfl
     have d6 := A2.cell 6 rfl
     have e0 := B2.cell 0 rfl
     go_wp2_with fail
     refine (uK _ _ _ _ _ _ _ _ _ _ _ _ _ _ ((p6.after af).after aK) Nrl ((oY.after af).after aK) Nrh).mono ?_
     rintro e w3 ⟨rfl, bK⟩
     rw [hE]
     have gl := bE.trans (bK.mono bE.size)
     go_wp2_with fail
     go_ret
     exact ⟨rfl, gl⟩
   ·have q : withinB ⟨r, ⟨bV, a7, bU⟩, ⟨bW, bf, bZ⟩⟩ ⟨s, ⟨iU, iT, mK⟩, ⟨fg, iV, mL⟩⟩ = false := by rw [q0, decide_eq_false ho]; simp
    rw [q]
    have gj : ((r : Int) != (s : Int)) = true := by rw [bne_iff_ne]; omega
    clear ho q q0
    go_enter Tryz.func60, Tryz.ntmps60
    go_wp2_with fail
    refine (aR _ _ _ _ _ _ _ _ _ _ _ _ _ _ p6 Nrl oY Nrh).mono ?_
    rintro e w1 ⟨rfl, af⟩
    rw [hM]
    have hW := au.trans (af.mono au.size)
    have A1 := A0.after af
    have B1 := B0.after af
    have c0 := B1.cell 0 rfl
    have c1 := B1.cell 1 rfl
    have c2 := B1.cell 2 rfl
    have c3 := B1.cell 3 rfl
    have c4 := B1.cell 4 rfl
    have c5 := B1.cell 5 rfl
    have c6 := B1.cell 6 rfl
    go_wp2_with fail
    refine (aR _ _ _ _ _ _ _ _ _ _ _ _ _ _ (an.after af) Nsl (aO.after af) Nsh).mono ?_
    rintro e w2 ⟨rfl, aK⟩
    rw [CZ]
    have bE := hW.trans (aK.mono hW.size)
    have A2 := A1.after aK
    have B2 := B1.after aK
    have d0 := A2.cell 0 rfl
    have e0 := B2.cell 0 rfl
    go_wp2_with fail
    go_ret
    exact ⟨rfl, bE⟩
theorem mX (a : Option Addr) (n c : Nat) (l : List UInt8) (b : Option Addr) (m d : Nat) (f : List UInt8) (w : World) (hs : Sl w a n c l) (aO : Sl w b m d f) :
  Calls Tryz.prog 81 #[.slice a n c, .slice b m d] w fun e w' => e = .returned (.bool (prefB l f)) ∧ Below w.heap.size w w' := by
 have HN := I5 hs.1
 have HM := I5 aO.1
 have ea := Nat.le_trans hs.2.1 hs.2.2.1
 have qb := Nat.le_trans aO.2.1 aO.2.2.1
 have ie := hs.2.1
 unfold maxLen at ea qb
 have HS := I5 hs
 have mJ := I5 aO
 clear hs aO
 go_enter Tryz.func81, Tryz.ntmps81
 go_upto_region 1 with fail
 by_cases aJ : m ≤ n
 case neg =>
  have HF : Hid (prefB l f = false) := I5 (by unfold prefB; rw [decide_eq_false (by have := HN.out; have := HM.out; omega)]; rfl)
  have cK : ¬ (m : Int) ≤ n := by omega
  refine aP w.heap.size w rfl (by kernel_rfl) (Below.refl _ _) ?_
  refine Lk (.slice a n c) ?_
  simp only [Act.put, I2, I3, I4]
  refine Lk (.int .i64 n) ?_
  simp only [Act.put, I2, I3, I4]
  refine Lk (.slice b m d) ?_
  simp only [Act.put, I2, I3, I4]
  refine Lk (.int .i64 m) ?_
  simp only [Act.put, I2, I3, I4]
  refine aa rfl (.bool false) (fun w' hw => by simp [go_sem]; omega) ?_
  simp only [Act.put, I2, I3, I4]
  refine Lk (.bool false) ?_
  simp only [Act.put, I2, I3, I4]
  refine aj rfl ?_
  simp only [Act.put, I2, I3, I4]
  refine aj rfl ?_
  simp only [Act.put, I2, I3, I4]
  refine aj rfl ?_
  simp only [Act.put, I2, I3, I4]
  refine aj rfl ?_
  simp only [Act.put, I2, I3, I4]
  refine aj rfl ?_
  simp only [Act.put, I2, I3, I4]
  refine aj rfl ?_
  simp only [Act.put, I2, I3, I4]
  refine aj rfl ?_
  simp only [Act.put, I2, I3, I4]
  refine aj rfl ?_
  simp only [Act.put, I2, I3, I4]
  refine Lk (.bool false) ?_
  simp only [Act.put, I2, I3, I4]
  refine Lk (.bool false) ?_
  simp only [Act.put, I2, I3, I4]
  intro y1 af
  go_wp2_with fail
  go_ret
  exact ⟨by rw [HF.out] <;> rfl, af⟩
 have HF : Hid (prefB l f = (l.take m == f)) := I5 (by unfold prefB; rw [decide_eq_true (by have := HN.out; have := HM.out; omega), ← HM.out]; rfl)
 have cK : (m : Int) ≤ n := by omega
 have AG : (m : Int) ≤ c := by omega
 have Cn : (0 : Int) ≤ m := by omega
 have Eo : m ≤ c := by omega
 have HT := I5 (HS.out.takeT aJ)
 obtain ⟨r, hr⟩ : ∃ r, r = (l.take m == f) := ⟨_, rfl⟩
 rw [← hr] at HF
 refine aP w.heap.size w rfl (by kernel_rfl) (Below.refl _ _) ?_
 refine Lk (.slice a n c) ?_
 simp only [Act.put, I2, I3, I4]
 refine Lk (.int .i64 n) ?_
 simp only [Act.put, I2, I3, I4]
 refine Lk (.slice b m d) ?_
 simp only [Act.put, I2, I3, I4]
 refine Lk (.int .i64 m) ?_
 simp only [Act.put, I2, I3, I4]
 refine aa rfl (.bool true) (fun w' hw => by simp [go_sem]; omega) ?_
 simp only [Act.put, I2, I3, I4]
 refine Lk (.bool true) ?_
 simp only [Act.put, I2, I3, I4]
 refine Lk (.slice a n c) ?_
 simp only [Act.put, I2, I3, I4]
 refine Lk (.slice b m d) ?_
 simp only [Act.put, I2, I3, I4]
 refine Lk (.int .i64 m) ?_
 simp only [Act.put, I2, I3, I4]
 refine aa rfl (.slice a m c) (fun w' hw => by simp [go_sem, Eo, AG, Cn]) ?_
 simp only [Act.put, I2, I3, I4]
 refine aa rfl (.string ⟨(l.take m).toArray⟩) (fun w' hw => by have := bv (HT.out.after hw); simp [go_sem, this]) ?_
 simp only [Act.put, I2, I3, I4]
 refine Lk (.slice b m d) ?_
 simp only [Act.put, I2, I3, I4]
 refine aa rfl (.string ⟨f.toArray⟩) (fun w' hw => by have := bv (mJ.out.after hw); simp [go_sem, this]) ?_
 simp only [Act.put, I2, I3, I4]
 refine aa rfl (.bool r) (fun w' hw => by simp [go_sem, hr]) ?_
 simp only [Act.put, I2, I3, I4]
 refine Lk (.bool r) ?_
 simp only [Act.put, I2, I3, I4]
 refine Lk (.bool r) ?_
 simp only [Act.put, I2, I3, I4]
 intro y1 af
 go_wp2_with fail
 go_ret
 exact ⟨by rw [HF.out] <;> rfl, af⟩
theorem qt (ks : List Tg) (k : Nat) (h : k < ks.length) : Tg.countL (ks.take (k + 1)) = Tg.countL (ks.take k) + ks[k].count := by
 rw [List.take_succ_eq_append_getElem h, ng]
 simp [Tg.countL]
theorem r6 (t : Tg) : ∀ (v : TV) (w : World), RdT (fun _ => True) w v t → Calls Tryz.prog 17 #[v.val] w fun e w' => e = .returned (.int .i64 (wrap64 (t.count : Int))) ∧ Below w.heap.size w w' := by
 induction t using Tg.ind with
 | h kd da ks r ih =>
 intro v w hr
 have IH := I5 ih
 clear ih
 obtain ⟨⟨cH, ho, cK, dv, dx, dw, fJ, fF⟩, an, Kn, cf, hn, K, ah, hk⟩ := hr.parts
 obtain ⟨ay, aw, ap, av, aA, aS, az, vo, am, ak, aE, aB, aD, ar, aq, aI, aC, aH⟩ := v
 obtain ⟨ro, ⟨li, lo, ll⟩, ⟨hi, mN, hl⟩⟩ := r
 dsimp only [Tg.kd, Tg.r, Tg.da, Tg.ks] at cH ho cK dv dx dw fJ fF an Kn cf hn ah hk
 subst cH ho cK dv dx dw hn
 have fL := I5 an
 have ke := I5 Kn
 have kf := I5 cf
 have HR := I5 ah
 have HK := I5 hk
 have ep := I5 an.1
 have kF := I5 Kn.1
 have kG := I5 cf.1
 have cF := Nat.le_trans an.2.1 an.2.2.1
 have cE := Nat.le_trans ah.1 ah.2.1
 unfold maxLen at cF cE
 clear an Kn cf ah hk hr
 have HC := I5 (show (Tg.mk ay da ks ⟨vo, ⟨am, ak, ll⟩, ⟨ar, aq, hl⟩⟩).count = 1 + Tg.countL ks by simp only [Tg.count])
 generalize (Tg.mk ay da ks ⟨vo, ⟨am, ak, ll⟩, ⟨ar, aq, hl⟩⟩).count = R at *
 let x0 := (w.alloc (.cells #[.int .u8 ay, .slice aw ap av, .slice aA ks.length az, .int .u8 vo, .bool am, .bool ak, .slice aE aB aD, .bool ar, .bool aq, .slice aI aC aH] 29))
 have B : Below w.heap.size w x0 := (Below.refl _ _).alloc (Nat.le_refl _) _
 have X : Hid (Box x0 w.heap.size 29 #[.int .u8 ay, .slice aw ap av, .slice aA ks.length az, .int .u8 vo, .bool am, .bool ak, .slice aE aB aD, .bool ar, .bool aq, .slice aI aC aH]) := I5 (Box.new _ _ _)
 show Calls _ _ #[.agg #[.int .u8 ay, .slice aw ap av, .slice aA ks.length az, .int .u8 vo, .bool am, .bool ak, .slice aE aB aD, .bool ar, .bool aq, .slice aI aC aH]] _ _
 go_enter Tryz.func17, Tryz.ntmps17
 go_upto_region 1 with fail
 change Code.wp _ _ _ _ x0
 clear_value x0
 have q2 := X.out.cell 2 rfl
 go_wp2_with fail
 go_loopw [3, 4, 8] (fun nn _ i wr => ∃ k : Nat, k ≤ ks.length ∧ i = .int .i64 k ∧ nn = .int .i64 (wrap64 ((1 + Tg.countL (ks.take k) : Nat) : Int)) ∧ Below w.heap.size w wr ∧ Box wr w.heap.size 29 #[.int .u8 ay, .slice aw ap av, .slice aA ks.length az, .int .u8 vo, .bool am, .bool ak, .slice aE aB aD, .bool ar, .bool aq, .slice aI aC aH]) (fun _ _ i _ => ks.length - (intOf i).toNat)
 case atStart => exact ⟨0, Nat.zero_le _, rfl, by rw [show wrap64 ((1 + Tg.countL (List.take 0 ks) : Nat) : Int) = 1 from by simp only [List.take_zero, Tg.countL]; unfold wrap64; omega], B, X.out⟩
 case round =>
  clear q2 X B
  obtain ⟨k, fy, rfl, rfl, B, hX⟩ := hrel
  have X := I5 hX
  clear hX
  have q2 := X.out.cell 2 rfl
  by_cases aJ : k < ks.length
  case neg =>
   have fS : ¬ (k : Int) < ks.length := by omega
   have HF : Hid (wrap64 ((1 + Tg.countL (ks.take k) : Nat) : Int) = wrap64 (R : Int)) := I5 (by rw [HC.out, List.take_of_length_le (by omega)])
   generalize wrap64 ((1 + Tg.countL (ks.take k) : Nat) : Int) = n9 at *
   go_wp2_with fail
   go_ret
   exact ⟨by rw [← HF.out] <;> rfl, B⟩
  case pos =>
   have fS : (k : Int) < ks.length := by omega
   have cL : (0 : Int) ≤ k := by omega
   obtain ⟨b, o, rfl, a8⟩ := (HR.out.after B).range aJ
   have fM := I5 a8
   clear a8
   have IH2 := I5 (IH.out _ (List.getElem_mem aJ) (K k) wr ((HK.out k aJ).after B))
   have jy := I5 (qt ks k aJ)
   obtain ⟨c1, o7⟩ : ∃ c, c = ks[k].count := ⟨_, rfl⟩
   rw [← o7] at IH2 jy
   clear o7
   have HW := I5 ((pg ((1 + Tg.countL (ks.take k) : Nat) : Int) (c1 : Int)).trans (show wrap64 (((1 + Tg.countL (ks.take k) : Nat) : Int) + (c1 : Int)) = wrap64 ((1 + Tg.countL (ks.take (k + 1)) : Nat) : Int) by rw [jy.out]; congr 1; omega))
   obtain ⟨n2, gk⟩ : ∃ n, n = wrap64 ((1 + Tg.countL (ks.take (k + 1)) : Nat) : Int) := ⟨_, rfl⟩
   rw [← gk] at HW
   have iu := I5 gk
   clear gk
   generalize wrap64 ((1 + Tg.countL (ks.take k) : Nat) : Int) = n1 at *
   generalize wrap64 (c1 : Int) = n3 at *
   go_wp2_with (refine cC _ rfl b _ rfl _ fM.out rfl ?_)
   refine IH2.out.mono ?_
   rintro e z1 ⟨rfl, af⟩
   replace B := B.trans (af.mono B.size)
   replace X := I5 (X.out.after af)
   clear af IH2 fM
   go_wp2_with fail
   go_roundw
   case rel => exact ⟨k + 1, by omega, by go_num, by rw [← iu.out]; exact congrArg (Value.int .i64) HW.out, B, X.out⟩
   case measure => simp [intOf]; omega
theorem rP (t : Tg) : ∀ (v : TV) (m : Nat) (w : World), RdT (fun _ => True) w v t → m ≤ 61 → Calls Tryz.prog 6 #[v.val, .int .i64 m] w fun e w' => e = .returned (.bool (t.great m)) ∧ Below w.heap.size w w' := by
 induction t using Tg.ind with
 | h kd da ks r ih =>
 intro v m w hr hm
 have IH := I5 ih
 clear ih
 have gU := I5 hr
 obtain ⟨⟨cH, ho, cK, dv, dx, dw, fJ, fF⟩, an, Kn, cf, hn, K, ah, hk⟩ := hr.parts
 obtain ⟨ay, aw, ap, av, aA, aS, az, vo, am, ak, aE, aB, aD, ar, aq, aI, aC, aH⟩ := v
 obtain ⟨ro, ⟨li, lo, ll⟩, ⟨hi, mN, hl⟩⟩ := r
 dsimp only [Tg.kd, Tg.r, Tg.da, Tg.ks] at cH ho cK dv dx dw fJ fF an Kn cf hn ah hk
 subst cH ho cK dv dx dw hn
 have fL := I5 an
 have ke := I5 Kn
 have kf := I5 cf
 have HR := I5 ah
 have HK := I5 hk
 have ep := I5 an.1
 have kF := I5 Kn.1
 have kG := I5 cf.1
 have cF := Nat.le_trans an.2.1 an.2.2.1
 have cE := Nat.le_trans ah.1 ah.2.1
 unfold maxLen at cF cE
 clear an Kn cf ah hk hr
 have tC := I5 (kJ ay da ks ⟨vo, ⟨am, ak, ll⟩, ⟨ar, aq, hl⟩⟩ m)
 rw [show decide (5000 < da.length) = decide (5000 < ap) by rw [ep.out], show wideR ⟨vo, ⟨am, ak, ll⟩, ⟨ar, aq, hl⟩⟩ = (decide (200 < aB) || decide (200 < aC)) by unfold wideR; rw [← kF.out, ← kG.out]] at tC
 have xI := I5 (fun h => ms (t := .mk ay da ks ⟨vo, ⟨am, ak, ll⟩, ⟨ar, aq, hl⟩⟩) (m := m) h)
 have BO := I5 (fun h1 h2 => rN (t := .mk ay da ks ⟨vo, ⟨am, ak, ll⟩, ⟨ar, aq, hl⟩⟩) (m := m) h1 h2)
 have BN := I5 (fun h => lf (t := .mk ay da ks ⟨vo, ⟨am, ak, ll⟩, ⟨ar, aq, hl⟩⟩) h)
 have CG := I5 (fun w' => lr vo am ak aE aB aD ar aq aI aC aH w')
 have CC := I5 (fun w' (h : Below w.heap.size w w') => r6 (.mk ay da ks ⟨vo, ⟨am, ak, ll⟩, ⟨ar, aq, hl⟩⟩) ⟨ay, aw, ap, av, aA, ks.length, az, vo, am, ak, aE, aB, aD, ar, aq, aI, aC, aH⟩ w' (gU.out.after h))
 obtain ⟨g9, Ex⟩ : ∃ g, g = (decide (200 < aB) || decide (200 < aC)) := ⟨_, rfl⟩
 rw [← Ex] at tC
 simp only [← Ex] at CG
 clear Ex
 let x0 := (w.alloc (.cells #[.int .u8 ay, .slice aw ap av, .slice aA ks.length az, .int .u8 vo, .bool am, .bool ak, .slice aE aB aD, .bool ar, .bool aq, .slice aI aC aH] 29))
 have B : Below w.heap.size w x0 := (Below.refl _ _).alloc (Nat.le_refl _) _
 have X : Hid (Box x0 w.heap.size 29 #[.int .u8 ay, .slice aw ap av, .slice aA ks.length az, .int .u8 vo, .bool am, .bool ak, .slice aE aB aD, .bool ar, .bool aq, .slice aI aC aH]) := I5 (Box.new _ _ _)
 show Calls _ _ #[.agg #[.int .u8 ay, .slice aw ap av, .slice aA ks.length az, .int .u8 vo, .bool am, .bool ak, .slice aE aB aD, .bool ar, .bool aq, .slice aI aC aH], .int .i64 m] _ _
 go_enter Tryz.func6, Tryz.ntmps6
 go_upto_region 1 with fail
 change Code.wp _ _ _ _ x0
 clear_value x0
 have q1 := X.out.cell 1 rfl
 have q2 := X.out.cell 2 rfl
 by_cases h1 : 60 < m
 case pos =>
  have HF := I5 (xI.out (by rw [tC.out]; simp [h1]))
  clear tC xI BO BN
  have h1i : (60 : Int) < m := by omega
  go_wp2_with fail
  go_ret
  exact ⟨by rw [HF.out] <;> rfl, B⟩
 by_cases h2 : 700 < ks.length
 case pos =>
  have HF := I5 (xI.out (by rw [tC.out]; simp [h2]))
  clear tC xI BO BN
  have h1i : ¬ (60 : Int) < m := by omega
  have h2i : (700 : Int) < ks.length := by omega
  go_wp2_with fail
  go_ret
  exact ⟨by rw [HF.out] <;> rfl, B⟩
 by_cases h3 : 5000 < ap
 case pos =>
  have HF := I5 (xI.out (by rw [tC.out]; simp [h3]))
  clear tC xI BO BN
  have h1i : ¬ (60 : Int) < m := by omega
  have h2i : ¬ (700 : Int) < ks.length := by omega
  have h3i : (5000 : Int) < ap := by omega
  go_wp2_with fail
  go_ret
  exact ⟨by rw [HF.out] <;> rfl, B⟩
 have h1i : ¬ (60 : Int) < m := by omega
 have h2i : ¬ (700 : Int) < ks.length := by omega
 have h3i : ¬ (5000 : Int) < ap := by omega
 go_wp2_with (refine ai rfl 27 _ rfl _ 3 rfl [.int .u8 vo, .bool am, .bool ak, .slice aE aB aD, .bool ar, .bool aq, .slice aI aC aH] _ (Box.midR X.out 3 [.int .u8 vo, .bool am, .bool ak, .slice aE aB aD, .bool ar, .bool aq, .slice aI aC aH] rfl) Tryz.underlying27 rfl (by kernel_rfl) ?_)
 refine (CG.out x0).mono ?_
 rintro e x1 ⟨rfl, DE⟩
 replace X := I5 (X.out.after DE)
 replace B := B.trans (DE.mono B.size)
 clear DE
 clear CG
 cases g9 with
 | true =>
  have HF := I5 (xI.out (by rw [tC.out]; simp))
  clear tC xI BO BN
  go_wp2_with fail
  go_ret
  exact ⟨by rw [HF.out] <;> rfl, B⟩
 | false =>
  have zp : Hid (_ = Tg.wideL ks (m + 1)) := I5 (tC.out.trans (by rw [decide_eq_false h1, decide_eq_false h2, decide_eq_false h3]; rfl))
  clear tC
  have q2 := X.out.cell 2 rfl
  have yL : (m : Int) + 1 ≤ 62 := by omega
  go_wp2_with fail
  go_loopw [5, 28] (fun _ i wr => ∃ k : Nat, k ≤ ks.length ∧ i = .int .i64 k ∧ Hid (Tg.wideL (ks.take k) (m + 1) = false) ∧ Below w.heap.size w wr ∧ Box wr w.heap.size 29 #[.int .u8 ay, .slice aw ap av, .slice aA ks.length az, .int .u8 vo, .bool am, .bool ak, .slice aE aB aD, .bool ar, .bool aq, .slice aI aC aH]) (fun _ i _ => ks.length - (intOf i).toNat)
  case atStart => exact ⟨0, Nat.zero_le _, rfl, I5 rfl, B, X.out⟩
  case round =>
   clear q2 X B
   obtain ⟨k, fy, rfl, gy, B, hX⟩ := hrel
   have X := I5 hX
   clear hX
   have q2 := X.out.cell 2 rfl
   by_cases aJ : k < ks.length
   case neg =>
    have fS : ¬ (k : Int) < ks.length := by omega
    have Fb := I5 (zp.out.trans (show Tg.wideL ks (m + 1) = false by rw [← gy.out, List.take_of_length_le (by omega)]))
    clear zp gy
    by_cases Cn : m = 0
    case neg =>
     have ID : ((m : Int) == 0) = false := by simp; omega
     have HF := I5 (BO.out (by omega) Fb.out)
     go_wp2_with fail
     go_ret
     exact ⟨by rw [HF.out] <;> rfl, B⟩
    subst Cn
    have HF := I5 (BN.out Fb.out)
    clear xI BO BN Fb
    generalize wrap64 ((Tg.mk ay da ks ⟨vo, ⟨am, ak, ll⟩, ⟨ar, aq, hl⟩⟩).count : Int) = n9 at *
    go_wp2_with (refine ab rfl 29 _ rfl X.out (by rfl) Tryz.underlying29 rfl (by kernel_rfl) ?_)
    refine (CC.out wr B).mono ?_
    rintro e x2 ⟨rfl, Jn⟩
    replace X := I5 (X.out.after Jn)
    replace B := B.trans (Jn.mono B.size)
    clear Jn
    go_wp2_with fail
    go_ret
    exact ⟨by rw [HF.out] <;> rfl, B⟩
   case pos =>
    have fS : (k : Int) < ks.length := by omega
    have cL : (0 : Int) ≤ k := by omega
    obtain ⟨b, o, rfl, a8⟩ := (HR.out.after B).range aJ
    have fM := I5 a8
    clear a8
    obtain ⟨ck, fT⟩ : ∃ ck, ck = ks[k].great (m + 1) := ⟨_, rfl⟩
    have IH2 := IH.out _ (List.getElem_mem aJ) (K k) (m + 1) wr ((HK.out k aJ).after B) (by omega)
    rw [← fT, show ((m + 1 : Nat) : Int) = (m : Int) + 1 by omega] at IH2
    rw [rO] at fT
    replace IH2 := I5 IH2
    have gQ := I5 fT
    clear fT
    have jy := I5 (pm ks (m + 1) k aJ)
    go_wp2_with (refine cC _ rfl b _ rfl _ fM.out rfl ?_)
    refine IH2.out.mono ?_
    rintro e z1 ⟨rfl, af⟩
    replace B := B.trans (af.mono B.size)
    replace X := I5 (X.out.after af)
    clear af IH2 fM
    cases ck with
    | true =>
     have HF := I5 (xI.out (zp.out.trans (lE (List.getElem_mem aJ) gQ.out.symm)))
     go_wp2_with fail
     go_ret
     exact ⟨by rw [HF.out] <;> rfl, B⟩
    | false =>
     go_wp2_with fail
     go_roundw
     case rel => exact ⟨k + 1, by omega, by go_num, I5 (by rw [jy.out, gy.out, ← gQ.out]; rfl), B, X.out⟩
     case measure => simp [intOf]; omega
end Go.Proofs.YtmmkaclmgnpplaaGreatDoor

import Derived.Test.YtmmkaclmgnpplaaGreatDoorMz13
set_option maxRecDepth 100000
set_option maxHeartbeats 64000000
set_option linter.unusedSimpArgs false
set_option linter.unusedVariables false
namespace Go.Proofs.YtmmkaclmgnpplaaGreatDoor
open Go.RowKit
theorem wh (g : Nat) (a : Option Addr) (n c : Nat) (l : List UInt8) (b : Option Addr) (m d : Nat) (k : List UInt8) (w : World) (hg : w.cell? ⟨g, 0, none⟩ = some (.func (.func 140) #[] #[])) (h1 : Sl w a n c l) (h2 : Sl w b m d k) :
  Calls Tryz.prog 167 #[.slice a n c, .slice b m d, .pointer (some ⟨g, 0, none⟩)] w (CmpP 3 l k w) := by
 have qH := cA hg
 have ja := h1.len_le
 have jx := h2.len_le
 unfold CmpP
 have x1 : ((clockV l) != (clockV l)) = false := by simp
 have x2 : ((clockV k) != (clockV k)) = false := by simp
 obtain ⟨X, hX⟩ : ∃ X, X = clockV l := ⟨_, rfl⟩
 obtain ⟨Y, hY⟩ : ∃ Y, Y = clockV k := ⟨_, rfl⟩
 rw [← hX] at x1
 rw [← hY] at x2
 have HX := I5 hX
 have HY := I5 hY
 cases hl : clockOk l with
 | false =>
  obtain ⟨q1, q2⟩ := ey 3 l k (jJ l hl)
  rw [q1, q2]
  have HL := I5 hl
  clear q1 q2 hl hX hY
  go_enter Tryz.func167, Tryz.ntmps167
  go_wp2_with fail
  refine (ei _ _ _ _ _ h1 ja).mono ?_
  rintro e w1 ⟨rfl, af⟩
  rw [HL.out, ← HX.out]
  have m7 := (af.cell qH).trans hg
  go_wp2_with fail
  refine (ei _ _ _ _ _ (h2.after af) jx).mono ?_
  rintro e w2 ⟨rfl, aK⟩
  rw [← HY.out]
  have bE := af.trans (aK.mono af.size)
  go_wp2_with fail
  go_ret2
  exact ⟨rfl, bE⟩
 | true => cases hk : clockOk k with
  | false =>
   obtain ⟨q1, q2⟩ := fR 3 l k (jJ k hk)
   rw [q1, q2]
   have HL := I5 hl
   have HK := I5 hk
   clear q1 q2 hl hk hX hY
   go_enter Tryz.func167, Tryz.ntmps167
   go_wp2_with fail
   refine (ei _ _ _ _ _ h1 ja).mono ?_
   rintro e w1 ⟨rfl, af⟩
   rw [HL.out, ← HX.out]
   have m7 := (af.cell qH).trans hg
   go_wp2_with fail
   refine (ei _ _ _ _ _ (h2.after af) jx).mono ?_
   rintro e w2 ⟨rfl, aK⟩
   rw [HK.out, ← HY.out]
   have bE := af.trans (aK.mono af.size)
   go_wp2_with fail
   go_ret2
   exact ⟨rfl, bE⟩
  | true =>
   obtain ⟨q1, q2⟩ := ex 3 l k _ _ (iE l hl) (iE k hk)
   rw [q1, q2, gr, ← hX, ← hY]
   have HL := I5 hl
   have HK := I5 hk
   clear q1 q2 hl hk hX hY
   go_enter Tryz.func167, Tryz.ntmps167
   go_wp2_with fail
   refine (ei _ _ _ _ _ h1 ja).mono ?_
   rintro e w1 ⟨rfl, af⟩
   rw [HL.out, ← HX.out]
   have m7 := (af.cell qH).trans hg
   go_wp2_with fail
   refine (ei _ _ _ _ _ (h2.after af) jx).mono ?_
   rintro e w2 ⟨rfl, aK⟩
   rw [HK.out, ← HY.out]
   have bE := af.trans (aK.mono af.size)
   go_wp2_with fail
   refine (qw _ _ _).mono ?_
   rintro e w3 ⟨rfl, rfl⟩
   go_wp2_with fail
   go_ret2
   exact ⟨rfl, bE⟩
theorem wg (g : Nat) (a : Option Addr) (n c : Nat) (l : List UInt8) (b : Option Addr) (m d : Nat) (k : List UInt8) (w : World) (hg : w.cell? ⟨g, 0, none⟩ = some (.func (.func 142) #[] #[])) (h1 : Sl w a n c l) (h2 : Sl w b m d k) :
  Calls Tryz.prog 167 #[.slice a n c, .slice b m d, .pointer (some ⟨g, 0, none⟩)] w (CmpP 5 l k w) := by
 have qH := cA hg
 have ja := h1.len_le
 have jx := h2.len_le
 unfold CmpP
 have x1 : ((dateV l) != (dateV l)) = false := by simp
 have x2 : ((dateV k) != (dateV k)) = false := by simp
 obtain ⟨X, hX⟩ : ∃ X, X = dateV l := ⟨_, rfl⟩
 obtain ⟨Y, hY⟩ : ∃ Y, Y = dateV k := ⟨_, rfl⟩
 rw [← hX] at x1
 rw [← hY] at x2
 have HX := I5 hX
 have HY := I5 hY
 cases hl : dateOk l with
 | false =>
  obtain ⟨q1, q2⟩ := ey 5 l k (jI l hl)
  rw [q1, q2]
  have HL := I5 hl
  clear q1 q2 hl hX hY
  go_enter Tryz.func167, Tryz.ntmps167
  go_wp2_with fail
  refine (gn _ _ _ _ _ h1 ja).mono ?_
  rintro e w1 ⟨rfl, af⟩
  rw [HL.out, ← HX.out]
  have m7 := (af.cell qH).trans hg
  go_wp2_with fail
  refine (gn _ _ _ _ _ (h2.after af) jx).mono ?_
  rintro e w2 ⟨rfl, aK⟩
  rw [← HY.out]
  have bE := af.trans (aK.mono af.size)
  go_wp2_with fail
  go_ret2
  exact ⟨rfl, bE⟩
 | true => cases hk : dateOk k with
  | false =>
   obtain ⟨q1, q2⟩ := fR 5 l k (jI k hk)
   rw [q1, q2]
   have HL := I5 hl
   have HK := I5 hk
   clear q1 q2 hl hk hX hY
   go_enter Tryz.func167, Tryz.ntmps167
   go_wp2_with fail
   refine (gn _ _ _ _ _ h1 ja).mono ?_
   rintro e w1 ⟨rfl, af⟩
   rw [HL.out, ← HX.out]
   have m7 := (af.cell qH).trans hg
   go_wp2_with fail
   refine (gn _ _ _ _ _ (h2.after af) jx).mono ?_
   rintro e w2 ⟨rfl, aK⟩
   rw [HK.out, ← HY.out]
   have bE := af.trans (aK.mono af.size)
   go_wp2_with fail
   go_ret2
   exact ⟨rfl, bE⟩
  | true =>
   obtain ⟨q1, q2⟩ := ex 5 l k _ _ (iD l hl) (iD k hk)
   rw [q1, q2, gr, ← hX, ← hY]
   have HL := I5 hl
   have HK := I5 hk
   clear q1 q2 hl hk hX hY
   go_enter Tryz.func167, Tryz.ntmps167
   go_wp2_with fail
   refine (gn _ _ _ _ _ h1 ja).mono ?_
   rintro e w1 ⟨rfl, af⟩
   rw [HL.out, ← HX.out]
   have m7 := (af.cell qH).trans hg
   go_wp2_with fail
   refine (gn _ _ _ _ _ (h2.after af) jx).mono ?_
   rintro e w2 ⟨rfl, aK⟩
   rw [HK.out, ← HY.out]
   have bE := af.trans (aK.mono af.size)
   go_wp2_with fail
   refine (qw _ _ _).mono ?_
   rintro e w3 ⟨rfl, rfl⟩
   go_wp2_with fail
   go_ret2
   exact ⟨rfl, bE⟩
theorem yb (f : Nat) (w : World) : Calls Tryz.prog 137 #[.func (.func f) #[] #[]] w fun e w' => e = .returned (.func (.func 159) #[] #[.pointer (some ⟨w.heap.size, 0, none⟩)]) ∧ w'.cell? ⟨w.heap.size, 0, none⟩ = some (.func (.func f) #[] #[]) ∧ Below w.heap.size w w' := by
 have Dv : ∀ fn first cap W, (Instr.makeFunc fn first cap).run Tryz.prog W = .ok (.func fn first cap) W := fun _ _ _ _ => rfl
 go_enter Tryz.func137, Tryz.ntmps137
 go_wp2_with fail
 go_ret
 exact ⟨rfl, by go_side, (Below.refl _ _).alloc (Nat.le_refl _) _⟩
theorem sO (f : Nat) (w : World) : Calls Tryz.prog 139 #[.func (.func f) #[] #[]] w fun e w' => e = .returned (.func (.func 167) #[] #[.pointer (some ⟨w.heap.size, 0, none⟩)]) ∧ w'.cell? ⟨w.heap.size, 0, none⟩ = some (.func (.func f) #[] #[]) ∧ Below w.heap.size w w' := by
 have Dv : ∀ fn first cap W, (Instr.makeFunc fn first cap).run Tryz.prog W = .ok (.func fn first cap) W := fun _ _ _ _ => rfl
 go_enter Tryz.func139, Tryz.ntmps139
 go_wp2_with fail
 go_ret
 exact ⟨rfl, by go_side, (Below.refl _ _).alloc (Nat.le_refl _) _⟩
theorem sM (w : World) : Calls Tryz.prog 115 #[.int .u8 1] w fun e w' => e = .returned (.func (.func 136) #[] #[]) ∧ w = w' := by
 go_enter Tryz.func115, Tryz.ntmps115
 go_wp2_with fail
 go_ret
 exact ⟨rfl, rfl⟩
theorem sJ (w : World) : Calls Tryz.prog 115 #[.int .u8 4] w fun e w' => e = .returned (.func (.func 141) #[] #[]) ∧ w = w' := by
 go_enter Tryz.func115, Tryz.ntmps115
 go_wp2_with fail
 go_ret
 exact ⟨rfl, rfl⟩
theorem sL (w : World) : Calls Tryz.prog 115 #[.int .u8 2] w fun e w' => ∃ g, e = .returned (.func (.func 159) #[] #[.pointer (some ⟨g, 0, none⟩)]) ∧ w'.cell? ⟨g, 0, none⟩ = some (.func (.func 138) #[] #[]) ∧ Below w.heap.size w w' := by
 go_enter Tryz.func115, Tryz.ntmps115
 go_wp2_with fail
 refine (yb _ _).mono ?_
 rintro e w1 ⟨rfl, hg, hb⟩
 go_wp2_with fail
 go_ret
 exact ⟨_, rfl, hg, hb⟩
theorem sK (w : World) : Calls Tryz.prog 115 #[.int .u8 3] w fun e w' => ∃ g, e = .returned (.func (.func 167) #[] #[.pointer (some ⟨g, 0, none⟩)]) ∧ w'.cell? ⟨g, 0, none⟩ = some (.func (.func 140) #[] #[]) ∧ Below w.heap.size w w' := by
 go_enter Tryz.func115, Tryz.ntmps115
 go_wp2_with fail
 refine (sO _ _).mono ?_
 rintro e w1 ⟨rfl, hg, hb⟩
 go_wp2_with fail
 go_ret
 exact ⟨_, rfl, hg, hb⟩
theorem sI (w : World) : Calls Tryz.prog 115 #[.int .u8 5] w fun e w' => ∃ g, e = .returned (.func (.func 167) #[] #[.pointer (some ⟨g, 0, none⟩)]) ∧ w'.cell? ⟨g, 0, none⟩ = some (.func (.func 142) #[] #[]) ∧ Below w.heap.size w w' := by
 go_enter Tryz.func115, Tryz.ntmps115
 go_wp2_with fail
 refine (sO _ _).mono ?_
 rintro e w1 ⟨rfl, hg, hb⟩
 go_wp2_with fail
 go_ret
 exact ⟨_, rfl, hg, hb⟩
theorem sH (o : Nat) (w : World) (h : isO o = false) : Calls Tryz.prog 115 #[.int .u8 o] w fun e w' => e = .returned .nilFunc ∧ w = w' := by
 have h' : o = 0 ∨ 6 ≤ o := by unfold isO at h; simp at h; omega
 have e1 : ((o : Int) == 1) = false := by rw [beq_eq_false_iff_ne]; omega
 have e2 : ((o : Int) == 2) = false := by rw [beq_eq_false_iff_ne]; omega
 have e3 : ((o : Int) == 3) = false := by rw [beq_eq_false_iff_ne]; omega
 have e4 : ((o : Int) == 4) = false := by rw [beq_eq_false_iff_ne]; omega
 have e5 : ((o : Int) == 5) = false := by rw [beq_eq_false_iff_ne]; omega
 clear h h'
 go_enter Tryz.func115, Tryz.ntmps115
 go_wp2_with fail
 go_ret
 exact ⟨rfl, rfl⟩
theorem uU (a : Option Addr) (n c : Nat) (l : List UInt8) (b : Option Addr) (m d : Nat) (k : List UInt8) (w : World) (h1 : Sl w a n c l) (h2 : Sl w b m d k) (_hn : n ≤ 6000) (_hm : m ≤ 6000) :
  Calls Tryz.prog 117 #[.int .u8 1, .slice a n c, .slice b m d] w (CmpP 1 l k w) := by
 have ly : ∀ fn fs cs W, (binOp .eql 118 (.func fn fs cs) .nilFunc).run Tryz.prog W = .ok (.bool false) W := fun _ _ _ _ => rfl
 go_enter Tryz.func117, Tryz.ntmps117
 go_wp2_with fail
 refine (sM _).mono ?_
 rintro e w1 ⟨rfl, rfl⟩
 go_wp2_with fail
 refine (vi _ _ _ _ _ _ _ _ _ h1 h2).mono ?_
 rintro e w1 ⟨rfl, HB⟩
 go_wp2_with fail
 go_ret2
 exact ⟨rfl, HB⟩
theorem uR (a : Option Addr) (n c : Nat) (l : List UInt8) (b : Option Addr) (m d : Nat) (k : List UInt8) (w : World) (h1 : Sl w a n c l) (h2 : Sl w b m d k) (hn : n ≤ 6000) (hm : m ≤ 6000) :
  Calls Tryz.prog 117 #[.int .u8 4, .slice a n c, .slice b m d] w (CmpP 4 l k w) := by
 have ly : ∀ fn fs cs W, (binOp .eql 118 (.func fn fs cs) .nilFunc).run Tryz.prog W = .ok (.bool false) W := fun _ _ _ _ => rfl
 go_enter Tryz.func117, Tryz.ntmps117
 go_wp2_with fail
 refine (sJ _).mono ?_
 rintro e w1 ⟨rfl, rfl⟩
 go_wp2_with fail
 refine (sn _ _ _ _ _ _ _ _ _ h1 h2 hn hm).mono ?_
 rintro e w1 ⟨rfl, HB⟩
 go_wp2_with fail
 go_ret2
 exact ⟨rfl, HB⟩
theorem uT (a : Option Addr) (n c : Nat) (l : List UInt8) (b : Option Addr) (m d : Nat) (k : List UInt8) (w : World) (h1 : Sl w a n c l) (h2 : Sl w b m d k) (hn : n ≤ 6000) (hm : m ≤ 6000) :
  Calls Tryz.prog 117 #[.int .u8 2, .slice a n c, .slice b m d] w (CmpP 2 l k w) := by
 have ly : ∀ fn fs cs W, (binOp .eql 118 (.func fn fs cs) .nilFunc).run Tryz.prog W = .ok (.bool false) W := fun _ _ _ _ => rfl
 go_enter Tryz.func117, Tryz.ntmps117
 go_wp2_with fail
 refine (sL _).mono ?_
 rintro e w1 ⟨g, rfl, hg, hb⟩
 go_wp2_with fail
 refine (we _ _ _ _ _ _ _ _ _ _ hg (h1.after hb) (h2.after hb) hn hm).mono ?_
 rintro e w2 ⟨rfl, aK⟩
 have HB := hb.trans (aK.mono hb.size)
 go_wp2_with fail
 go_ret2
 exact ⟨rfl, HB⟩
theorem uS (a : Option Addr) (n c : Nat) (l : List UInt8) (b : Option Addr) (m d : Nat) (k : List UInt8) (w : World) (h1 : Sl w a n c l) (h2 : Sl w b m d k) (_hn : n ≤ 6000) (_hm : m ≤ 6000) :
  Calls Tryz.prog 117 #[.int .u8 3, .slice a n c, .slice b m d] w (CmpP 3 l k w) := by
 have ly : ∀ fn fs cs W, (binOp .eql 118 (.func fn fs cs) .nilFunc).run Tryz.prog W = .ok (.bool false) W := fun _ _ _ _ => rfl
 go_enter Tryz.func117, Tryz.ntmps117
 go_wp2_with fail
 refine (sK _).mono ?_
 rintro e w1 ⟨g, rfl, hg, hb⟩
 go_wp2_with fail
 refine (wh _ _ _ _ _ _ _ _ _ _ hg (h1.after hb) (h2.after hb)).mono ?_
 rintro e w2 ⟨rfl, aK⟩
 have HB := hb.trans (aK.mono hb.size)
 go_wp2_with fail
 go_ret2
 exact ⟨rfl, HB⟩
theorem uQ (a : Option Addr) (n c : Nat) (l : List UInt8) (b : Option Addr) (m d : Nat) (k : List UInt8) (w : World) (h1 : Sl w a n c l) (h2 : Sl w b m d k) (_hn : n ≤ 6000) (_hm : m ≤ 6000) :
  Calls Tryz.prog 117 #[.int .u8 5, .slice a n c, .slice b m d] w (CmpP 5 l k w) := by
 have ly : ∀ fn fs cs W, (binOp .eql 118 (.func fn fs cs) .nilFunc).run Tryz.prog W = .ok (.bool false) W := fun _ _ _ _ => rfl
 go_enter Tryz.func117, Tryz.ntmps117
 go_wp2_with fail
 refine (sI _).mono ?_
 rintro e w1 ⟨g, rfl, hg, hb⟩
 go_wp2_with fail
 refine (wg _ _ _ _ _ _ _ _ _ _ hg (h1.after hb) (h2.after hb)).mono ?_
 rintro e w2 ⟨rfl, aK⟩
 have HB := hb.trans (aK.mono hb.size)
 go_wp2_with fail
 go_ret2
 exact ⟨rfl, HB⟩
theorem sE (o : Nat) (l : List UInt8) (h : isO o = false) : ordV o l = none := by
 have h' : o = 0 ∨ 6 ≤ o := by unfold isO at h; simp at h; omega
 unfold ordV
 rw [if_neg (by omega), if_neg (by omega), if_neg (by omega), if_neg (by omega), if_neg (by omega)]
theorem fU (o : Nat) (a : Option Addr) (n c : Nat) (l : List UInt8) (b : Option Addr) (m d : Nat) (k : List UInt8) (w : World) (h1 : Sl w a n c l) (h2 : Sl w b m d k) (hn : n ≤ 6000) (hm : m ≤ 6000) :
  Calls Tryz.prog 117 #[.int .u8 o, .slice a n c, .slice b m d] w (CmpP o l k w) := by
 cases ho : isO o
 ·obtain ⟨q1, q2⟩ := ey o l k (sE o l ho)
  unfold CmpP
  rw [q1, q2]
  have ly : ∀ W, (binOp .eql 118 .nilFunc .nilFunc).run Tryz.prog W = .ok (.bool true) W := fun _ => rfl
  go_enter Tryz.func117, Tryz.ntmps117
  go_wp2_with fail
  refine (sH _ _ ho).mono ?_
  rintro e w1 ⟨rfl, rfl⟩
  go_wp2_with fail
  go_ret2
  exact ⟨rfl, Below.refl _ _⟩
 ·have h' : o = 1 ∨ o = 2 ∨ o = 3 ∨ o = 4 ∨ o = 5 := by unfold isO at ho; simp at ho; omega
  rcases h' with rfl | rfl | rfl | rfl | rfl
  ·exact uU _ _ _ _ _ _ _ _ _ h1 h2 hn hm
  ·exact uT _ _ _ _ _ _ _ _ _ h1 h2 hn hm
  ·exact uS _ _ _ _ _ _ _ _ _ h1 h2 hn hm
  ·exact uR _ _ _ _ _ _ _ _ _ h1 h2 hn hm
  ·exact uQ _ _ _ _ _ _ _ _ _ h1 h2 hn hm
theorem gN (o : Nat) (a : Option Addr) (n c : Nat) (l : List UInt8) (w : World) (h1 : Sl w a n c l) (hn : n ≤ 6000) :
  Calls Tryz.prog 108 #[.int .u8 o, .slice a n c] w fun e w' => e = .returned (.bool (isV o l)) ∧ Below w.heap.size w w' := by
 have q : okV o l l = isV o l := by unfold okV; simp
 rw [← q]
 clear q
 go_enter Tryz.func108, Tryz.ntmps108
 go_wp2_with fail
 refine (fU _ _ _ _ _ _ _ _ _ _ h1 h1 hn hn).mono ?_
 rintro e w1 ⟨rfl, hb⟩
 go_wp2_with fail
 go_ret
 exact ⟨rfl, hb⟩
theorem oT (o : Nat) (xi xo : Bool) (xa : Option Addr) (xn xc : Nat) (xl : List UInt8) (w : World) (Sx : Sl w xa xn xc xl) (Nx : xn ≤ 6000) :
  Calls Tryz.prog 116 #[.int .u8 o, .agg #[.bool xi, .bool xo, .slice xa xn xc]] w fun e w' => e = .returned (.bool (endB o ⟨xi, xo, xl⟩)) ∧ Below w.heap.size w w' := by
 have au : Below w.heap.size w (w.alloc (.cells #[.bool xi, .bool xo, .slice xa xn xc] 25 (0, 0))) := (Below.refl _ _).alloc (Nat.le_refl _) _
 have yH := Sx.after au
 cases xi
 ·cases xo
  ·by_cases h0 : xn = 0
   ·subst h0
    have hl := Sx.1
    have q : endB o ⟨false, false, xl⟩ = true := by unfold endB; simp; exact List.eq_nil_of_length_eq_zero hl.symm
    rw [q]
    clear hl q
    go_enter Tryz.func116, Tryz.ntmps116
    go_wp2_with fail
    go_ret
    exact ⟨rfl, au⟩
   ·have hl := Sx.1
    have q : endB o ⟨false, false, xl⟩ = false := by
     unfold endB; simp; intro h; subst h; exact h0 (by simpa using hl)
    rw [q]
    have q2 : ((xn : Int) == 0) = false := by rw [beq_eq_false_iff_ne]; omega
    clear hl q h0
    go_enter Tryz.func116, Tryz.ntmps116
    go_wp2_with fail
    go_ret
    exact ⟨rfl, au⟩
  ·have q : endB o ⟨false, true, xl⟩ = false := rfl
   rw [q]
   go_enter Tryz.func116, Tryz.ntmps116
   go_wp2_with fail
   go_ret
   exact ⟨rfl, au⟩
 ·have q : endB o ⟨true, xo, xl⟩ = isV o xl := rfl
  rw [q]
  go_enter Tryz.func116, Tryz.ntmps116
  go_wp2_with fail
  refine (gN _ _ _ _ _ _ yH Nx).mono ?_
  rintro e w1 ⟨rfl, af⟩
  have hW := au.trans (af.mono au.size)
  go_wp2_with fail
  go_ret
  exact ⟨rfl, hW⟩
theorem ow (o : Nat) (w : World) : Calls Tryz.prog 115 #[.int .u8 o] w fun e w' => ∃ v, e = .returned v ∧ (isO o = true → ∃ fn fs cs, v = .func fn fs cs) ∧ (isO o = false → v = .nilFunc) ∧ Below w.heap.size w w' := by
 cases ho : isO o
 ·refine (sH o w ho).mono ?_
  rintro e w1 ⟨rfl, rfl⟩
  exact ⟨_, rfl, (fun h => by cases h), fun _ => rfl, Below.refl _ _⟩
 ·have h' : o = 1 ∨ o = 2 ∨ o = 3 ∨ o = 4 ∨ o = 5 := by unfold isO at ho; simp at ho; omega
  rcases h' with rfl | rfl | rfl | rfl | rfl
  ·refine (sM w).mono ?_
   rintro e w1 ⟨rfl, rfl⟩
   exact ⟨_, rfl, (fun _ => ⟨_, _, _, rfl⟩), (fun h => by cases h), Below.refl _ _⟩
  ·refine (sL w).mono ?_
   rintro e w1 ⟨g, rfl, _, hb⟩
   exact ⟨_, rfl, (fun _ => ⟨_, _, _, rfl⟩), (fun h => by cases h), hb⟩
  ·refine (sK w).mono ?_
   rintro e w1 ⟨g, rfl, _, hb⟩
   exact ⟨_, rfl, (fun _ => ⟨_, _, _, rfl⟩), (fun h => by cases h), hb⟩
  ·refine (sJ w).mono ?_
   rintro e w1 ⟨rfl, rfl⟩
   exact ⟨_, rfl, (fun _ => ⟨_, _, _, rfl⟩), (fun h => by cases h), Below.refl _ _⟩
  ·refine (sI w).mono ?_
   rintro e w1 ⟨g, rfl, _, hb⟩
   exact ⟨_, rfl, (fun _ => ⟨_, _, _, rfl⟩), (fun h => by cases h), hb⟩
theorem aR (r : Nat) (bV a7 : Bool) (bs : Option Addr) (bi bm : Nat) (bU : List UInt8) (bW bf : Bool) (bu : Option Addr) (bg bt : Nat) (bZ : List UInt8) (w : World) (Srl : Sl w bs bi bm bU) (Nrl : bi ≤ 6000) (Srh : Sl w bu bg bt bZ) (Nrh : bg ≤ 6000) :
  Calls Tryz.prog 88 #[.agg #[.int .u8 r, .bool bV, .bool a7, .slice bs bi bm, .bool bW, .bool bf, .slice bu bg bt]] w fun e w' => e = .returned (.bool (mayB ⟨r, ⟨bV, a7, bU⟩, ⟨bW, bf, bZ⟩⟩)) ∧ Below w.heap.size w w' := by
 have au : Below w.heap.size w (w.alloc (.cells #[.int .u8 r, .bool bV, .bool a7, .slice bs bi bm, .bool bW, .bool bf, .slice bu bg bt] 27 (0, 0))) := (Below.refl _ _).alloc (Nat.le_refl _) _
 have an := Srl.after au
 have aO := Srh.after au
 have ly : ∀ fn fs cs W, (binOp .neq 118 (.func fn fs cs) .nilFunc).run Tryz.prog W = .ok (.bool true) W := fun _ _ _ _ => rfl
 have Iy : ∀ W, (binOp .neq 118 .nilFunc .nilFunc).run Tryz.prog W = .ok (.bool false) W := fun _ => rfl
 have B0 : Box (w.alloc (.cells #[.int .u8 r, .bool bV, .bool a7, .slice bs bi bm, .bool bW, .bool bf, .slice bu bg bt] 27 (0, 0))) w.heap.size 27 #[.int .u8 r, .bool bV, .bool a7, .slice bs bi bm, .bool bW, .bool bf, .slice bu bg bt] := Box.new _ _ _
 cases ho : isO r
 ·have q : mayB ⟨r, ⟨bV, a7, bU⟩, ⟨bW, bf, bZ⟩⟩ = false := by unfold mayB; simp [ho]
  rw [q]
  go_enter Tryz.func88, Tryz.ntmps88
  go_wp2_with fail
  refine (ow _ _).mono ?_
  rintro e w1 ⟨v, rfl, _, hv, af⟩
  obtain rfl := hv ho
  have hW := au.trans (af.mono au.size)
  go_wp2_with fail
  go_ret
  exact ⟨rfl, hW⟩
 ·cases he : endB r ⟨bV, a7, bU⟩
  ·have q : mayB ⟨r, ⟨bV, a7, bU⟩, ⟨bW, bf, bZ⟩⟩ = false := by unfold mayB; simp [ho, he]
   rw [q]
   go_enter Tryz.func88, Tryz.ntmps88
   go_wp2_with fail
   refine (ow _ _).mono ?_
   rintro e w1 ⟨v, rfl, hv, _, af⟩
   obtain ⟨fn, fs, cs, rfl⟩ := hv ho
   have hW := au.trans (af.mono au.size)
   have B1 := B0.after af
   obtain ⟨C1, hC⟩ : ∃ C, C = w1 := ⟨_, rfl⟩
   have c0 := B1.cell 0 rfl
   have c1 := B1.cell 1 rfl
   have c2 := B1.cell 2 rfl
   have c3 := B1.cell 3 rfl
   go_wp2_with fail
   refine (oT _ _ _ _ _ _ _ _ (an.after af) Nrl).mono ?_
   rintro e w2 ⟨rfl, aK⟩
   rw [he]
   have bE := hW.trans (aK.mono hW.size)
   go_wp2_with fail
   go_ret
   exact ⟨rfl, bE⟩
  ·have q : mayB ⟨r, ⟨bV, a7, bU⟩, ⟨bW, bf, bZ⟩⟩ = endB r ⟨bW, bf, bZ⟩ := by unfold mayB; simp [ho, he]
   rw [q]
   go_enter Tryz.func88, Tryz.ntmps88
   go_wp2_with fail
   refine (ow _ _).mono ?_
   rintro e w1 ⟨v, rfl, hv, _, af⟩
   obtain ⟨fn, fs, cs, rfl⟩ := hv ho
   have hW := au.trans (af.mono au.size)
   have B1 := B0.after af
   have c0 := B1.cell 0 rfl
   have c1 := B1.cell 1 rfl
   have c2 := B1.cell 2 rfl
   have c3 := B1.cell 3 rfl
   go_wp2_with fail
   refine (oT _ _ _ _ _ _ _ _ (an.after af) Nrl).mono ?_
   rintro e w2 ⟨rfl, aK⟩
   rw [he]
   have bE := hW.trans (aK.mono hW.size)
   have B2 := B1.after aK
   have d0 := B2.cell 0 rfl
   have d4 := B2.cell 4 rfl
   have d5 := B2.cell 5 rfl
   have d6 := B2.cell 6 rfl
   go_wp2_with fail
   refine (oT _ _ _ _ _ _ _ _ ((aO.after af).after aK) Nrh).mono ?_
   rintro e w3 ⟨rfl, bK⟩
   have gl := bE.trans (bK.mono bE.size)
   go_wp2_with fail
   go_ret
   exact ⟨rfl, gl⟩
theorem vI (o : Nat) (xi xo : Bool) (xa : Option Addr) (xn xc : Nat) (xl : List UInt8) (ba : Option Addr) (bn bc : Nat) (bl : List UInt8) (t : Int) (ht : t = 1 ∨ t = -1) (w : World) (Sx : Sl w xa xn xc xl) (Nx : xn ≤ 6000) (Sb : Sl w ba bn bc bl) (Nb : bn ≤ 6000) :
  Calls Tryz.prog 109 #[.int .u8 o, .agg #[.bool xi, .bool xo, .slice xa xn xc], .slice ba bn bc, .int .i64 t] w fun e w' => e = .returned (.bool (wiB o ⟨xi, xo, xl⟩ bl t)) ∧ Below w.heap.size w w' := by
 have au : Below w.heap.size w (w.alloc (.cells #[.bool xi, .bool xo, .slice xa xn xc] 25 (0, 0))) := (Below.refl _ _).alloc (Nat.le_refl _) _
 have yH := Sx.after au
 have an := Sb.after au
 have B0 : Box (w.alloc (.cells #[.bool xi, .bool xo, .slice xa xn xc] 25 (0, 0))) w.heap.size 25 #[.bool xi, .bool xo, .slice xa xn xc] := Box.new _ _ _
 cases xi
 ·have q : wiB o ⟨false, xo, xl⟩ bl t = true := rfl
  rw [q]
  go_enter Tryz.func109, Tryz.ntmps109
  go_wp2_with fail
  go_ret
  exact ⟨rfl, au⟩
 ·have q : wiB o ⟨true, xo, xl⟩ bl t = (decide (0 < t * cV o bl xl) || (decide (cV o bl xl = 0) && !xo)) := rfl
  rw [q]
  have h3 := fG o bl xl
  obtain ⟨C, hC⟩ : ∃ C, C = cV o bl xl := ⟨_, rfl⟩
  rw [← hC] at h3 ⊢
  have HC := I5 hC
  clear hC q
  rcases h3 with rfl | rfl | rfl <;> rcases ht with rfl | rfl <;> cases xo
  all_goals
   go_enter Tryz.func109, Tryz.ntmps109
   go_wp2_with fail
   refine (fU _ _ _ _ _ _ _ _ _ _ an yH Nb Nx).mono ?_
   rintro e w1 ⟨rfl, af⟩
   rw [← HC.out]
   have hW := au.trans (af.mono au.size)
   have B1 := B0.after af
   have c1 := B1.cell 1 rfl
   go_wp2_with fail
   go_ret
   exact ⟨rfl, hW⟩
theorem As (r : Nat) (bV a7 : Bool) (bs : Option Addr) (bi bm : Nat) (bU : List UInt8) (bW bf : Bool) (bu : Option Addr) (bg bt : Nat) (bZ : List UInt8) (ba : Option Addr) (bn bc : Nat) (bl : List UInt8) (w : World) (Srl : Sl w bs bi bm bU) (Nrl : bi ≤ 6000) (Srh : Sl w bu bg bt bZ) (Nrh : bg ≤ 6000) (Sb : Sl w ba bn bc bl) (Nb : bn ≤ 6000) :
  Calls Tryz.prog 79 #[.agg #[.int .u8 r, .bool bV, .bool a7, .slice bs bi bm, .bool bW, .bool bf, .slice bu bg bt], .slice ba bn bc] w fun e w' => e = .returned (.bool (inB ⟨r, ⟨bV, a7, bU⟩, ⟨bW, bf, bZ⟩⟩ bl)) ∧ Below w.heap.size w w' := by
 have au : Below w.heap.size w (w.alloc (.cells #[.int .u8 r, .bool bV, .bool a7, .slice bs bi bm, .bool bW, .bool bf, .slice bu bg bt] 27 (0, 0))) := (Below.refl _ _).alloc (Nat.le_refl _) _
 have an := Srl.after au
 have aO := Srh.after au
 have gV := Sb.after au
 have B0 : Box (w.alloc (.cells #[.int .u8 r, .bool bV, .bool a7, .slice bs bi bm, .bool bW, .bool bf, .slice bu bg bt] 27 (0, 0))) w.heap.size 27 #[.int .u8 r, .bool bV, .bool a7, .slice bs bi bm, .bool bW, .bool bf, .slice bu bg bt] := Box.new _ _ _
 have q0 : inB ⟨r, ⟨bV, a7, bU⟩, ⟨bW, bf, bZ⟩⟩ bl = (mayB ⟨r, ⟨bV, a7, bU⟩, ⟨bW, bf, bZ⟩⟩ && isV r bl && wiB r ⟨bV, a7, bU⟩ bl 1 && wiB r ⟨bW, bf, bZ⟩ bl (-1)) := rfl
 cases hM : mayB ⟨r, ⟨bV, a7, bU⟩, ⟨bW, bf, bZ⟩⟩
 ·have q : inB ⟨r, ⟨bV, a7, bU⟩, ⟨bW, bf, bZ⟩⟩ bl = false := by rw [q0, hM]; rfl
  rw [q]
  go_enter Tryz.func79, Tryz.ntmps79
  go_wp2_with fail
  refine (aR _ _ _ _ _ _ _ _ _ _ _ _ _ _ an Nrl aO Nrh).mono ?_
  rintro e w1 ⟨rfl, af⟩
  rw [hM]
  have hW := au.trans (af.mono au.size)
  go_wp2_with fail
  go_ret
  exact ⟨rfl, hW⟩
 ·cases hV : isV r bl
  ·have q : inB ⟨r, ⟨bV, a7, bU⟩, ⟨bW, bf, bZ⟩⟩ bl = false := by rw [q0, hM, hV]; rfl
   rw [q]
   go_enter Tryz.func79, Tryz.ntmps79
   go_wp2_with fail
   refine (aR _ _ _ _ _ _ _ _ _ _ _ _ _ _ an Nrl aO Nrh).mono ?_
   rintro e w1 ⟨rfl, af⟩
   rw [hM]
   have hW := au.trans (af.mono au.size)
   have B1 := B0.after af
   have c0 := B1.cell 0 rfl
   go_wp2_with fail
   refine (gN _ _ _ _ _ _ (gV.after af) Nb).mono ?_
   rintro e w2 ⟨rfl, aK⟩
   rw [hV]
   have bE := hW.trans (aK.mono hW.size)
   go_wp2_with fail
   go_ret
   exact ⟨rfl, bE⟩
  ·have h3 : inB ⟨r, ⟨bV, a7, bU⟩, ⟨bW, bf, bZ⟩⟩ bl = (wiB r ⟨bV, a7, bU⟩ bl 1 && wiB r ⟨bW, bf, bZ⟩ bl (-1)) := by rw [q0, hM, hV]; rfl
   rw [h3]
   obtain ⟨X, hX⟩ : ∃ X, X = wiB r ⟨bW, bf, bZ⟩ bl (-1) := ⟨_, rfl⟩
   obtain ⟨Y, hY⟩ : ∃ Y, Y = wiB r ⟨bV, a7, bU⟩ bl 1 := ⟨_, rfl⟩
   rw [← hX, ← hY]
   have HX := I5 hX
   have HY := I5 hY
   clear q0 hX hY h3
   cases Y
   all_goals
    go_enter Tryz.func79, Tryz.ntmps79
    go_wp2_with fail
    refine (aR _ _ _ _ _ _ _ _ _ _ _ _ _ _ an Nrl aO Nrh).mono ?_
    rintro e w1 ⟨rfl, af⟩
    rw [hM]
    have hW := au.trans (af.mono au.size)
    have B1 := B0.after af
    have c0 := B1.cell 0 rfl
    go_wp2_with fail
    refine (gN _ _ _ _ _ _ (gV.after af) Nb).mono ?_
    rintro e w2 ⟨rfl, aK⟩
    rw [hV]
    have bE := hW.trans (aK.mono hW.size)
    have B2 := B1.after aK
    have d0 := B2.cell 0 rfl
    have d1 := B2.cell 1 rfl
    have d2 := B2.cell 2 rfl
    have d3 := B2.cell 3 rfl
    go_wp2_with fail
    refine (vI _ _ _ _ _ _ _ _ _ _ _ _ (.inl rfl) _ ((an.after af).after aK) Nrl ((gV.after af).after aK) Nb).mono ?_
    rintro e w3 ⟨rfl, bK⟩
    rw [← HY.out]
    have gl := bE.trans (bK.mono bE.size)
   ·go_wp2_with fail
    go_ret
    exact ⟨rfl, gl⟩
   ·have B3 := B2.after bK
    have e0 := B3.cell 0 rfl
    have e4 := B3.cell 4 rfl
    have e5 := B3.cell 5 rfl
    have e6 := B3.cell 6 rfl
    go_wp2_with fail
    refine (vI _ _ _ _ _ _ _ _ _ _ _ _ (.inr rfl) _ (((aO.after af).after aK).after bK) Nrh (((gV.after af).after aK).after bK) Nb).mono ?_
    rintro e w4 ⟨rfl, hb4⟩
    rw [← HX.out]
    have nb := gl.trans (hb4.mono gl.size)
    go_wp2_with fail
    go_ret
    exact ⟨rfl, nb⟩
end Go.Proofs.YtmmkaclmgnpplaaGreatDoor

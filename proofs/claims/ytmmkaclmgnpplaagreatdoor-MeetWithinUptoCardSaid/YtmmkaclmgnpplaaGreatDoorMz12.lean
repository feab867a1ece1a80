import Derived.Test.YtmmkaclmgnpplaaGreatDoorMz11
import Derived.Lib.BytesEntry
import Derived.Lib.SlBytesConst
import Derived.WalkSpells
set_option maxRecDepth 100000
set_option maxHeartbeats 64000000
set_option linter.unusedSimpArgs false
set_option linter.unusedVariables false
namespace Go.Proofs.YtmmkaclmgnpplaaGreatDoor
open Go.RowKit
def cmpZ (x y : Int) : Int := if x < y then -1 else if y < x then 1 else 0
theorem jn (x : Int) (w : World) : Calls Tryz.prog 191 #[.int .i64 x] w fun e w' => e = .returned (.bool false) ∧ w = w' := by
 have h : (x != x) = false := by simp
 go_enter Tryz.func191, Tryz.ntmps191
 go_wp2_with fail
 go_ret
 exact ⟨rfl, rfl⟩
theorem jm (x : Int) (w : World) : Calls Tryz.prog 186 #[.int .i64 x] w fun e w' => e = .returned (.bool false) ∧ w = w' := by
 have h : (x != x) = false := by simp
 go_enter Tryz.func186, Tryz.ntmps186
 go_wp2_with fail
 go_ret
 exact ⟨rfl, rfl⟩
theorem xj (x y : Int) (w : World) : Calls Tryz.prog 173 #[.int .i64 x, .int .i64 y] w fun e w' => e = .returned (.int .i64 (cmpZ x y)) ∧ w = w' := by
 unfold cmpZ
 rcases Int.lt_trichotomy x y with c | c | c
 ·rw [if_pos c]
  go_enter Tryz.func173, Tryz.ntmps173
  go_wp2_with (first | (go_at_call 191; refine (jn _ _).mono ?_; rintro e w' ⟨rfl, rfl⟩))
  go_ret
  exact ⟨rfl, rfl⟩
 ·have h1 : y ≤ x := by omega
  have h2 : x ≤ y := by omega
  rw [if_neg (by omega), if_neg (by omega)]
  clear c
  go_enter Tryz.func173, Tryz.ntmps173
  go_wp2_with (first | (go_at_call 191; refine (jn _ _).mono ?_; rintro e w' ⟨rfl, rfl⟩))
  go_ret
  exact ⟨rfl, rfl⟩
 ·have h1 : y ≤ x := by omega
  rw [if_neg (by omega), if_pos c]
  go_enter Tryz.func173, Tryz.ntmps173
  go_wp2_with (first | (go_at_call 191; refine (jn _ _).mono ?_; rintro e w' ⟨rfl, rfl⟩))
  go_ret
  exact ⟨rfl, rfl⟩
theorem qw (x y : Int) (w : World) : Calls Tryz.prog 168 #[.int .i64 x, .int .i64 y] w fun e w' => e = .returned (.int .i64 (cmpZ x y)) ∧ w = w' := by
 unfold cmpZ
 rcases Int.lt_trichotomy x y with c | c | c
 ·rw [if_pos c]
  go_enter Tryz.func168, Tryz.ntmps168
  go_wp2_with (first | (go_at_call 186; refine (jm _ _).mono ?_; rintro e w' ⟨rfl, rfl⟩))
  go_ret
  exact ⟨rfl, rfl⟩
 ·have h1 : y ≤ x := by omega
  have h2 : x ≤ y := by omega
  rw [if_neg (by omega), if_neg (by omega)]
  clear c
  go_enter Tryz.func168, Tryz.ntmps168
  go_wp2_with (first | (go_at_call 186; refine (jm _ _).mono ?_; rintro e w' ⟨rfl, rfl⟩))
  go_ret
  exact ⟨rfl, rfl⟩
 ·have h1 : y ≤ x := by omega
  rw [if_neg (by omega), if_pos c]
  go_enter Tryz.func168, Tryz.ntmps168
  go_wp2_with (first | (go_at_call 186; refine (jm _ _).mono ?_; rintro e w' ⟨rfl, rfl⟩))
  go_ret
  exact ⟨rfl, rfl⟩
theorem fV : ∀ l k : List UInt8, Lib.compareBytes l k = bcmp l k
 | [], [] => rfl
 | [], _ :: _ => by simp [Lib.compareBytes, bcmp, Op.bytesLess]
 | _ :: _, [] => by simp [Lib.compareBytes, bcmp, Op.bytesLess]
 | a :: l, b :: k => by
  have ih := fV l k
  unfold Lib.compareBytes
  unfold bcmp at ih ⊢
  by_cases h : a < b
  ·simp [h, Op.bytesLess]
  ·by_cases h' : b < a
   ·have gj : a ≠ b := by rintro rfl; exact absurd h' h
    simp [h, h', Op.bytesLess, gj]
   ·have e : a = b := UInt8.le_antisymm (UInt8.not_lt.1 h') (UInt8.not_lt.1 h)
    subst e
    simp [Op.bytesLess, ih]
theorem g7 {w : World} {a : Option Addr} {n c : Nat} {l : List UInt8} (h : Sl w a n c l) : (Extern.Bytes.bytesOf (.slice a n c)).run Tryz.prog w = .ok ⟨l.toArray⟩ w := by
 have hl := h.1
 cases a with
 | none =>
  have hc := h.2.2.2.1 rfl
  have : l = [] := List.eq_nil_of_length_eq_zero (by have := h.2.1; omega)
  subst this
  rfl
 | some ad =>
  have hh := Lib.run_loadBytesX (P := Tryz.prog) w (l.map fun c => (c.toNat : Int)) ad .empty ?_
  ·rw [List.length_map, ← hl, lh] at hh
   show (Extern.Bytes.loadBytes ad n .empty).run Tryz.prog w = _
   rw [hh]
   congr 1
   apply ByteArray.ext
   show (#[] : Array UInt8) ++ l.toArray = l.toArray
   simp
  ·intro j x hj
   rcases h.2.2.2.2 with h0 | ⟨b, o, e, hc⟩
   ·have : l = [] := List.eq_nil_of_length_eq_zero (by omega)
    subst this
    simp at hj
   ·obtain rfl := Option.some.inj e
    have aJ : j < l.length := by
     rcases Nat.lt_or_ge j l.length with h' | h'
     ·exact h'
     ·simp [List.getElem?_eq_none h'] at hj
    simp [aJ] at hj
    rw [Addr.add_lit, hc j (by omega), ← hj]
    simp [List.getD_eq_getElem?_getD, aJ]
theorem uJ {w : World} {a b : Option Addr} {n c m d : Nat} {l k : List UInt8} (h1 : Sl w a n c l) (h2 : Sl w b m d k) :
  (Extern.BytealgCompare.compare #[.slice a n c, .slice b m d]).run Tryz.prog w = .ok (.int .i64 (bcmp l k)) w := by
 change Sem.run Tryz.prog (do pure (goInt (Extern.BytealgCompare.cmp (← Extern.Bytes.bytesOf (.slice a n c)) (← Extern.Bytes.bytesOf (.slice b m d))))) w = _
 simp only [Sem.run_bind, Sem.run_pure, g7 h1, g7 h2, Result.andThen]
 rw [Lib.cmp_eq, ← fV]
 rfl
theorem j8 (a : Option Addr) (n c : Nat) (l : List UInt8) (b : Option Addr) (m d : Nat) (k : List UInt8) (w : World) (h1 : Sl w a n c l) (h2 : Sl w b m d k) :
  Calls Tryz.prog 158 #[.slice a n c, .slice b m d] w fun e w' => e = .returned (.int .i64 (bcmp l k)) ∧ w = w' := by
 go_enter Tryz.func158, Tryz.ntmps158
 go_wp2_with fail
 rw [run_callFunc_extern Tryz.func181 (by kernel_rfl) (by kernel_rfl) (by kernel_rfl) (e := Extern.BytealgCompare.compare) (by kernel_rfl), uJ h1 h2]
 simp only [Result.andThen]
 rw [Oper.upon_value]
 go_wp2_with fail
 go_ret
 exact ⟨rfl, rfl⟩
def sLen : Value → Nat
 | .slice _ n _ => n
 | _ => 0
theorem pC (l : List UInt8) : strip (0 :: l) = strip l := by rw [strip]; simp
theorem qP (a : UInt8) (l : List UInt8) (h : a ≠ 0) : strip (a :: l) = a :: l := by rw [strip]; simp [h]
def TrimP (l : List UInt8) (w : World) (e : Ending) (w' : World) : Prop := ∃ a' n' c', e = .returned (.slice a' n' c') ∧ Sl w a' n' c' (strip l) ∧ w = w'
theorem oc (a : Option Addr) (n c : Nat) (l : List UInt8) (w : World) (hs : Sl w a n c l) (hn : n ≤ 6000) :
  Calls Tryz.prog 187 #[.slice a n c, .int .u8 0] w (TrimP l w) := by
 obtain ⟨R, hR⟩ : ∃ R, R = strip l := ⟨_, rfl⟩
 have HR := I5 hR
 unfold TrimP
 rw [← hR]
 clear hR
 go_enter Tryz.func187, Tryz.ntmps187
 go_wp2_with fail
 go_loop [0] (fun s => ∃ (a' : Option Addr) (n' c' : Nat) (l' : List UInt8), s = .slice a' n' c' ∧ n' ≤ 6000 ∧ Hid (Sl w a' n' c' l') ∧ Hid (R = strip l')) (fun s => sLen s)
 case atStart => exact ⟨a, n, c, l, rfl, hn, I5 hs, HR⟩
 case round =>
  obtain ⟨a', n', c', l', rfl, hn', HS, HD⟩ := hrel
  clear hs
  cases l' with
  | nil =>
   obtain rfl : n' = 0 := by have := HS.out.1; simpa using this
   have HE := I5 (show R = [] from HD.out)
   go_wp2_with fail
   go_ret
   exact ⟨none, 0, 0, rfl, by rw [HE.out]; exact ⟨rfl, Nat.le_refl _, Nat.zero_le _, fun _ => rfl, .inl rfl⟩, rfl⟩
  | cons x t =>
   have hl : n' = t.length + 1 := by have := HS.out.1; simpa using this
   have na := HS.out.2.1
   obtain ⟨b, o, rfl, iM, _⟩ := HS.out.some (by omega)
   have c0 := iM 0 (by omega)
   have hp : (0 : Int) < n' := by omega
   clear hl
   simp only [List.getD_cons_zero, Nat.add_zero] at c0
   clear iM
   by_cases hx : x = 0
   ·subst hx
    have HE := I5 (show R = strip t by rw [HD.out, pC])
    have h1 := HS.out.drop 1 (by omega)
    simp only [List.drop_succ_cons, List.drop_zero] at h1
    by_cases o7 : c' = 1
    ·subst o7
     rw [if_pos rfl] at h1
     have H1 := I5 h1
     clear h1
     go_wp2_with fail
     go_round
     case rel => exact ⟨_, _, _, t, by first | rfl | go_num, by omega, H1, HE⟩
     case measure => simp [sLen]; omega
    ·rw [if_neg o7] at h1
     have H1 := I5 h1
     clear h1
     go_wp2_with fail
     go_round
     case rel => exact ⟨_, _, _, t, by first | rfl | go_num, by omega, H1, HE⟩
     case measure => simp [sLen]; omega
   ·have HE := I5 (show R = x :: t by rw [HD.out, qP _ _ hx])
    have q : ((x.toNat : Int) == 0) = false := by
     rw [beq_eq_false_iff_ne]; intro h; exact hx (UInt8.toNat_inj.1 (by simpa using h))
    have q2 : ((n' : Int) == 0) = false := by rw [beq_eq_false_iff_ne]; omega
    clear hx
    go_wp2_with fail
    go_ret
    exact ⟨_, _, _, rfl, by rw [HE.out]; exact HS.out, rfl⟩
theorem pz (a : Option Addr) (n c : Nat) (l : List UInt8) (w : World) (hs : Sl w a n c l) (hn : n ≤ 6000) :
  Calls Tryz.prog 171 #[.slice a n c, .string ⟨#[0]⟩] w (TrimP l w) := by
 by_cases h0 : n = 0
 ·subst h0
  have hl : l = [] := List.eq_nil_of_length_eq_zero hs.1.symm
  subst hl
  go_enter Tryz.func171, Tryz.ntmps171
  go_wp2_with fail
  go_ret
  exact ⟨none, 0, 0, rfl, ⟨rfl, Nat.le_refl _, Nat.zero_le _, fun _ => rfl, .inl rfl⟩, rfl⟩
 ·have q : ((n : Int) == 0) = false := by rw [beq_eq_false_iff_ne]; omega
  go_enter Tryz.func171, Tryz.ntmps171
  go_wp2_with fail
  refine (oc _ _ _ _ _ hs hn).mono ?_
  rintro e w' ⟨a', n', c', rfl, h, rfl⟩
  go_wp2_with fail
  go_ret
  exact ⟨_, _, _, rfl, h, rfl⟩
theorem ey (o : Nat) (l k : List UInt8) (h : ordV o l = none) : okV o l k = false ∧ cV o l k = 0 := by
 have : okV o l k = false := by unfold okV isV; rw [h]; rfl
 exact ⟨this, zS o l k this⟩
theorem fR (o : Nat) (l k : List UInt8) (h : ordV o k = none) : okV o l k = false ∧ cV o l k = 0 := by
 have : okV o l k = false := by unfold okV isV; rw [h]; simp
 exact ⟨this, zS o l k this⟩
theorem ex (o : Nat) (l k : List UInt8) (x y : Int × List UInt8) (h : ordV o l = some x) (h' : ordV o k = some y) : okV o l k = true ∧ cV o l k = cmpK x y := by
 unfold okV isV cV; rw [h, h']; exact ⟨rfl, rfl⟩
theorem gr (x y : Int) : cmpK (x, []) (y, []) = cmpZ x y := by unfold cmpK cmpZ bcmp; simp [Op.bytesLess]
theorem qx (x : Int) (l k : List UInt8) : cmpK (x, l) (x, k) = bcmp l k := by unfold cmpK; simp
theorem qy (x y : Int) (l k : List UInt8) : cmpK (x, l) (y, k) = if cmpZ x y = 0 then bcmp l k else cmpZ x y := by
 unfold cmpK cmpZ
 by_cases h : x < y
 ·simp [h]
 ·by_cases h' : y < x <;> simp [h, h']
theorem Ae (x y : Int) (g c : Nat) (w : World) (h0 : w.cell? ⟨g, 0, none⟩ = some (.int .i64 x)) (h1 : w.cell? ⟨g, 1, none⟩ = some (.int .i64 y)) :
  Calls Tryz.prog 172 #[.slice (some ⟨g, 0, none⟩) 2 c] w fun e w' => e = .returned (.int .i64 (if x = 0 then y else x)) ∧ w = w' := by
 by_cases hx : x = 0
 ·subst hx
  rw [if_pos rfl]
  by_cases hy : y = 0
  ·subst hy
   go_enter Tryz.func172, Tryz.ntmps172
   go_wp2_with fail
   refine wp_loop_rounds 3 ?_
   rw [rounds_succ]
   go_wp2_with fail
   rw [rounds_succ]
   go_wp2_with fail
   rw [rounds_succ]
   go_wp2_with fail
   go_ret
   exact ⟨rfl, rfl⟩
  ·have q : (y != 0) = true := by rw [bne_iff_ne]; exact hy
   clear hy
   go_enter Tryz.func172, Tryz.ntmps172
   go_wp2_with fail
   refine wp_loop_rounds 2 ?_
   rw [rounds_succ]
   go_wp2_with fail
   rw [rounds_succ]
   go_wp2_with fail
   go_ret
   exact ⟨rfl, rfl⟩
 ·have q : (x != 0) = true := by rw [bne_iff_ne]; exact hx
  rw [if_neg hx]
  clear hx
  go_enter Tryz.func172, Tryz.ntmps172
  go_wp2_with fail
  refine wp_loop_rounds 1 ?_
  rw [rounds_succ]
  go_wp2_with fail
  go_ret
  exact ⟨rfl, rfl⟩
def CmpP (o : Nat) (l k : List UInt8) (w : World) (e : Ending) (w' : World) : Prop := e = .returned (.tuple #[.int .i64 (cV o l k), .bool (okV o l k)]) ∧ Below w.heap.size w w'
theorem vi (a : Option Addr) (n c : Nat) (l : List UInt8) (b : Option Addr) (m d : Nat) (k : List UInt8) (w : World) (h1 : Sl w a n c l) (h2 : Sl w b m d k) :
  Calls Tryz.prog 136 #[.slice a n c, .slice b m d] w (CmpP 1 l k w) := by
 obtain ⟨q1, q2⟩ := ex 1 l k (0, l) (0, k) rfl rfl
 rw [qx] at q2
 unfold CmpP
 rw [q1, q2]
 clear q1 q2
 go_enter Tryz.func136, Tryz.ntmps136
 go_wp2_with fail
 refine (j8 _ _ _ _ _ _ _ _ _ h1 h2).mono ?_
 rintro e w' ⟨rfl, rfl⟩
 go_wp2_with fail
 go_ret2
 exact ⟨rfl, Below.refl _ _⟩
theorem sn (a : Option Addr) (n c : Nat) (l : List UInt8) (b : Option Addr) (m d : Nat) (k : List UInt8) (w : World) (h1 : Sl w a n c l) (h2 : Sl w b m d k) (hn : n ≤ 6000) (hm : m ≤ 6000) :
  Calls Tryz.prog 141 #[.slice a n c, .slice b m d] w (CmpP 4 l k w) := by
 obtain ⟨q1, q2⟩ := ex 4 l k (((strip l).length : Nat), strip l) (((strip k).length : Nat), strip k) rfl rfl
 rw [qy] at q2
 obtain ⟨R, hR⟩ : ∃ R, R = cV 4 l k := ⟨_, rfl⟩
 rw [← hR] at q2
 unfold CmpP
 rw [q1, ← hR]
 have HR := I5 q2
 clear q1 q2 hR
 go_enter Tryz.func141, Tryz.ntmps141
 go_wp2_with fail
 refine (pz _ _ _ _ _ h1 hn).mono ?_
 rintro e w' ⟨a1, n1, c1, rfl, s1, rfl⟩
 go_wp2_with fail
 refine (pz _ _ _ _ _ h2 hm).mono ?_
 rintro e w' ⟨b1, m1, d1, rfl, s2, rfl⟩
 have zX := I5 HR.out
 rw [← s1.1, ← s2.1] at zX
 obtain ⟨Z, hZ⟩ : ∃ Z, Z = cmpZ n1 m1 := ⟨_, rfl⟩
 obtain ⟨B, hB⟩ : ∃ B, B = bcmp (strip l) (strip k) := ⟨_, rfl⟩
 rw [← hZ, ← hB] at zX
 have HZ := I5 hZ
 have HB := I5 hB
 clear hZ hB HR
 go_wp2_with fail
 refine (xj _ _ _).mono ?_
 rintro e w' ⟨rfl, rfl⟩
 rw [← HZ.out]
 go_wp2_with fail
 refine (j8 _ _ _ _ _ _ _ _ _ s1 s2).mono ?_
 rintro e w' ⟨rfl, rfl⟩
 rw [← HB.out]
 go_wp2_with fail
 refine (Ae Z B _ _ _ (by go_side) (by go_side)).mono ?_
 rintro e w' ⟨rfl, rfl⟩
 rw [← zX.out]
 go_wp2_with fail
 go_ret2
 exact ⟨rfl, (Below.refl _ _).alloc (Nat.le_refl _) _⟩
theorem l7 (x : Nat) : (FloatKind.f64.format.order x x != some .eq) = isNan x := by
 have h := vS x
 show (!(Ieee.double.order x x == some .eq)) = _
 rw [h]; simp
theorem kP (x : Nat) (w : World) :
  Calls Tryz.prog 182 #[.float .f64 x] w fun e w' => e = .returned (.bool (isNan x)) ∧ w = w' := by
 have h := l7 x
 go_enter Tryz.func182, Tryz.ntmps182
 go_wp2_with fail
 go_ret
 exact ⟨rfl, rfl⟩
def cmpI (x y : Nat) : Int := if key x < key y then -1 else if key y < key x then 1 else 0
theorem qQ (x y : Nat) (hx : isNan x = false) (hy : isNan y = false) (w : World) :
  Calls Tryz.prog 160 #[.float .f64 x, .float .f64 y] w fun e w' => e = .returned (.int .i64 (cmpI x y)) ∧ w = w' := by
 have h1 : (FloatKind.f64.format.order x y == some .lt) = decide (key x < key y) := vT hx hy
 have h2 : (FloatKind.f64.format.order x y == some .gt) = decide (key y < key x) := vU hx hy
 unfold cmpI
 by_cases c1 : key x < key y
 ·rw [if_pos c1]
  rw [decide_eq_true c1] at h1
  go_enter Tryz.func160, Tryz.ntmps160
  go_wp2_with (first | (go_at_call 182; refine (kP _ _).mono ?_; rintro e w' ⟨rfl, rfl⟩; simp only [hx, hy]))
  go_ret
  exact ⟨rfl, rfl⟩
 ·rw [if_neg c1]
  rw [decide_eq_false c1] at h1
  by_cases c2 : key y < key x
  ·rw [if_pos c2]
   rw [decide_eq_true c2] at h2
   go_enter Tryz.func160, Tryz.ntmps160
   go_wp2_with (first | (go_at_call 182; refine (kP _ _).mono ?_; rintro e w' ⟨rfl, rfl⟩; simp only [hx, hy]))
   go_ret
   exact ⟨rfl, rfl⟩
  ·rw [if_neg c2]
   rw [decide_eq_false c2] at h2
   go_enter Tryz.func160, Tryz.ntmps160
   go_wp2_with (first | (go_at_call 182; refine (kP _ _).mono ?_; rintro e w' ⟨rfl, rfl⟩; simp only [hx, hy]))
   go_ret
   exact ⟨rfl, rfl⟩
def cmpV (x y : Nat) : Int := if isNan x || isNan y then 0 else cmpI x y
def cmpOk (x y : Nat) : Bool := !(isNan x || isNan y)
theorem rh (x y : Nat) (w : World) :
  Calls Tryz.prog 130 #[.float .f64 x, .float .f64 y] w fun e w' => e = .returned (.tuple #[.int .i64 (cmpV x y), .bool (cmpOk x y)]) ∧ w = w' := by
 unfold cmpV cmpOk
 by_cases hn : isNan x = true ∨ isNan y = true
 ·have h0 := sD hn
  have h1 : (FloatKind.f64.format.order x y == some .lt) = false := by show (Ieee.double.order x y == some .lt) = false; rw [h0]; rfl
  have h2 : (FloatKind.f64.format.order x y == some .gt) = false := by show (Ieee.double.order x y == some .gt) = false; rw [h0]; rfl
  have h3 : (FloatKind.f64.format.order x y == some .eq) = false := by show (Ieee.double.order x y == some .eq) = false; rw [h0]; rfl
  have hb : (isNan x || isNan y) = true := by rcases hn with h | h <;> simp [h]
  rw [hb]
  clear h0 hn hb
  go_enter Tryz.func130, Tryz.ntmps130
  go_wp2_with fail
  go_ret2
  exact ⟨rfl, rfl⟩
 ·have hx : isNan x = false := by cases h : isNan x <;> simp_all
  have hy : isNan y = false := by cases h : isNan y <;> simp_all
  have h1 : (FloatKind.f64.format.order x y == some .lt) = decide (key x < key y) := vT hx hy
  have h2 : (FloatKind.f64.format.order x y == some .gt) = decide (key y < key x) := vU hx hy
  have h3 : (FloatKind.f64.format.order x y == some .eq) = decide (key x = key y) := vV hx hy
  have hb : (isNan x || isNan y) = false := by simp [hx, hy]
  rw [hb]
  unfold cmpI
  clear hn hb
  rcases Int.lt_trichotomy (key x) (key y) with c | c | c
  ·rw [if_pos c]
   rw [decide_eq_true c] at h1
   clear h2 h3
   go_enter Tryz.func130, Tryz.ntmps130
   go_wp2_with fail
   go_ret2
   exact ⟨rfl, rfl⟩
  ·rw [if_neg (show ¬ key x < key y by omega), if_neg (show ¬ key y < key x by omega)]
   rw [decide_eq_false (show ¬ key x < key y by omega)] at h1
   rw [decide_eq_false (show ¬ key y < key x by omega)] at h2
   rw [decide_eq_true c] at h3
   clear c
   go_enter Tryz.func130, Tryz.ntmps130
   go_wp2_with fail
   go_ret2
   exact ⟨rfl, rfl⟩
  ·rw [if_neg (show ¬ key x < key y by omega), if_pos c]
   rw [decide_eq_false (show ¬ key x < key y by omega)] at h1
   rw [decide_eq_true c] at h2
   clear h3
   go_enter Tryz.func130, Tryz.ntmps130
   go_wp2_with fail
   go_ret2
   exact ⟨rfl, rfl⟩
def Agree (x y : Nat) : Prop := (isNan x = true ∧ isNan y = true) ∨ (isNan x = false ∧ x = y)
def digV (n : Nat) (l : List UInt8) : Nat := (digs n l).getD 0
def digOk (n : Nat) (l : List UInt8) : Bool := (digs n l).isSome && decide (0 < l.length)
theorem j5 (v : Nat) (l : List UInt8) (k : Nat) (h : k < l.length) : digs v (l.drop k) = if 48 ≤ (l.getD k 0).toNat ∧ (l.getD k 0).toNat ≤ 57 then digs (10 * v + ((l.getD k 0).toNat - 48)) (l.drop (k + 1)) else none := by
 rw [List.drop_eq_getElem_cons h, digs]
 have e : l.getD k 0 = l[k] := by simp [List.getD_eq_getElem?_getD, h]
 rw [e]
theorem eg (n a : Nat) (s : Option Addr) (len cap : Nat) (l : List UInt8) (w : World) (hs : Sl w s len cap l) (hn : n < 10 ^ a) (hl : a + l.length ≤ 18) :
  Calls Tryz.prog 165 #[.int .i64 n, .slice s len cap] w fun e w' => e = .returned (.tuple #[.int .i64 (digV n l), .bool (digOk n l)]) ∧ w = w' := by
 obtain ⟨R, hR⟩ : ∃ R, R = digs n l := ⟨_, rfl⟩
 have HS := I5 hs
 have HL := I5 hs.1
 have HV := I5 (show digV n l = R.getD 0 by rw [hR]; rfl)
 have HO := I5 (show digOk n l = (R.isSome && decide (0 < l.length)) by rw [hR]; rfl)
 have HR := I5 hR
 have HA := I5 hl
 have dh : len ≤ 18 := by have := hs.1; omega
 rw [HV.out, HO.out]
 clear hs hR hl
 go_enter Tryz.func165, Tryz.ntmps165
 go_wp2_with fail
 go_loop [0, 10] (fun n i => ∃ k x : Nat, k ≤ len ∧ i = .int .i64 k ∧ n = .int .i64 x ∧ Hid (x < 10 ^ (a + k)) ∧ Hid (R = digs x (l.drop k))) (fun _ i => len - (intOf i).toNat)
 case atStart => exact ⟨0, n, Nat.zero_le _, rfl, rfl, I5 hn, HR⟩
 case round =>
  obtain ⟨k, x, hk, rfl, rfl, HX, HD⟩ := hrel
  clear hn
  by_cases aJ : k < len
  ·obtain ⟨b, o, rfl, iM, _⟩ := HS.out.some (by omega)
   have c0 := iM k aJ
   have fy : k < l.length := by have := HL.out; omega
   have HT := I5 (j5 x l k fy)
   obtain ⟨c, vw⟩ : ∃ c, c = l.getD k 0 := ⟨_, rfl⟩
   rw [← vw] at c0 HT
   have Cc : x < 100000000000000000 := by
    have h1 := HX.out
    have h2 := HA.out
    exact Nat.lt_of_lt_of_le h1 (Nat.pow_le_pow_right (n := 10) (by omega) (show a + k ≤ 17 by have := HL.out; omega))
   have hc255 := c.toNat_lt
   have HP := I5 (show 10 ^ (a + (k + 1)) = 10 * 10 ^ (a + k) by rw [← Nat.add_assoc, Nat.pow_succ]; omega)
   clear iM vw fy
   by_cases hd : 48 ≤ c.toNat ∧ c.toNat ≤ 57
   ·obtain ⟨d1, d2⟩ := hd
    have HE := I5 (show R = digs (10 * x + (c.toNat - 48)) (l.drop (k + 1)) by rw [HD.out, HT.out, if_pos ⟨d1, d2⟩])
    go_wp2_with fail
    go_round
    case rel => exact ⟨k + 1, 10 * x + (c.toNat - 48), by omega, by go_num, by go_num, I5 (by rw [HP.out]; have := HX.out; omega), HE⟩
    case measure => simp [intOf]; omega
   ·have HE := I5 (show R = none by rw [HD.out, HT.out, if_neg hd])
    by_cases d1 : (c.toNat : Int) < 48
    ·clear hd
     go_wp2_with fail
     go_ret2
     exact ⟨by rw [HE.out]; rfl, rfl⟩
    ·have d2 : (57 : Int) < c.toNat := by omega
     clear hd
     go_wp2_with fail
     go_ret2
     exact ⟨by rw [HE.out]; rfl, rfl⟩
  ·obtain rfl : k = len := by omega
   have HE := I5 (show R = some x by rw [HD.out, List.drop_of_length_le (by have := HL.out; omega)]; rfl)
   have HK := I5 (show l.length = k from HL.out.symm)
   by_cases h0 : (0 : Int) < k
   ·go_wp2_with fail
    go_ret2
    exact ⟨by rw [HE.out, HK.out]; simp, rfl⟩
   ·have h1 : (k : Int) ≤ 0 := by omega
    go_wp2_with fail
    go_ret2
    exact ⟨by rw [HE.out, HK.out]; simp, rfl⟩
def GetP_XNumGet (o : Option Nat) (w : World) (e : Ending) (w' : World) : Prop := e = .returned (.tuple #[.float .f64 (o.getD 0), .bool o.isSome]) ∧ Below w.heap.size w w'
theorem Ac (w : World) (L : List UInt8) (fr : Nat × Nat) (hL : L.length ≤ 100) : Sl (w.alloc (.cells (Lib.byteCells L).toArray 5 fr)) (Option.some ⟨w.heap.size, 0, none⟩) L.length L.length L := by
 refine ⟨rfl, Nat.le_refl _, by unfold maxLen; omega, (fun h => by cases h), .inr ⟨w.heap.size, 0, rfl, fun i hi => ?_⟩⟩
 rw [World.cell?_alloc_mark]
 simp [Lib.byteCells, List.getD_eq_getElem?_getD, hi]
theorem ez (a : Option Addr) (n c : Nat) (l : List UInt8) (w : World) (hs : Sl w a n c l) (hn : n ≤ 6000) :
  Calls Tryz.prog 138 #[.slice a n c] w (GetP_XNumGet (getO l) w) := by
 have q1 := bv hs
 by_cases k1 : l = sInf
 ·subst k1
  go_enter Tryz.func138, Tryz.ntmps138
  go_wp2_with fail
  refine (yq _).mono ?_
  rintro e w1 ⟨rfl, rfl⟩
  go_wp2_with fail
  go_ret2
  exact ⟨rfl, Below.refl _ _⟩
 by_cases k2 : l = sNinf
 ·subst k2
  go_enter Tryz.func138, Tryz.ntmps138
  go_wp2_with fail
  refine (yu _).mono ?_
  rintro e w1 ⟨rfl, rfl⟩
  go_wp2_with fail
  go_ret2
  exact ⟨rfl, Below.refl _ _⟩
 by_cases k3 : l = sNan
 ·subst k3
  go_enter Tryz.func138, Tryz.ntmps138
  go_wp2_with fail
  refine (x7 _).mono ?_
  rintro e w1 ⟨rfl, rfl⟩
  go_wp2_with fail
  go_ret2
  exact ⟨rfl, Below.refl _ _⟩
 have zU := I5 (show getO l = (numP (undash l)).map fun p => signed (dash l) (quoB p.1 p.2) by unfold getO; rw [if_neg k1, if_neg k2, if_neg k3])
 have j1 : (l == [105, 110, 102]) = false := by simpa [sInf] using k1
 have j2 : (l == [45, 105, 110, 102]) = false := by simpa [sNinf] using k2
 have j3 : (l == [110, 97, 110]) = false := by simpa [sNan] using k3
 clear k1 k2 k3
 have s1 : Sl (w.alloc (.cells #[.int .u8 45] 5 (1, 2))) (some ⟨w.heap.size, 0, none⟩) 1 1 [45] := Ac w [45] (1, 2) (by decide)
 have af : Below w.heap.size w (w.alloc (.cells #[.int .u8 45] 5 (1, 2))) := (Below.refl _ _).alloc (Nat.le_refl _) _
 have an := I5 (hs.after af)
 have kc := fun (w : World) (C : Array Value) (n c : Nat) => Lib.run_convert_bytes_const (P := Tryz.prog) w 22 5 C n c Tryz.underlying22 Tryz.underlying5
 clear hs
 go_enter Tryz.func138, Tryz.ntmps138
 go_wp2_with fail
 refine (qs _ _ _ l _ _ _ an.out s1 hn).mono ?_
 rintro e w1 ⟨a1, n1, c1, rfl, hS1, rfl⟩
 obtain ⟨u, hu⟩ : ∃ u, u = undash l := ⟨_, rfl⟩
 rw [← hu] at hS1 zU
 have ig : n1 ≤ 6000 := by
  have h1 := an.out.1
  have h2 := hS1.1
  rw [hu] at h2
  unfold undash at h2
  split at h2
  ·simp at h2; omega
  ·omega
 have Hu := I5 hu
 generalize Hy : w.alloc (.cells #[.int .u8 45] 5 (1, 2)) = W at *
 clear q1 s1 j1 j2 j3 an Hy hu
 have aK : Below W.heap.size W (W.alloc (.cells #[.int .u8 46] 5 (1, 2))) := (Below.refl _ _).alloc (Nat.le_refl _) _
 have BG := I5 (hS1.after aK)
 have c2 : (W.alloc (.cells #[.int .u8 46] 5 (1, 2))).cell? ⟨W.heap.size, 0, none⟩ = some (.int .u8 46) := by rw [World.cell?_alloc_mark]; rfl
 have mO := af.trans (aK.mono af.size)
 clear hS1
 go_wp2_with fail
 refine (rZ _ _ _ u _ _ _ BG.out c2 (Nat.le_refl _) ig).mono ?_
 rintro e w2 ⟨a2, n2, c2', a3, n3, c3, rfl, hSW, hSP, bK⟩
 have hB := mO.trans (bK.mono mO.size)
 have gk : n2 ≤ 6000 := by
  have h1 := hSW.1
  have h2 := BG.out.1
  unfold whole at h1
  simp at h1
  omega
 have Du : n3 ≤ 6000 := by
  have h1 := hSP.1
  have h2 := BG.out.1
  unfold part at h1
  simp at h1
  omega
 have HW := I5 (hSW.after bK)
 have HP := I5 (hSP.after bK)
 clear BG c2 aK mO bK
 have HN := I5 (show numP u = if 15 < n2 + n3 then none else
   match digs 0 (whole u) with
   | none => none
   | some n =>
    if n2 = 0 then none else
    if hasDot u then
     match digs n (part u) with
     | none => none
     | some m => if n3 = 0 then none else some (m, n3)
    else some (n, 0) by unfold numP; rw [← hSW.1, ← hSP.1]; rfl)
 have Ig := I5 (show hasDot u = false → n3 = 0 by
  intro h
  have h1 := hSP.1
  have := lJ u (by unfold hasDot at h; simpa using h)
  rw [this.2] at h1
  exact h1)
 have DF := I5 hSW.1
 have BI := I5 hSP.1
 clear hSW hSP
 by_cases h15 : (15 : Int) < n2 + n3
 ·have su := I5 (show numP u = none by rw [HN.out, if_pos (by omega)])
  have HG := I5 (show getO l = none by rw [zU.out, su.out]; rfl)
  go_wp2_with fail
  go_ret2
  exact ⟨by rw [HG.out]; rfl, hB⟩
 have h15' : (n2 : Int) + n3 ≤ 15 := by omega
 have h16 : ¬ 15 < n2 + n3 := by omega
 have iu := I5 (HN.out.trans (if_neg h16))
 have HV := I5 (show ∀ w : World, _ from fun w => eg 0 0 a2 n2 c2' (whole u) w)
 have Gp : 0 + (whole u).length ≤ 18 := by have := DF.out; omega
 have DM := I5 Gp
 clear HN h15 h16 Gp HV
 cases hg : digs 0 (whole u) with
 | none =>
  have hx : digV 0 (whole u) = 0 ∧ digOk 0 (whole u) = false := by unfold digV digOk; rw [hg]; exact ⟨rfl, rfl⟩
  have HX := I5 hx
  have su := I5 (show numP u = none by rw [iu.out, hg])
  have HG := I5 (show getO l = none by rw [zU.out, su.out]; rfl)
  clear hx hg
  cases vu : hasDot u
  all_goals
   clear vu
   go_wp2_with fail
   refine (eg 0 0 _ _ _ _ _ HW.out (by decide) DM.out).mono ?_
   rintro e w3 ⟨rfl, rfl⟩
   rw [HX.out.1, HX.out.2]
   go_wp2_with fail
   go_ret2
   exact ⟨by rw [HG.out]; rfl, hB⟩
 | some x =>
  have oW := I5 (show digV 0 (whole u) = x by unfold digV; rw [hg]; rfl)
  have Cc := lz _ _ 0 _ (show 0 < 10 ^ 0 by decide) hg
  have H8 := I5 Cc
  by_cases h0 : n2 = 0
  ·have A8 := I5 (show digOk 0 (whole u) = false by unfold digOk; rw [hg, ← DF.out, h0]; rfl)
   have su := I5 (show numP u = none by rw [iu.out, hg]; exact if_pos h0)
   have HG := I5 (show getO l = none by rw [zU.out, su.out]; rfl)
   have Hh0 := I5 h0
   clear hg h0 Cc
   cases vu : hasDot u
   all_goals
    clear vu
    go_wp2_with fail
    refine (eg 0 0 _ _ _ _ _ HW.out (by decide) DM.out).mono ?_
    rintro e w3 ⟨rfl, rfl⟩
    rw [oW.out, A8.out]
    go_wp2_with fail
    go_ret2
    exact ⟨by rw [HG.out]; rfl, hB⟩
  have A8 := I5 (show digOk 0 (whole u) = true by unfold digOk; rw [hg, ← DF.out]; simp; omega)
  have Dh := I5 (show numP u = if hasDot u = true then (match digs x (part u) with | none => none | some m => if n3 = 0 then none else some (m, n3)) else some (x, 0) from iu.out.trans (by rw [hg]; exact if_neg h0))
  have Hh0 := I5 h0
  clear hg h0 Cc iu
  cases vu : hasDot u
  ·have su := I5 (show numP u = some (x, n3) by rw [Dh.out, if_neg (by rw [vu]; simp), Ig.out vu])
   clear vu
   go_wp2_with fail
   refine (eg 0 0 _ _ _ _ _ HW.out (by decide) DM.out).mono ?_
   rintro e w3 ⟨rfl, rfl⟩
   rw [oW.out, A8.out]
   obtain ⟨hn15, hk15⟩ := sN _ _ _ su.out
   obtain ⟨nJ, iW⟩ := ov x n3 (Nat.lt_trans hn15 (by decide)) hk15
   have hq : ∀ W : World, (binOp .quo 128 (.float .f64 (floatOfInt .f64 (x : Int))) (.float .f64 (fl (10 ^ n3)))).run Tryz.prog W = .ok (.float .f64 (quoB x n3)) W := fun W => run_float_arith W .quo 128 .f64 _ _ _ nJ
   have HQ := I5 hq
   have vx := I5 iW
   obtain ⟨Q, hQ⟩ : ∃ Q, Q = quoB x n3 := ⟨_, rfl⟩
   rw [← hQ] at HQ vx
   have HG := I5 (show getO l = some (signed (dash l) Q) by rw [zU.out, su.out, hQ]; rfl)
   have HK15 := I5 hk15
   clear nJ iW hq hQ hn15
   go_wp2_with fail
   go_loop [11, 65] (fun s i => ∃ (j z : Nat), j ≤ n3 ∧ i = .int .i64 j ∧ s = .float .f64 z ∧ Hid (z = fl (10 ^ j))) (fun _ i => n3 - (intOf i).toNat)
   case atStart => exact ⟨0, 4607182418800017408, Nat.zero_le _, rfl, rfl, I5 (by rw [Nat.pow_zero]; exact sy.symm)⟩
   case round =>
    obtain ⟨j, z, hj, rfl, rfl, HZ⟩ := hrel
    by_cases aJ : j < n3
    ·obtain ⟨z2, m3⟩ : ∃ z2, z2 = fl (10 ^ (j + 1)) := ⟨_, rfl⟩
     have hm : ∀ W : World, (binOp .mul 128 (.float .f64 z) (.float .f64 4621819117588971520)).run Tryz.prog W = .ok (.float .f64 z2) W := fun W => run_float_arith W .mul 128 .f64 _ _ _ (by
      have := pA j (by have := HK15.out; omega)
      rw [← HZ.out, ← m3] at this
      exact this)
     have A7 := I5 m3
     clear m3
     go_wp2_with fail
     go_round
     case rel => exact ⟨j + 1, z2, by omega, by go_num, rfl, A7⟩
     case measure => simp [intOf]; omega
    ·obtain rfl : j = n3 := by omega
     have hq : ∀ W : World, (binOp .quo 128 (.float .f64 (floatOfInt .f64 (x : Int))) (.float .f64 z)).run Tryz.prog W = .ok (.float .f64 Q) W := by rw [HZ.out]; exact HQ.out
     cases hm : dash l
     ·rw [hm] at HG
      clear hm
      go_wp2_with fail
      go_ret2
      exact ⟨by rw [HG.out]; rfl, hB⟩
     ·rw [hm] at HG
      clear hm
      go_wp2_with fail
      refine (j6 _ vx.out _).mono ?_
      rintro e w5 ⟨rfl, rfl⟩
      go_wp2_with fail
      go_ret2
      exact ⟨by rw [HG.out]; rfl, hB⟩
  ·have Fs := I5 (Dh.out.trans (if_pos vu))
   have AN : (0 + (whole u).length) + (part u).length ≤ 18 := by have := DF.out; have := BI.out; omega
   have pf := I5 AN
   clear AN Dh
   clear vu
   go_wp2_with fail
   refine (eg 0 0 _ _ _ _ _ HW.out (by decide) DM.out).mono ?_
   rintro e w3 ⟨rfl, rfl⟩
   rw [oW.out, A8.out]
   go_wp2_with fail
   refine (eg x (0 + (whole u).length) _ _ _ _ _ HP.out H8.out pf.out).mono ?_
   rintro e w3 ⟨rfl, rfl⟩
   cases lm : digs x (part u) with
   | none =>
    have su := I5 (show numP u = none by rw [Fs.out, lm])
    rw [show digV x (part u) = 0 by unfold digV; rw [lm]; rfl, show digOk x (part u) = false by unfold digOk; rw [lm]; rfl]
    clear lm
    have HG := I5 (show getO l = none by rw [zU.out, su.out]; rfl)
    go_wp2_with fail
    go_ret2
    exact ⟨by rw [HG.out]; rfl, hB⟩
   | some y =>
    rw [show digV x (part u) = y by unfold digV; rw [lm]; rfl]
    by_cases h3 : n3 = 0
    ·have su := I5 (show numP u = none by rw [Fs.out, lm]; exact if_pos h3)
     rw [show digOk x (part u) = false by unfold digOk; rw [lm, ← BI.out, h3]; rfl]
     have Hh3 := I5 h3
     clear lm h3
     have HG := I5 (show getO l = none by rw [zU.out, su.out]; rfl)
     go_wp2_with fail
     go_ret2
     exact ⟨by rw [HG.out]; rfl, hB⟩
    ·have su := I5 (show numP u = some (y, n3) by rw [Fs.out, lm]; exact if_neg h3)
     rw [show digOk x (part u) = true by unfold digOk; rw [lm, ← BI.out]; simp; omega]
     have Hh3 := I5 h3
     clear lm h3
     obtain ⟨hn15, hk15⟩ := sN _ _ _ su.out
     obtain ⟨nJ, iW⟩ := ov y n3 (Nat.lt_trans hn15 (by decide)) hk15
     have hq : ∀ W : World, (binOp .quo 128 (.float .f64 (floatOfInt .f64 (y : Int))) (.float .f64 (fl (10 ^ n3)))).run Tryz.prog W = .ok (.float .f64 (quoB y n3)) W := fun W => run_float_arith W .quo 128 .f64 _ _ _ nJ
     have HQ := I5 hq
     have vx := I5 iW
     obtain ⟨Q, hQ⟩ : ∃ Q, Q = quoB y n3 := ⟨_, rfl⟩
     rw [← hQ] at HQ vx
     have HG := I5 (show getO l = some (signed (dash l) Q) by rw [zU.out, su.out, hQ]; rfl)
     have HK15 := I5 hk15
     clear nJ iW hq hQ hn15
     go_wp2_with fail
     go_loop [11, 65] (fun s i => ∃ (j z : Nat), j ≤ n3 ∧ i = .int .i64 j ∧ s = .float .f64 z ∧ Hid (z = fl (10 ^ j))) (fun _ i => n3 - (intOf i).toNat)
     case atStart => exact ⟨0, 4607182418800017408, Nat.zero_le _, rfl, rfl, I5 (by rw [Nat.pow_zero]; exact sy.symm)⟩
     case round =>
      obtain ⟨j, z, hj, rfl, rfl, HZ⟩ := hrel
      by_cases aJ : j < n3
      ·obtain ⟨z2, m3⟩ : ∃ z2, z2 = fl (10 ^ (j + 1)) := ⟨_, rfl⟩
       have hm : ∀ W : World, (binOp .mul 128 (.float .f64 z) (.float .f64 4621819117588971520)).run Tryz.prog W = .ok (.float .f64 z2) W := fun W => run_float_arith W .mul 128 .f64 _ _ _ (by
        have := pA j (by have := HK15.out; omega)
        rw [← HZ.out, ← m3] at this
        exact this)
       have A7 := I5 m3
       clear m3
       go_wp2_with fail
       go_round
       case rel => exact ⟨j + 1, z2, by omega, by go_num, rfl, A7⟩
       case measure => simp [intOf]; omega
      ·obtain rfl : j = n3 := by omega
       have hq : ∀ W : World, (binOp .quo 128 (.float .f64 (floatOfInt .f64 (y : Int))) (.float .f64 z)).run Tryz.prog W = .ok (.float .f64 Q) W := by rw [HZ.out]; exact HQ.out
       cases hm : dash l
       ·rw [hm] at HG
        clear hm
        go_wp2_with fail
        go_ret2
        exact ⟨by rw [HG.out]; rfl, hB⟩
       ·rw [hm] at HG
        clear hm
        go_wp2_with fail
        refine (j6 _ vx.out _).mono ?_
        rintro e w5 ⟨rfl, rfl⟩
        go_wp2_with fail
        go_ret2
        exact ⟨by rw [HG.out]; rfl, hB⟩
end Go.Proofs.YtmmkaclmgnpplaaGreatDoor

import Derived.Test.YtmmkaclmgnpplaaGreatDoorMz21
set_option maxRecDepth 100000
set_option maxHeartbeats 64000000
set_option linter.unusedSimpArgs false
set_option linter.unusedVariables false
namespace Go.Proofs.YtmmkaclmgnpplaaGreatDoor
open Go.RowKit
def at1 (l : List UInt8) : Sx := .mk false false [] l []
def li (ks : List Sx) : Sx := .mk true false [] [] ks
def starL : List UInt8 := [42]
def preL : List UInt8 := [112, 114, 101, 102, 105, 120]
def setL : List UInt8 := [115, 101, 116]
def ranL : List UInt8 := [114, 97, 110, 103, 101]
def nameO (o : Nat) : List UInt8 :=
 if o = 1 then [97, 108, 112, 104, 97] else if o = 2 then [110, 117, 109, 101, 114, 105, 99] else if o = 3 then [116, 105, 109, 101] else if o = 4 then [98, 105, 110, 97, 114, 121] else if o = 5 then [100, 97, 116, 101] else []
def bnd (x : Bd) (c : UInt8) : List Sx := if x.is then [at1 (if x.op then [c] else [c, 101]), at1 x.att] else []
def ranV (r : Rg) : Sx := li (at1 starL :: at1 ranL :: at1 (nameO r.o) :: (bnd r.lo 103 ++ bnd r.hi 108))
mutual
def Tg.value : Tg → Sx
 | .mk kd da ks r => if kd = 1 then li [at1 starL] else if kd = 2 then at1 da else if kd = 5 then li [at1 starL, at1 preL, at1 da] else if kd = 6 then ranV r else if kd = 4 then li (at1 starL :: at1 setL :: Tg.valueL ks) else li (Tg.valueL ks)
def Tg.valueL : List Tg → List Sx
 | [] => []
 | x :: r => x.value :: Tg.valueL r
end
theorem dd (kd : Nat) (da : List UInt8) (ks : List Tg) (r : Rg) : (Tg.mk kd da ks r).value = (if kd = 1 then li [at1 starL] else if kd = 2 then at1 da else if kd = 5 then li [at1 starL, at1 preL, at1 da] else if kd = 6 then ranV r else if kd = 4 then li (at1 starL :: at1 setL :: Tg.valueL ks) else li (Tg.valueL ks)) := by simp only [Tg.value]
theorem aQ (ks : List Tg) : Tg.valueL ks = ks.map Tg.value := by
 induction ks with
 | nil => rfl
 | cons x r ih => simp only [Tg.valueL, List.map_cons, ih]
def blankT (kd n k : Nat) (r : Rg) : Bool :=
 if kd = 1 then !decide (0 < n) && !decide (0 < k) && sameR r noR else if kd = 2 ∨ kd = 5 then !decide (0 < k) && sameR r noR else if kd = 3 ∨ kd = 4 then !decide (0 < n) && sameR r noR else decide (kd = 6) && !decide (0 < n) && !decide (0 < k) && mayB r
def headStar (ks : List Tg) : Bool := match ks with | [] => false | x :: _ => decide (x.kd = 2) && (x.da == starL)
def starT (kd : Nat) (ks : List Tg) : Bool := decide (kd = 3) && headStar ks
mutual
def Tg.right : Tg → Nat → Bool
 | .mk kd da ks r, d => blankT kd da.length ks.length r && decide (d ≤ 17) && !starT kd ks && Tg.rightL ks (d + 1)
def Tg.rightL : List Tg → Nat → Bool
 | [], _ => true
 | x :: s, d => x.right d && Tg.rightL s d
end
theorem lN (kd : Nat) (da : List UInt8) (ks : List Tg) (r : Rg) (d : Nat) : (Tg.mk kd da ks r).right d = (blankT kd da.length ks.length r && decide (d ≤ 17) && !starT kd ks && Tg.rightL ks (d + 1)) := by simp only [Tg.right]
mutual
def Tg.ok : Tg → Bool
 | .mk kd da ks r => blankT kd da.length ks.length r && !starT kd ks && Tg.okL ks
def Tg.okL : List Tg → Bool
 | [] => true
 | x :: s => x.ok && Tg.okL s
end
theorem iH (kd : Nat) (da : List UInt8) (ks : List Tg) (r : Rg) : (Tg.mk kd da ks r).ok = (blankT kd da.length ks.length r && !starT kd ks && Tg.okL ks) := by simp only [Tg.ok]
mutual
def Tg.deep : Tg → Nat
 | .mk _ _ ks _ => 1 + Tg.deepL ks
def Tg.deepL : List Tg → Nat
 | [] => 0
 | x :: s => max x.deep (Tg.deepL s)
end
theorem jL {ks : List Tg} : Tg.okL ks = true ↔ ∀ x ∈ ks, x.ok = true := by
 induction ks with
 | nil => simp [Tg.okL]
 | cons x s ih => simp [Tg.okL, ih]
theorem qX {ks : List Tg} {d : Nat} : Tg.rightL ks d = true ↔ ∀ x ∈ ks, x.right d = true := by
 induction ks with
 | nil => simp [Tg.rightL]
 | cons x s ih => simp [Tg.rightL, ih]
theorem gK (ks : List Tg) (d : Nat) : Tg.rightL ks d = !(ks.any fun x => !x.right d) := by
 induction ks with
 | nil => rfl
 | cons x s ih => simp [Tg.rightL, ih]
theorem deepL_mem {ks : List Tg} {n : Nat} : Tg.deepL ks ≤ n ↔ ∀ x ∈ ks, x.deep ≤ n := by
 induction ks with
 | nil => simp [Tg.deepL]
 | cons x s ih => simp [Tg.deepL, ih, Nat.max_le]
theorem jG (t : Tg) : ∀ d, t.right d = true ↔ (t.ok = true ∧ d + t.deep ≤ 18) := by
 induction t using Tg.ind with
 | h kd da ks r ih =>
  intro d
  rw [lN, iH]
  simp only [Bool.and_eq_true, decide_eq_true_eq, qX, jL, Tg.deep]
  constructor
  ·rintro ⟨⟨⟨h1, h2⟩, h3⟩, h4⟩
   have h5 := fun x hx => (ih x hx (d + 1)).1 (h4 x hx)
   refine ⟨⟨⟨h1, h3⟩, fun x hx => (h5 x hx).1⟩, ?_⟩
   have : Tg.deepL ks ≤ 17 - d := deepL_mem.2 fun x hx => by have := (h5 x hx).2; omega
   omega
  ·rintro ⟨⟨⟨h1, h3⟩, h4⟩, h5⟩
   refine ⟨⟨⟨h1, by omega⟩, h3⟩, fun x hx => (ih x hx (d + 1)).2 ⟨h4 x hx, ?_⟩⟩
   have := (deepL_mem (n := 17 - d)).1 (by omega) x hx
   omega
theorem lj {kd n k : Nat} {r : Rg} (h : blankT kd n k r = true) (hk : kd ≠ 3) (IG : kd ≠ 4) : k = 0 := by
 unfold blankT at h
 split at h
 ·simp at h; omega
 ·split at h
  ·simp at h; omega
  ·split at h
   ·omega
   ·simp at h; omega
theorem ob {ks : List Tg} (h : ∀ x ∈ ks, x.count ≤ x.value.nodes) : Tg.countL ks ≤ Sx.nodesL (Tg.valueL ks) := by
 induction ks with
 | nil => simp [Tg.countL]
 | cons x s ih =>
  simp only [Tg.countL, Tg.valueL, Sx.nodesL]
  have h1 := h x List.mem_cons_self
  have h2 := ih (fun y hy => h y (List.mem_cons_of_mem _ hy))
  omega
theorem pq (t : Tg) : t.ok = true → t.count ≤ t.value.nodes := by
 induction t using Tg.ind with
 | h kd da ks r ih =>
  intro h
  rw [iH] at h
  simp only [Bool.and_eq_true, jL] at h
  have hk := ob fun x hx => ih x hx (h.2 x hx)
  rw [dd]
  simp only [Tg.count]
  by_cases h3 : kd = 3
  ·subst h3; simp [li, Sx.nodes]; omega
  by_cases h4 : kd = 4
  ·subst h4; simp [li, at1, Sx.nodes, Sx.nodesL]; omega
  have h0 := lj h.1.1 h3 h4
  have : ks = [] := List.eq_nil_of_length_eq_zero h0
  subst this
  simp only [Tg.countL]
  generalize (if kd = 1 then li [at1 starL] else _) = x
  obtain ⟨l, h, hi, da, k⟩ := x
  simp only [Sx.nodes]
  omega
theorem wT {ks : List Sx} {x : Sx} (h : x ∈ ks) : x.deep ≤ Sx.deepL ks := by
 induction ks with
 | nil => cases h
 | cons y s ih =>
  simp only [Sx.deepL]
  rcases List.mem_cons.1 h with rfl | h
  ·omega
  ·have := ih h; omega
theorem qK (t : Tg) : t.ok = true → t.deep ≤ t.value.deep + 1 := by
 induction t using Tg.ind with
 | h kd da ks r ih =>
  intro h
  rw [iH] at h
  simp only [Bool.and_eq_true, jL] at h
  simp only [Tg.deep]
  by_cases h3 : kd = 3 ∨ kd = 4
  ·have hv : Sx.deepL (Tg.valueL ks) + 1 ≤ (Tg.mk kd da ks r).value.deep := by
    rw [dd]
    rcases h3 with rfl | rfl <;> simp [li, at1, Sx.deep, Sx.deepL]
   have : Tg.deepL ks ≤ Sx.deepL (Tg.valueL ks) + 1 := deepL_mem.2 fun x hx => by
    have h1 := ih x hx (h.2 x hx)
    have h2 : x.value.deep ≤ Sx.deepL (Tg.valueL ks) := wT (by rw [aQ]; exact List.mem_map_of_mem hx)
    omega
   omega
  ·have h0 := lj h.1.1 (fun e => h3 (.inl e)) (fun e => h3 (.inr e))
   have : ks = [] := List.eq_nil_of_length_eq_zero h0
   subst this
   simp only [Tg.deepL]
   omega
def Tg.may (t : Tg) : Bool := t.ok && t.value.may
theorem nF {s : Sx} (h : s.may = true) : s.clean = true ∧ s.nodes ≤ 512 ∧ s.deep ≤ 16 ∧ s.form.length ≤ 4096 := by
 unfold Sx.may at h
 simp only [Bool.and_eq_true, decide_eq_true_eq] at h
 exact ⟨h.1.1.1, h.1.1.2, h.1.2, h.2⟩
theorem me (t : Tg) : (decide (t.count ≤ 512) && (t.right 1 && t.value.may)) = t.may := by
 unfold Tg.may
 cases hv : t.value.may with
 | false => simp
 | true =>
  obtain ⟨_, h2, h3, _⟩ := nF hv
  cases ho : t.ok with
  | false =>
   have : t.right 1 = false := by
    cases hr : t.right 1 with
    | false => rfl
    | true => have := ((jG t 1).1 hr).1; rw [ho] at this; cases this
   rw [this]; simp
  | true =>
   have h4 := pq t ho
   have h5 := qK t ho
   have : t.right 1 = true := (jG t 1).2 ⟨ho, by omega⟩
   rw [this, decide_eq_true (show t.count ≤ 512 by omega)]
   rfl
def nodesF (f : Tg → Int → Int) : List Tg → Int → Int → Int
 | [], n, _ => n
 | x :: s, n, most => if most < n then n else nodesF f s (n + f x (most - n)) most
mutual
def Tg.few : Tg → Int → Int
 | .mk _ _ ks _, most => Tg.fewL ks 1 most
def Tg.fewL : List Tg → Int → Int → Int
 | [], n, _ => n
 | x :: s, n, most => if most < n then n else Tg.fewL s (n + x.few (most - n)) most
end
theorem tu (kd : Nat) (da : List UInt8) (ks : List Tg) (r : Rg) (m : Int) : (Tg.mk kd da ks r).few m = Tg.fewL ks 1 m := by simp only [Tg.few]
theorem kV (t : Tg) : 1 ≤ t.count := by obtain ⟨_, _, _, _⟩ := t; simp only [Tg.count]; omega
theorem y7 {ks : List Tg} (ih : ∀ x ∈ ks, ∀ m : Int, 0 ≤ m → 1 ≤ x.few m ∧ x.few m ≤ m + 1 ∧ ((x.count : Int) ≤ m → x.few m = x.count) ∧ (m < x.count → m < x.few m)) : ∀ (n m : Int), 1 ≤ n → n ≤ m + 1 →
  n ≤ Tg.fewL ks n m ∧ Tg.fewL ks n m ≤ m + 1 ∧ (n + Tg.countL ks ≤ m → Tg.fewL ks n m = n + Tg.countL ks) ∧ (m < n + Tg.countL ks → m < Tg.fewL ks n m) := by
 induction ks with
 | nil => intro n m h1 h2; simp only [Tg.fewL, Tg.countL]; omega
 | cons x s ihs =>
  intro n m h1 h2
  simp only [Tg.fewL, Tg.countL]
  have hp := kV x
  by_cases aJ : m < n
  ·rw [if_pos aJ]; omega
  ·rw [if_neg aJ]
   obtain ⟨a1, a2, a3, a4⟩ := ih x List.mem_cons_self (m - n) (by omega)
   obtain ⟨b1, b2, b3, b4⟩ := ihs (fun y hy => ih y (List.mem_cons_of_mem _ hy)) (n + x.few (m - n)) m (by omega) (by omega)
   refine ⟨by omega, by omega, fun h => ?_, fun h => ?_⟩
   ·have := a3 (by omega)
    rw [b3 (by omega), this]
    omega
   ·by_cases hx : (x.count : Int) ≤ m - n
    ·have := a3 hx
     exact b4 (by omega)
    ·have := a4 (by omega)
     omega
theorem rV (t : Tg) : ∀ m : Int, 0 ≤ m → 1 ≤ t.few m ∧ t.few m ≤ m + 1 ∧ ((t.count : Int) ≤ m → t.few m = t.count) ∧ (m < t.count → m < t.few m) := by
 induction t using Tg.ind with
 | h kd da ks r ih =>
  intro m hm
  obtain ⟨h1, h2, h3, h4⟩ := y7 ih 1 m (by omega) (by omega)
  rw [tu]
  simp only [Tg.count]
  exact ⟨h1, h2, fun h => by rw [h3 (by omega)]; omega, fun h => h4 (by omega)⟩
theorem nP (t : Tg) : decide (t.few 512 ≤ 512) = decide (t.count ≤ 512) := by
 obtain ⟨_, _, h3, h4⟩ := rV t 512 (by omega)
 by_cases h : t.count ≤ 512
 ·rw [decide_eq_true h, decide_eq_true (by rw [h3 (by omega)]; omega)]
 ·rw [decide_eq_false h, decide_eq_false (by have := h4 (by omega); omega)]
def starK : List Sx → Bool
 | [] => false
 | k :: _ => k.same (at1 starL)
def starS (s : Sx) : Bool := s.l && starK s.ks
mutual
def Sx.conc : Sx → Bool
 | .mk l h hi da ks => if l then !starS (.mk l h hi da ks) && Sx.concL ks else !h
def Sx.concL : List Sx → Bool
 | [] => true
 | x :: r => x.conc && Sx.concL r
end
theorem qu (l h : Bool) (hi da : List UInt8) (ks : List Sx) : (Sx.mk l h hi da ks).conc = (if l then !starS (.mk l h hi da ks) && Sx.concL ks else !h) := by simp only [Sx.conc]
theorem uN (ks : List Sx) : Sx.concL ks = !(ks.any fun x => !x.conc) := by
 induction ks with
 | nil => rfl
 | cons x s ih => simp [Sx.concL, ih]
def isStar (k : Sx) : Bool := !k.l && (!k.h && (k.da == starL))
def headS (s : Sx) : Bool := s.l && (match s.ks with | [] => false | k :: _ => isStar k)
mutual
def Sx.conR : Sx → Bool
 | .mk l h hi da ks => !h && !headS (.mk l h hi da ks) && Sx.conRL ks
def Sx.conRL : List Sx → Bool
 | [] => true
 | x :: r => x.conR && Sx.conRL r
end
theorem qv (l h : Bool) (hi da : List UInt8) (ks : List Sx) : (Sx.mk l h hi da ks).conR = (!h && !headS (.mk l h hi da ks) && Sx.conRL ks) := by simp only [Sx.conR]
theorem sg {ks : List Sx} : Sx.cleanL ks = true ↔ ∀ x ∈ ks, x.clean = true := by
 induction ks with
 | nil => simp [Sx.cleanL]
 | cons x s ih => simp [Sx.cleanL, ih]
theorem qR {k : Sx} (h : k.clean = true) : k.same (at1 starL) = isStar k := by
 obtain ⟨l, hh, hi, da, ks⟩ := k
 simp only [Sx.clean, Bool.and_eq_true] at h
 cases hs : (Sx.mk l hh hi da ks).same (at1 starL) with
 | true =>
  have := (Sx.same_iff _ _).1 hs
  simp only [at1, Sx.mk.injEq] at this
  obtain ⟨rfl, rfl, rfl, rfl, rfl⟩ := this
  rfl
 | false =>
  cases hq : isStar (.mk l hh hi da ks) with
  | false => rfl
  | true =>
   simp only [isStar, Sx.l, Sx.h, Sx.da, Bool.and_eq_true, Bool.not_eq_true', beq_iff_eq] at hq
   obtain ⟨rfl, rfl, rfl⟩ := hq
   simp at h
   obtain ⟨⟨rfl, rfl⟩, _⟩ := h
   rw [show (Sx.mk false false [] starL []) = at1 starL from rfl, Sx.same_refl] at hs
   cases hs
theorem r8 (s : Sx) : s.clean = true → s.conc = s.conR := by
 induction s using Sx.ind with
 | h l hh hi da ks ih =>
  intro h
  rw [qu, qv]
  have hc : (Sx.mk l hh hi da ks).clean = ((if l then !hh && hi.length == 0 && da.length == 0 else ks.length == 0 && (hh || hi.length == 0)) && Sx.cleanL ks) := by simp only [Sx.clean]
  rw [hc] at h
  simp only [Bool.and_eq_true] at h
  have hk := sg.1 h.2
  have hL : Sx.concL ks = Sx.conRL ks := by
   clear h hc
   induction ks with
   | nil => rfl
   | cons x r ihr =>
    simp only [Sx.concL, Sx.conRL]
    rw [ih x List.mem_cons_self (hk x List.mem_cons_self), ihr (fun y hy => ih y (List.mem_cons_of_mem _ hy)) (fun y hy => hk y (List.mem_cons_of_mem _ hy))]
  cases l with
  | true =>
   simp at h
   obtain ⟨⟨⟨rfl, _⟩, _⟩, _⟩ := h
   have hs : starS (.mk true false hi da ks) = headS (.mk true false hi da ks) := by
    unfold starS headS
    cases ks with
    | nil => rfl
    | cons x r => simp only [Sx.ks, starK, qR (hk x List.mem_cons_self)]
   rw [hs, hL]
   simp
  | false =>
   simp at h
   obtain ⟨⟨rfl, _⟩, _⟩ := h
   simp [headS, Sx.l, Sx.conRL]
def Sx.req (s : Sx) : Bool := s.may && s.conc
theorem xP (s : Sx) : (s.may && s.conR) = s.req := by
 unfold Sx.req
 cases h : s.may with
 | false => rfl
 | true => rw [r8 s (nF h).1]
def prefB (b f : List UInt8) : Bool := decide (f.length ≤ b.length) && (b.take f.length == f)
def Tg.takes (kd : Nat) (da : List UInt8) (r : Rg) (b : List UInt8) : Bool := if kd = 2 then da == b else if kd = 5 then prefB b da else decide (kd = 6) && inB r b
mutual
def Tg.allows : Tg → Sx → Bool
 | .mk kd da ks r, v => if kd = 1 then true else if kd = 4 then Tg.someA ks v else if kd = 3 then v.l && decide (ks.length ≤ v.ks.length) && Tg.eachA ks v.ks else !v.l && Tg.takes kd da r v.da
def Tg.someA : List Tg → Sx → Bool
 | [], _ => false
 | x :: s, v => x.allows v || Tg.someA s v
def Tg.eachA : List Tg → List Sx → Bool
 | [], _ => true
 | _ :: _, [] => false
 | x :: s, y :: r => x.allows y && Tg.eachA s r
end
theorem mI (kd : Nat) (da : List UInt8) (ks : List Tg) (r : Rg) (v : Sx) : (Tg.mk kd da ks r).allows v = (if kd = 1 then true else if kd = 4 then Tg.someA ks v else if kd = 3 then v.l && decide (ks.length ≤ v.ks.length) && Tg.eachA ks v.ks else !v.l && Tg.takes kd da r v.da) := by simp only [Tg.allows]
theorem nk (ks : List Tg) (v : Sx) : Tg.someA ks v = ks.any fun x => x.allows v := by
 induction ks with
 | nil => rfl
 | cons x s ih => simp [Tg.someA, ih]
theorem kU {ks : List Tg} {vs : List Sx} (hl : ks.length ≤ vs.length) : Tg.eachA ks vs = true ↔ ∀ i (h : i < ks.length), ks[i].allows (vs[i]'(by omega)) = true := by
 induction ks generalizing vs with
 | nil => simp [Tg.eachA]
 | cons x s ih =>
  cases vs with
  | nil => simp at hl
  | cons y r =>
   simp only [Tg.eachA, Bool.and_eq_true]
   rw [ih (by simpa using hl)]
   constructor
   ·rintro ⟨h1, h2⟩ i hi
    cases i with
    | zero => exact h1
    | succ i => exact h2 i (by simpa using hi)
   ·intro h
    exact ⟨h 0 (by simp), fun i hi => h (i + 1) (by simpa using hi)⟩
theorem qo {ks : List Tg} {vs : List Sx} (hl : ks.length ≤ vs.length) {i : Nat} (hi : i < ks.length) (h : ks[i].allows (vs[i]'(by omega)) = false) : Tg.eachA ks vs = false := by
 cases he : Tg.eachA ks vs with
 | false => rfl
 | true =>
  have := (kU hl).1 he i hi
  rw [h] at this
  cases this
def Tg.grants (t : Tg) (v : Sx) : Bool := t.may && (v.req && t.allows v)
def wideR (r : Rg) : Bool := decide (200 < r.lo.att.length) || decide (200 < r.hi.att.length)
mutual
def Tg.wide : Tg → Nat → Bool
 | .mk _ da ks r, m => decide (60 < m) || decide (700 < ks.length) || decide (5000 < da.length) || wideR r || Tg.wideL ks (m + 1)
def Tg.wideL : List Tg → Nat → Bool
 | [], _ => false
 | x :: s, m => x.wide m || Tg.wideL s m
end
def Tg.great (t : Tg) (m : Nat) : Bool := t.wide m || (m == 0 && decide (1000 < wrap64 (t.count : Int)))
theorem kJ (kd : Nat) (da : List UInt8) (ks : List Tg) (r : Rg) (m : Nat) : (Tg.mk kd da ks r).wide m = (decide (60 < m) || decide (700 < ks.length) || decide (5000 < da.length) || wideR r || Tg.wideL ks (m + 1)) := by simp only [Tg.wide]
theorem lE {ks : List Tg} {x : Tg} {m : Nat} (hx : x ∈ ks) (h : x.wide m = true) : Tg.wideL ks m = true := by
 induction ks with
 | nil => cases hx
 | cons y s ih =>
  simp only [Tg.wideL, Bool.or_eq_true]
  rcases List.mem_cons.1 hx with rfl | hx
  ·exact .inl h
  ·exact .inr (ih hx)
theorem tD {ks : List Tg} {m : Nat} (h : Tg.wideL ks m = false) : ∀ x ∈ ks, x.wide m = false := by
 intro x hx
 cases hw : x.wide m with
 | false => rfl
 | true => rw [lE hx hw] at h; cases h
theorem pm (ks : List Tg) (m k : Nat) (h : k < ks.length) : Tg.wideL (ks.take (k + 1)) m = (Tg.wideL (ks.take k) m || ks[k].wide m) := by
 induction ks generalizing k with
 | nil => simp at h
 | cons x s ih =>
  cases k with
  | zero => simp [Tg.wideL]
  | succ k =>
   simp only [List.take_succ_cons, Tg.wideL, List.getElem_cons_succ]
   rw [ih k (by simpa using h)]
   simp [Bool.or_assoc]
theorem cy {kd : Nat} {da : List UInt8} {ks : List Tg} {r : Rg} {m : Nat} (h : (Tg.mk kd da ks r).wide m = false) :
  m ≤ 60 ∧ ks.length ≤ 700 ∧ da.length ≤ 5000 ∧ r.lo.att.length ≤ 200 ∧ r.hi.att.length ≤ 200 ∧ ∀ x ∈ ks, x.wide (m + 1) = false := by
 rw [kJ] at h
 simp only [Bool.or_eq_false_iff, decide_eq_false_iff_not, wideR] at h
 obtain ⟨⟨⟨⟨h1, h2⟩, h3⟩, h4, h5⟩, h6⟩ := h
 exact ⟨by omega, by omega, by omega, by omega, by omega, tD h6⟩
theorem ms {t : Tg} {m : Nat} (h : t.wide m = true) : t.great m = true := by unfold Tg.great; rw [h]; rfl
theorem rO (t : Tg) (m : Nat) : t.great (m + 1) = t.wide (m + 1) := by unfold Tg.great; simp
theorem rN {t : Tg} {m : Nat} (h : 0 < m) (hw : t.wide m = false) : t.great m = false := by unfold Tg.great; rw [hw]; simp; omega
theorem lf {t : Tg} (hw : t.wide 0 = false) : t.great 0 = decide (1000 < wrap64 (t.count : Int)) := by unfold Tg.great; rw [hw]; simp only [Bool.false_or, BEq.rfl, Bool.true_and]
theorem ng (a b : List Tg) : Tg.countL (a ++ b) = Tg.countL a + Tg.countL b := by
 induction a with
 | nil => simp [Tg.countL]
 | cons x s ih => simp only [List.cons_append, Tg.countL, ih]; omega
end Go.Proofs.YtmmkaclmgnpplaaGreatDoor

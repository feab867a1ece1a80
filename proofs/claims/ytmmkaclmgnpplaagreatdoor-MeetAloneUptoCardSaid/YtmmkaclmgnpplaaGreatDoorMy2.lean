import Derived.Test.YtmmkaclmgnpplaaGreatDoorMy1
set_option maxRecDepth 100000
set_option maxHeartbeats 64000000
set_option linter.unusedSimpArgs false
set_option linter.unusedVariables false
namespace Go.Proofs.YtmmkaclmgnpplaaGreatDoor
open Go.RowKit
theorem Jg (f : Tg → Nat → Option (Tg × Nat)) : ∀ (ks : List Tg) p l q, overF f ks p = some (l, q) → (∀ t ∈ l, ∃ k ∈ ks, ∃ p q, f k p = some (t, q)) ∧ (∀ k ∈ ks, ∃ t ∈ l, ∃ p q, f k p = some (t, q))
 | [], p, l, q, h => by simp only [overF, Option.some.injEq, Prod.mk.injEq] at h; obtain ⟨rfl, -⟩ := h; exact ⟨fun x hx => (by cases hx), fun x hx => (by cases hx)⟩
 | k :: s, p, l, q, h => by
  simp only [overF] at h
  rcases h1 : f k p with _ | ⟨t, q1⟩
  ·rw [h1] at h; cases h
  rw [h1] at h
  simp only [] at h
  rcases h2 : overF f s q1 with _ | ⟨l2, q2⟩
  ·rw [h2] at h; cases h
  rw [h2] at h
  simp only [Option.some.injEq, Prod.mk.injEq] at h
  obtain ⟨rfl, -⟩ := h
  obtain ⟨g1, g2⟩ := Jg f s q1 l2 q2 h2
  refine ⟨fun x hx => ?_, fun x hx => ?_⟩
  ·rcases List.mem_cons.1 hx with rfl | hx
   ·exact ⟨k, List.mem_cons_self, p, q1, h1⟩
   ·obtain ⟨k', hk, h⟩ := g1 x hx
    exact ⟨k', List.mem_cons_of_mem _ hk, h⟩
  ·rcases List.mem_cons.1 hx with rfl | hx
   ·exact ⟨t, List.mem_cons_self, p, q1, h1⟩
   ·obtain ⟨t', ht, h⟩ := g2 x hx
    exact ⟨t', List.mem_cons_of_mem _ ht, h⟩
theorem Jr (f : Tg → Tg → Nat → Option (Tg × Nat)) : ∀ (xs ys : List Tg) p l q, listF f xs ys p = some (some l, q) → l.length = xs.length ∧ ∀ i (h : i < xs.length) (h' : i < l.length), (∀ hy : i < ys.length, ∃ p q, f xs[i] ys[i] p = some (l[i], q)) ∧ (ys.length ≤ i → l[i] = xs[i])
 | [], ys, p, l, q, h => by simp only [listF, Option.some.injEq, Prod.mk.injEq] at h; obtain ⟨rfl, -⟩ := h; exact ⟨rfl, fun i hi => absurd hi (Nat.not_lt_zero _)⟩
 | k :: s, [], p, l, q, h => by
  simp only [listF] at h
  split at h
  ·simp at h
  rcases h2 : listF f s [] p with _ | ⟨_ | l2, q2⟩ <;> rw [h2] at h <;> simp only [Option.some.injEq, Prod.mk.injEq, reduceCtorEq, false_and] at h
  obtain ⟨rfl, -⟩ := h
  obtain ⟨g1, g2⟩ := Jr f s [] p l2 q2 h2
  refine ⟨by simp [g1], fun i hi hi' => ⟨fun hy => absurd hy (Nat.not_lt_zero _), fun _ => ?_⟩⟩
  cases i with
  | zero => rfl
  | succ i => exact (g2 i (by simpa using hi) (by simpa using hi')).2 (Nat.zero_le _)
 | k :: s, y :: r, p, l, q, h => by
  simp only [listF] at h
  rcases h1 : f k y p with _ | ⟨t, q1⟩
  ·rw [h1] at h; cases h
  rw [h1] at h
  simp only [] at h
  split at h
  ·simp at h
  rcases h2 : listF f s r q1 with _ | ⟨_ | l2, q2⟩ <;> rw [h2] at h <;> simp only [Option.some.injEq, Prod.mk.injEq, reduceCtorEq, false_and] at h
  obtain ⟨rfl, -⟩ := h
  obtain ⟨g1, g2⟩ := Jr f s r q1 l2 q2 h2
  refine ⟨by simp [g1], fun i hi hi' => ?_⟩
  cases i with
  | zero => exact ⟨fun _ => ⟨p, q1, h1⟩, fun h => absurd h (by simp)⟩
  | succ i => exact ⟨fun hy => (g2 i (by simpa using hi) (by simpa using hi')).1 (by simpa using hy), fun h => (g2 i (by simpa using hi) (by simpa using hi')).2 (by simpa using h)⟩
theorem Jy (f : Tg → Tg → Nat → Option (Tg × Nat)) : ∀ (xs ys : List Tg) p q, listF f xs ys p = some (none, q) → ∃ i, ∃ h : i < xs.length, (∃ hy : i < ys.length, ∃ t p q, f xs[i] ys[i] p = some (t, q) ∧ t.none? = true) ∨ xs[i].none? = true
 | [], ys, p, q, h => by simp [listF] at h
 | k :: s, [], p, q, h => by
  simp only [listF] at h
  split at h
  ·rename_i hn
   exact ⟨0, by simp, .inr hn⟩
  rcases h2 : listF f s [] p with _ | ⟨_ | l2, q2⟩ <;> rw [h2] at h <;> simp only [Option.some.injEq, Prod.mk.injEq, reduceCtorEq, false_and] at h
  obtain ⟨i, hi, h | h⟩ := Jy f s [] p q2 h2
  ·obtain ⟨hy, -⟩ := h; exact absurd hy (Nat.not_lt_zero _)
  ·exact ⟨i + 1, by simpa using hi, .inr h⟩
 | k :: s, y :: r, p, q, h => by
  simp only [listF] at h
  rcases h1 : f k y p with _ | ⟨t, q1⟩
  ·rw [h1] at h; cases h
  rw [h1] at h
  simp only [] at h
  split at h
  ·rename_i hn
   exact ⟨0, by simp, .inl ⟨by simp, t, p, q1, h1, hn⟩⟩
  rcases h2 : listF f s r q1 with _ | ⟨_ | l2, q2⟩ <;> rw [h2] at h <;> simp only [Option.some.injEq, Prod.mk.injEq, reduceCtorEq, false_and] at h
  obtain ⟨i, hi, h | h⟩ := Jy f s r q1 q2 h2
  ·obtain ⟨hy, h⟩ := h; exact ⟨i + 1, by simpa using hi, .inl ⟨by simpa using hy, h⟩⟩
  ·exact ⟨i + 1, by simpa using hi, .inr h⟩
theorem Jc (t : Tg) (v : Sx) (h : t.kd = 4) : t.allows v = t.ks.any fun x => x.allows v := by
 obtain ⟨kd, da, ks, r⟩ := t
 obtain rfl : kd = 4 := h
 rw [mI, if_neg (by decide), if_pos rfl, nk]
 rfl
theorem JC (t : Tg) (v : Sx) (h : t.kd = 1) : t.allows v = true := by
 obtain ⟨kd, da, ks, r⟩ := t
 obtain rfl : kd = 1 := h
 rw [mI, if_pos rfl]
theorem DE (t : Tg) (v : Sx) (h : t.kd = 3) : t.allows v = true ↔ v.l = true ∧ ∃ hl : t.ks.length ≤ v.ks.length, ∀ i (h : i < t.ks.length), t.ks[i].allows (v.ks[i]'(by omega)) = true := by
 obtain ⟨kd, da, ks, r⟩ := t
 obtain rfl : kd = 3 := h
 rw [mI, if_neg (by decide), if_neg (by decide), if_pos rfl]
 simp only [Bool.and_eq_true, decide_eq_true_eq]
 constructor
 ·rintro ⟨⟨h1, h2⟩, h3⟩
  exact ⟨h1, h2, (kU h2).1 h3⟩
 ·rintro ⟨h1, h2, h3⟩
  exact ⟨⟨h1, h2⟩, (kU h2).2 h3⟩
theorem JA (t : Tg) (v : Sx) (h1 : t.kd ≠ 1) (h4 : t.kd ≠ 4) (h3 : t.kd ≠ 3) : t.allows v = (!v.l && takesT t v.da) := by
 obtain ⟨kd, da, ks, r⟩ := t
 rw [mI, if_neg (show ¬ kd = 1 from h1), if_neg (show ¬ kd = 4 from h4), if_neg (show ¬ kd = 3 from h3)]
 rfl
theorem Js {t : Tg} (v : Sx) (h : t.none? = true) : t.allows v = false := by
 unfold Tg.none? at h
 simp only [Bool.and_eq_true, beq_iff_eq] at h
 rw [Jc t v h.1, List.eq_nil_of_length_eq_zero h.2]
 rfl
theorem Jv (v : Sx) : noT.allows v = false := Js v rfl
theorem Jh (l : List Tg) (v : Sx) : (setT l).allows v = l.any fun x => x.allows v := by
 have hf : (flatS l).any (fun x => x.allows v) = l.any fun x => x.allows v := by
  unfold flatS
  rw [List.any_flatMap]
  congr 1
  funext t
  split
  ·rename_i h; rw [Jc t v h]
  ·simp
 by_cases h : (flatS l).length = 1
 ·have h1 : ∀ (o : List Tg) (h : o.length = 1), o[0].allows v = o.any fun x => x.allows v := fun o h => match o, h with
   | [t], _ => by simp
  rw [vN l h, h1 _ h, hf]
 ·rw [tJ l h, Jc _ v rfl, ← hf]
  rfl
theorem JI {b f : List UInt8} : prefB b f = true ↔ f <+: b := by
 unfold prefB
 simp only [Bool.and_eq_true, decide_eq_true_eq, beq_iff_eq]
 exact ⟨fun h => List.prefix_iff_eq_take.2 h.2.symm, fun h => ⟨h.length_le, (List.prefix_iff_eq_take.1 h).symm⟩⟩
theorem Jz {a b c : List UInt8} (h1 : prefB a b = true) (h2 : prefB b c = true) : prefB a c = true := by
 rw [JI] at *
 exact h2.trans h1
theorem Jn (t : Tg) (b : List UInt8) : takesT t b = (if t.kd = 2 then t.da == b else if t.kd = 5 then prefB b t.da else decide (t.kd = 6) && inB t.r b) := rfl
theorem JB {t : Tg} {b : List UInt8} (h : takesT t b = true) : t.kd = 2 ∨ t.kd = 5 ∨ t.kd = 6 := by
 rw [Jn] at h
 split at h
 ·exact .inl ‹_›
 split at h
 ·exact .inr (.inl ‹_›)
 ·simp only [Bool.and_eq_true, decide_eq_true_eq] at h; exact .inr (.inr h.1)
theorem Ji {t : Tg} {b : List UInt8} (hk : t.kd = 2) : takesT t b = true ↔ t.da = b := by rw [Jn, if_pos hk]; simp
theorem Jd {t : Tg} {b : List UInt8} (hk : t.kd = 5) : takesT t b = prefB b t.da := by rw [Jn, if_neg (by omega), if_pos hk]
theorem Jk {t : Tg} {b : List UInt8} (hk : t.kd = 6) : takesT t b = inB t.r b := by rw [Jn, if_neg (by omega), if_neg (by omega), decide_eq_true hk]; rfl
theorem DD {t : Tg} (v : Sx) (hk : t.kd = 2 ∨ t.kd = 5 ∨ t.kd = 6) : t.allows v = (!v.l && takesT t v.da) := JA t v (by omega) (by omega) (by omega)
theorem Ju {a b : Bool} (h : (!a && b) = true) : a = false ∧ b = true := by cases a <;> simp_all
theorem JX (a b : Tg) (v : Sx) (h : (plainT a b).allows v = true) : a.allows v = true ∧ b.allows v = true := by
 unfold plainT at h
 split at h
 ·rename_i h0
  obtain ⟨h2, h3⟩ := h0
  rw [DD v (.inl h2)] at h ⊢
  obtain ⟨h4, h5⟩ := Ju h
  rw [Ji h2] at h5
  rw [DD v (JB h3), h4, ← h5, h3, (Ji h2).2 rfl]
  exact ⟨rfl, rfl⟩
 split at h
 ·rename_i _ h0
  obtain ⟨h2, h3⟩ := h0
  rw [DD v (.inl h2)] at h ⊢
  obtain ⟨h4, h5⟩ := Ju h
  rw [Ji h2] at h5
  rw [DD v (JB h3), h4, ← h5, h3, (Ji h2).2 rfl]
  exact ⟨rfl, rfl⟩
 split at h
 ·rename_i _ _ h0
  obtain ⟨h2, h3, h4⟩ := h0
  rw [DD v (.inr (.inl h2)), DD v (.inr (.inl h3))] at *
  obtain ⟨h5, h6⟩ := Ju h
  rw [Jd h2] at h6
  rw [Jd h2, Jd h3, h5, h6, Jz h6 h4]
  exact ⟨rfl, rfl⟩
 split at h
 ·rename_i _ _ _ h0
  obtain ⟨h2, h3, h4⟩ := h0
  rw [DD v (.inr (.inl h3))] at h
  rw [DD v (.inr (.inl h2)), DD v (.inr (.inl h3))]
  obtain ⟨h5, h6⟩ := Ju h
  rw [Jd h3] at h6
  rw [Jd h2, Jd h3, h5, h6, Jz h6 h4]
  exact ⟨rfl, rfl⟩
 split at h
 ·rename_i _ _ _ _ h0
  obtain ⟨h2, h3⟩ := h0
  split at h
  ·rename_i hm
   simp only [Bool.and_eq_true] at hm
   rw [DD (t := .mk 6 [] [] (meetR a.r b.r)) v (.inr (.inr rfl)), Jk (t := .mk 6 [] [] (meetR a.r b.r)) rfl] at h
   obtain ⟨h5, h6⟩ := Ju h
   rw [show (Tg.mk 6 [] [] (meetR a.r b.r)).r = meetR a.r b.r from rfl, J3 a.r b.r v.da hm.1] at h6
   simp only [Bool.and_eq_true] at h6
   rw [DD v (.inr (.inr h2)), DD v (.inr (.inr h3)), Jk h2, Jk h3, h5, h6.1, h6.2]
   exact ⟨rfl, rfl⟩
  ·rw [Jv] at h; cases h
 ·rw [Jv] at h; cases h
theorem Jx {n : Nat} {a b t : Tg} {p q : Nat} (h : meetF (n + 1) a b p = some (t, q)) : bothF n a b (p + 1) = some (t, q) ∧ t.may = true := by
 rw [jk] at h
 split at h
 ·cases h
 split at h
 ·cases h
 ·rename_i t' q' he
  split at h
  ·rename_i hm
   cases h
   exact ⟨he, hm⟩
  ·cases h
theorem Jt : ∀ (n : Nat) (a b : Tg) (p : Nat) (t : Tg) (q : Nat) (v : Sx), meetF n a b p = some (t, q) → t.allows v = true → a.allows v = true ∧ b.allows v = true
 | 0, a, b, p, t, q, v, h, _ => by rw [ry] at h; cases h
 | n + 1, a, b, p, t, q, v, h, hv => by
  obtain ⟨h, -⟩ := Jx h
  rw [cx] at h
  split at h
  ·rename_i h1; cases h; exact ⟨JC a v h1, hv⟩
  split at h
  ·rename_i h1; cases h; exact ⟨hv, JC b v h1⟩
  split at h
  ·rename_i h4
   split at h
   ·cases h
   ·rename_i l q' he
    cases h
    rw [Jh] at hv
    obtain ⟨x, hx, Kp⟩ := List.any_eq_true.1 hv
    obtain ⟨k, hk, p', q'', hf⟩ := (Jg _ _ _ _ _ he).1 x hx
    obtain ⟨g1, g2⟩ := Jt n k b p' x q'' v hf Kp
    exact ⟨by rw [Jc a v h4]; exact List.any_eq_true.2 ⟨k, hk, g1⟩, g2⟩
  split at h
  ·rename_i h4
   split at h
   ·cases h
   ·rename_i l q' he
    cases h
    rw [Jh] at hv
    obtain ⟨x, hx, Kp⟩ := List.any_eq_true.1 hv
    obtain ⟨k, hk, p', q'', hf⟩ := (Jg _ _ _ _ _ he).1 x hx
    obtain ⟨g1, g2⟩ := Jt n a k p' x q'' v hf Kp
    exact ⟨g1, by rw [Jc b v h4]; exact List.any_eq_true.2 ⟨k, hk, g2⟩⟩
  split at h
  ·rename_i h3
   split at h
   ·cases h
   ·cases h; rw [Jv] at hv; cases hv
   ·rename_i l q' he
    cases h
    obtain ⟨hl, dh, Kj⟩ := (DE _ v rfl).1 hv
    replace dh : l.length ≤ v.ks.length := dh
    replace Kj : ∀ i (h : i < l.length), l[i].allows (v.ks[i]'(by omega)) = true := Kj
    have both : ∀ xs ys : List Tg, ys.length ≤ xs.length → listF (meetF n) xs ys (p + 1) = some (some l, q) → (∃ hx : xs.length ≤ v.ks.length, ∀ i (h : i < xs.length), xs[i].allows (v.ks[i]'(by omega)) = true) ∧ (∃ hy : ys.length ≤ v.ks.length, ∀ i (h : i < ys.length), ys[i].allows (v.ks[i]'(by omega)) = true) := by
     intro xs ys td he
     obtain ⟨g1, g2⟩ := Jr _ _ _ _ _ _ he
     refine ⟨⟨by omega, fun i hi => ?_⟩, ⟨by omega, fun i hi => ?_⟩⟩
     ·have h1 := g2 i hi (by omega)
      by_cases hy : i < ys.length
      ·obtain ⟨p', q', hf⟩ := h1.1 hy
       exact (Jt n _ _ _ _ _ _ hf (Kj i (by omega))).1
      ·rw [← h1.2 (by omega)]; exact Kj i (by omega)
     ·obtain ⟨p', q', hf⟩ := (g2 i (by omega) (by omega)).1 hi
      exact (Jt n _ _ _ _ _ _ hf (Kj i (by omega))).2
    split at he
    ·obtain ⟨g1, g2⟩ := both b.ks a.ks (by omega) he
     exact ⟨(DE a v h3.1).2 ⟨hl, g2⟩, (DE b v h3.2).2 ⟨hl, g1⟩⟩
    ·obtain ⟨g1, g2⟩ := both a.ks b.ks (by omega) he
     exact ⟨(DE a v h3.1).2 ⟨hl, g1⟩, (DE b v h3.2).2 ⟨hl, g2⟩⟩
  ·cases h; exact JX a b v hv
inductive InT : Tg → Tg → Prop
 | refl (t : Tg) : InT t t
 | kid {k a x : Tg} : a.kd = 4 → x ∈ a.ks → InT k x → InT k a
theorem InT.allows {k a : Tg} (h : InT k a) (v : Sx) (hv : k.allows v = true) : a.allows v = true := by
 induction h with
 | refl => exact hv
 | kid h4 hx _ ih => rw [Jc _ v h4]; exact List.any_eq_true.2 ⟨_, hx, ih⟩
theorem InT.trans {j k a : Tg} (h1 : InT j k) (h2 : InT k a) : InT j a := by
 induction h2 with
 | refl => exact h1
 | kid h4 hx _ ih => exact .kid h4 hx ih
theorem InT.cases' {k a : Tg} (h : InT k a) : k = a ∨ (a.kd = 4 ∧ ∃ x ∈ a.ks, InT k x) := by
 cases h with
 | refl => exact .inl rfl
 | kid h4 hx h => exact .inr ⟨h4, _, hx, h⟩
theorem Jl : ∀ (n : Nat) (k a : Tg) (p : Nat) (t : Tg) (q : Nat) (v : Sx), InT k a → meetF n k a p = some (t, q) → k.allows v = true → t.allows v = true
 | 0, k, a, p, t, q, v, _, h, _ => by rw [ry] at h; cases h
 | n + 1, k, a, p, t, q, v, jb, h, hv => by
  obtain ⟨h, -⟩ := Jx h
  rw [cx] at h
  split at h
  ·cases h; exact jb.allows v hv
  split at h
  ·cases h; exact hv
  split at h
  ·rename_i h4
   split at h
   ·cases h
   ·rename_i l q' he
    cases h
    rw [Jc k v h4] at hv
    obtain ⟨x, hx, Kp⟩ := List.any_eq_true.1 hv
    obtain ⟨t, ht, p', q'', hf⟩ := (Jg _ _ _ _ _ he).2 x hx
    rw [Jh]
    exact List.any_eq_true.2 ⟨t, ht, Jl n x a p' t q'' v ((InT.kid h4 hx (.refl x)).trans jb) hf Kp⟩
  rename_i h1 h2 h4
  split at h
  ·rename_i h4a
   split at h
   ·cases h
   ·rename_i l q' he
    cases h
    rcases jb.cases' with rfl | ⟨_, x, hx, Cr⟩
    ·exact absurd h4a h4
    obtain ⟨t, ht, p', q'', hf⟩ := (Jg _ _ _ _ _ he).2 x hx
    rw [Jh]
    exact List.any_eq_true.2 ⟨t, ht, Jl n k x p' t q'' v Cr hf hv⟩
  rename_i h4a
  obtain rfl : k = a := by
   rcases jb.cases' with h | ⟨h, _⟩
   ·exact h
   ·exact absurd h h4a
  split at h
  ·rename_i h3
   obtain ⟨hl, dh, Kj⟩ := (DE k v h3.1).1 hv
   rw [if_neg (by omega)] at h
   split at h
   ·cases h
   ·rename_i q' he
    obtain ⟨i, hi, ⟨hy, t', p', q'', hf, hn⟩ | hn⟩ := Jy _ _ _ _ _ he
    ·have := Jl n _ _ p' t' q'' _ (.refl _) hf (Kj i hi)
     rw [Js _ hn] at this; cases this
    ·have := Kj i hi
     rw [Js _ hn] at this; cases this
   ·rename_i l q' he
    cases h
    obtain ⟨g1, g2⟩ := Jr _ _ _ _ _ _ he
    refine (DE _ v rfl).2 ⟨hl, (by show l.length ≤ _; omega), fun i hi => ?_⟩
    replace hi : i < l.length := hi
    obtain ⟨p', q'', hf⟩ := (g2 i (by omega) hi).1 (by omega)
    exact Jl n _ _ p' _ q'' _ (.refl _) hf (Kj i (by omega))
  ·rename_i h3
   cases h
   rw [JA k v h1 h4 (fun e => h3 ⟨e, e⟩)] at hv
   obtain ⟨h5, h6⟩ := Ju hv
   unfold plainT
   rcases JB h6 with h7 | h7 | h7
   ·rw [if_pos ⟨h7, (Ji h7).2 rfl⟩, DD v (.inl h7), h5, h6]; rfl
   ·rw [if_neg (fun h => by omega), if_neg (fun h => by omega)]
    have hp : prefB k.da k.da = true := by rw [JI]; exact List.prefix_refl _
    rw [if_pos ⟨h7, h7, hp⟩, DD v (.inr (.inl h7)), h5, h6]; rfl
   ·rw [if_neg (fun h => by omega), if_neg (fun h => by omega), if_neg (fun h => by omega), if_neg (fun h => by omega), if_pos ⟨h7, h7⟩]
    rw [Jk h7] at h6
    have hm : okB k.r k.r = true := by
     unfold inB at h6
     simp only [Bool.and_eq_true] at h6
     unfold okB
     rw [h6.1.1.1]; simp
    have hi := J3 k.r k.r v.da hm
    rw [h6] at hi
    have he : emptyB (meetR k.r k.r) = false := by
     cases he : emptyB (meetR k.r k.r) with
     | false => rfl
     | true => rw [Kf _ _ he] at hi; cases hi
    rw [hm, he]
    simp only [Bool.not_false, Bool.and_self, if_true]
    rw [DD (t := .mk 6 [] [] (meetR k.r k.r)) v (.inr (.inr rfl)), Jk (t := .mk 6 [] [] (meetR k.r k.r)) rfl, show (Tg.mk 6 [] [] (meetR k.r k.r)).r = meetR k.r k.r from rfl, hi, h5]
    rfl
def allT : Tg := .mk 1 [] [] noR
theorem JY {n : Nat} {a t : Tg} {p q : Nat} (h : meetF n a a p = some (t, q)) (ha : a.may = true) (v : Sx) : t.grants v = a.grants v := by
 have hm : t.may = true := by
  cases n with
  | zero => rw [ry] at h; cases h
  | succ n => exact (Jx h).2
 unfold Tg.grants
 rw [ha, hm]
 have : t.allows v = a.allows v := by
  rw [Bool.eq_iff_iff]
  exact ⟨fun hv => (Jt n a a p t q v h hv).1, fun hv => Jl n a a p t q v (.refl a) h hv⟩
 rw [this]
theorem Kd {a b : Rg} (h : sameR a b = true) : a = b := by
 obtain ⟨o, ⟨i1, o1, l1⟩, ⟨i2, o2, l2⟩⟩ := a
 obtain ⟨o', ⟨i1', o1', l1'⟩, ⟨i2', o2', l2'⟩⟩ := b
 simp [sameR, sameBd] at h
 obtain ⟨⟨rfl, ⟨rfl, rfl⟩, rfl⟩, ⟨rfl, rfl⟩, rfl⟩ := h
 rfl
theorem Ki {a : Tg} (h : a.may = true) (hk : a.kd = 1) : a = allT := by
 unfold Tg.may at h
 simp only [Bool.and_eq_true] at h
 obtain ⟨kd, da, ks, r⟩ := a
 obtain rfl : kd = 1 := hk
 have h1 := h.1
 rw [iH] at h1
 simp only [Bool.and_eq_true] at h1
 have h2 := h1.1.1
 unfold blankT at h2
 rw [if_pos rfl] at h2
 simp only [Bool.and_eq_true, Bool.not_eq_true', decide_eq_false_iff_not] at h2
 obtain rfl : da = [] := List.eq_nil_of_length_eq_zero (by omega)
 obtain rfl : ks = [] := List.eq_nil_of_length_eq_zero (by omega)
 rw [Kd h2.2]
 rfl
theorem J4 : allT.may = true := by decide +kernel
theorem Kh : allT.wide 0 = false := by decide +kernel
theorem JS (a : Tg) (h : a.may = true) : meetF (a.count + allT.count) a allT 0 = some (a, 1) := by
 have hc := kV a
 obtain ⟨n, hn⟩ : ∃ n, a.count + allT.count = n + 1 := ⟨a.count + allT.count - 1, by omega⟩
 rw [hn, jk, if_neg (by omega), cx]
 by_cases h1 : a.kd = 1
 ·rw [if_pos h1, Ki h h1]
  simp only []
  rw [if_pos J4]
 ·rw [if_neg h1, if_pos (show allT.kd = 1 from rfl)]
  simp only []
  rw [if_pos h]
end Go.Proofs.YtmmkaclmgnpplaaGreatDoor

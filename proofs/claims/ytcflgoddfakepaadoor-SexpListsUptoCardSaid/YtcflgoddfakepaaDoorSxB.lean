/- No two trees have one form: plain. -/
import Derived.Test.YtcflgoddfakepaaDoorLenBack
import Derived.Test.YtcflgoddfakepaaDoorSx6
namespace Go.Proofs.YtcflgoddfakepaaDoor
open Go.RowKit

theorem digits_split {a b : List UInt8} {c d : UInt8} {x y : List UInt8} (ha : ∀ z ∈ a, isD z) (hb : ∀ z ∈ b, isD z) (hc : ¬ isD c) (hd : ¬ isD d) (h : a ++ c :: x = b ++ d :: y) : a = b ∧ c = d ∧ x = y := by
  induction a generalizing b with
  | nil =>
    cases b with
    | nil => simp at h; exact ⟨rfl, h.1, h.2⟩
    | cons z r => simp at h; exact absurd (h.1 ▸ hb z List.mem_cons_self) hc
  | cons z r ih =>
    cases b with
    | nil => simp at h; exact absurd (h.1.symm ▸ ha z List.mem_cons_self) hd
    | cons z' r' =>
      simp only [List.cons_append, List.cons.injEq] at h
      obtain ⟨rfl, h⟩ := h
      obtain ⟨rfl, h2, h3⟩ := ih (fun z hz => ha z (List.mem_cons_of_mem _ hz)) (fun z hz => hb z (List.mem_cons_of_mem _ hz)) h
      exact ⟨rfl, h2, h3⟩
theorem not_isD {c : UInt8} (h : c.toNat < 48 ∨ 57 < c.toNat) : ¬ isD c := by unfold isD; omega
theorem numL_facts (n : Nat) : (∀ c ∈ numL (n : Int), isD c) ∧ valA 0 (numL (n : Int)) = n ∧ 0 < (numL (n : Int)).length := by
  have := dec_facts n
  unfold numL
  rw [Int.toNat_natCast]
  exact ⟨this.1, this.2.1, this.2.2.2⟩
theorem numL_inj {n m : Nat} (h : numL (n : Int) = numL (m : Int)) : n = m := by rw [← (numL_facts n).2.1, ← (numL_facts m).2.1, h]
theorem textL_inj {l l' r r' : List UInt8} (h : textL l ++ r = textL l' ++ r') : l = l' ∧ r = r' := by
  simp only [textL, List.append_assoc, List.cons_append] at h
  obtain ⟨h1, _, h2⟩ := digits_split (numL_facts _).1 (numL_facts _).1 (not_isD (c := 58) (by decide)) (not_isD (c := 58) (by decide)) h
  have := numL_inj h1
  exact List.append_inj h2 this
theorem textL_head (l r : List UInt8) : ∃ c t, textL l ++ r = c :: t ∧ isD c := by
  obtain ⟨h1, _, h2⟩ := numL_facts l.length
  obtain ⟨c, t, e⟩ : ∃ c t, numL (l.length : Int) = c :: t := by
    cases e : numL (l.length : Int) with
    | nil => rw [e] at h2; cases h2
    | cons c t => exact ⟨c, t, rfl⟩
  refine ⟨c, t ++ 58 :: (l ++ r), ?_, h1 c (by rw [e]; exact List.mem_cons_self)⟩
  simp [textL, e]
/-- how a form begins -/
theorem form_head (s : Sx) (r : List UInt8) : ∃ c t, s.form ++ r = c :: t ∧ ((s.l = true ∧ c = 40) ∨ (s.l = false ∧ s.h = true ∧ c = 91) ∨ (s.l = false ∧ s.h = false ∧ isD c)) := by
  obtain ⟨l, h, hi, da, ks⟩ := s
  rw [form_def]
  cases l with
  | true => exact ⟨40, _, rfl, .inl ⟨rfl, rfl⟩⟩
  | false =>
    cases h with
    | true => exact ⟨91, _, rfl, .inr (.inl ⟨rfl, rfl, rfl⟩)⟩
    | false =>
      obtain ⟨c, t, e, hd⟩ := textL_head da r
      exact ⟨c, t, by simpa using e, .inr (.inr ⟨rfl, rfl, hd⟩)⟩
theorem form_not_end (s : Sx) (r r' : List UInt8) : s.form ++ r ≠ 41 :: r' := by
  intro h
  obtain ⟨c, t, e, h2⟩ := form_head s r
  rw [e] at h
  simp only [List.cons.injEq] at h
  obtain ⟨rfl, _⟩ := h
  rcases h2 with ⟨_, h2⟩ | ⟨_, _, h2⟩ | ⟨_, _, h2⟩
  · exact absurd h2 (by decide)
  · exact absurd h2 (by decide)
  · exact absurd h2 (not_isD (by decide))
theorem clean_parts {l h : Bool} {hi da : List UInt8} {ks : List Sx} (hc : (Sx.mk l h hi da ks).clean = true) :
    (l = true → h = false ∧ hi = [] ∧ da = []) ∧ (l = false → ks = [] ∧ (h = false → hi = [])) ∧ ∀ k ∈ ks, k.clean = true := by
  rw [clean_def, Bool.and_eq_true] at hc
  refine ⟨fun e => ?_, fun e => ?_, fun k hk => ?_⟩
  · subst e; have := hc.1; unfold headOk at this; simpa [and_assoc] using this
  · subst e
    have := hc.1
    unfold headOk at this
    simp at this
    exact ⟨this.1, fun e => by subst e; simpa using this.2⟩
  · by_cases e : k.clean = true
    · exact e
    · have := Sx.cleanL_no hk (by simpa using e)
      rw [this] at hc
      cases hc.2
theorem form_inj (s : Sx) : ∀ (t : Sx) (r r' : List UInt8), s.clean = true → t.clean = true → s.form ++ r = t.form ++ r' → s = t ∧ r = r' := by
  induction s using Sx.ind with
  | h l hh hi da ks ih =>
    intro t r r' hc hc' h
    obtain ⟨l2, h2, hi2, da2, ks2⟩ := t
    obtain ⟨c, x, e1, k1⟩ := form_head (.mk l hh hi da ks) r
    obtain ⟨c', x', e2, k2⟩ := form_head (.mk l2 h2 hi2 da2 ks2) r'
    have ec : c = c' := by rw [e1, e2] at h; exact (List.cons.injEq .. ▸ h).1
    subst ec
    obtain ⟨p1, p2, p3⟩ := clean_parts hc
    obtain ⟨q1, q2, q3⟩ := clean_parts hc'
    simp only [Sx.l, Sx.h] at k1 k2
    have d1 : ¬ isD 40 := not_isD (by decide)
    have d2 : ¬ isD 91 := not_isD (by decide)
    rcases k1 with ⟨rfl, rfl⟩ | ⟨rfl, rfl, rfl⟩ | ⟨rfl, rfl, k1⟩
    · rcases k2 with ⟨rfl, _⟩ | ⟨_, _, k2⟩ | ⟨_, _, k2⟩
      · obtain ⟨rfl, rfl, rfl⟩ := p1 rfl
        obtain ⟨rfl, rfl, rfl⟩ := q1 rfl
        rw [form_def, form_def, if_pos rfl, if_pos rfl] at h
        simp only [List.cons_append, List.cons.injEq, List.append_assoc, true_and, List.nil_append] at h
        clear e1 e2 hc hc' p1 p2 q1 q2 x x'
        have key : ks = ks2 ∧ r = r' := by
          induction ks generalizing ks2 with
          | nil =>
            cases ks2 with
            | nil => simp [Sx.formL] at h; exact ⟨rfl, h⟩
            | cons y s =>
              simp only [Sx.formL, List.nil_append, List.append_assoc] at h
              exact absurd h.symm (form_not_end y _ _)
          | cons y s ihs =>
            cases ks2 with
            | nil =>
              simp only [Sx.formL, List.nil_append, List.append_assoc] at h
              exact absurd h (form_not_end y _ _)
            | cons y' s' =>
              simp only [Sx.formL, List.append_assoc] at h
              obtain ⟨rfl, h3⟩ := ih y List.mem_cons_self y' _ _ (p3 y List.mem_cons_self) (q3 y' List.mem_cons_self) h
              obtain ⟨rfl, h4⟩ := ihs (fun k hk => ih k (List.mem_cons_of_mem _ hk)) s' (fun k hk => p3 k (List.mem_cons_of_mem _ hk)) (fun k hk => q3 k (List.mem_cons_of_mem _ hk)) h3
              exact ⟨rfl, h4⟩
        obtain ⟨rfl, rfl⟩ := key
        exact ⟨rfl, rfl⟩
      · exact absurd k2 (by decide)
      · exact absurd k2 d1
    · rcases k2 with ⟨_, k2⟩ | ⟨rfl, rfl, _⟩ | ⟨_, _, k2⟩
      · exact absurd k2 (by decide)
      · obtain ⟨rfl, _⟩ := p2 rfl
        obtain ⟨rfl, _⟩ := q2 rfl
        rw [form_def, form_def] at h
        simp only [Bool.false_eq_true, if_false, if_true, List.cons_append, List.cons.injEq, List.append_assoc, true_and, List.nil_append] at h
        obtain ⟨rfl, h3⟩ := textL_inj h
        simp only [List.cons.injEq, true_and] at h3
        obtain ⟨rfl, rfl⟩ := textL_inj h3
        exact ⟨rfl, rfl⟩
      · exact absurd k2 d2
    · rcases k2 with ⟨_, k2⟩ | ⟨_, _, k2⟩ | ⟨rfl, rfl, _⟩
      · exact absurd (k2 ▸ k1) d1
      · exact absurd (k2 ▸ k1) d2
      · obtain ⟨rfl, f1⟩ := p2 rfl
        obtain ⟨rfl, f2⟩ := q2 rfl
        obtain rfl := f1 rfl
        obtain rfl := f2 rfl
        rw [form_def, form_def] at h
        simp only [Bool.false_eq_true, if_false, List.nil_append] at h
        obtain ⟨rfl, rfl⟩ := textL_inj h
        exact ⟨rfl, rfl⟩
theorem form_same {s t : Sx} (hs : s.clean = true) (ht : t.clean = true) : (s.form == t.form) = s.same t := by
  rw [Bool.eq_iff_iff, beq_iff_eq, Sx.same_iff]
  exact ⟨fun h => (form_inj s t [] [] hs ht (by rw [h])).1, fun h => by rw [h]⟩
end Go.Proofs.YtcflgoddfakepaaDoor

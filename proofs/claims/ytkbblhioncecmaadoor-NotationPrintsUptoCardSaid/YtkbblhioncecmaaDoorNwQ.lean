/- Notation in plain words: what is printed is read as it was. -/
import Derived.Test.YtkbblhioncecmaaDoorNwP
namespace Go.Proofs.YtkbblhioncecmaaDoor
open Go.RowKit
set_option linter.unusedSimpArgs false
set_option linter.unusedVariables false

theorem hval_hxd' : ∀ k : Fin 16, hval (hxd k.val).toNat = some k.val := by decide
theorem unhex_hexL' (l : List UInt8) : unhex (hexL l) = some l := by
  induction l with
  | nil => rfl
  | cons c t ih =>
    have hc := c.toNat_lt
    have e1 := hval_hxd' ⟨c.toNat / 16, by omega⟩
    have e2 := hval_hxd' ⟨c.toNat % 16, by omega⟩
    simp only at e1 e2
    rw [show hexL (c :: t) = hxd (c.toNat / 16) :: hxd (c.toNat % 16) :: hexL t from rfl]
    simp only [unhex, e1, e2, ih, Option.map_some]
    rw [show 16 * (c.toNat / 16) + c.toNat % 16 = c.toNat by omega]
    simp
theorem unb64_b64 (l : List UInt8) : unb64 (b64 l) = some l := by unfold unb64; rw [unb_b64, if_pos rfl]
theorem hexL_hex (l : List UInt8) : ∀ c ∈ hexL l, hexC c = true := by
  intro c hc
  unfold hexL at hc
  rw [List.mem_flatMap] at hc
  obtain ⟨a, _, ha⟩ := hc
  have hl := a.toNat_lt
  have e1 := hval_hxd' ⟨a.toNat / 16, by omega⟩
  have e2 := hval_hxd' ⟨a.toNat % 16, by omega⟩
  simp only at e1 e2
  simp only [List.mem_cons, List.not_mem_nil, or_false] at ha
  unfold hexC
  rcases ha with rfl | rfl
  · rw [e1]; rfl
  · rw [e2]; rfl
theorem sgn_b64 : ∀ k : Fin 64, b64C (sgn k.val) = true := by decide
theorem sgn_b64' (n : Nat) : b64C (sgn (n % 64)) = true := sgn_b64 ⟨n % 64, by omega⟩
theorem b64_b64 : ∀ (l : List UInt8), ∀ c ∈ b64 l, b64C c = true
  | [], c, h => by simp [b64] at h
  | [a], c, h => by
    simp only [b64, List.mem_cons, List.not_mem_nil, or_false] at h
    rcases h with rfl | rfl | rfl | rfl <;> first | exact sgn_b64' _ | decide
  | [a, b], c, h => by
    simp only [b64, List.mem_cons, List.not_mem_nil, or_false] at h
    rcases h with rfl | rfl | rfl | rfl <;> first | exact sgn_b64' _ | decide
  | a :: b :: d :: t, c, h => by
    simp only [b64, quad, List.mem_append, List.mem_cons, List.not_mem_nil, or_false] at h
    rcases h with (rfl | rfl | rfl | rfl) | h
    · exact sgn_b64' _
    · exact sgn_b64' _
    · exact sgn_b64' _
    · exact sgn_b64' _
    · exact b64_b64 t c h
theorem nSome_all (good : UInt8 → Bool) (en : UInt8) (hen : good en = false) : ∀ (m t : List UInt8) (p : Nat), (∀ c ∈ m, good c = true) → nSome good en (m ++ en :: t) p = ⟨m, p + m.length, 0⟩
  | [], t, p, h => by
    rw [List.nil_append, nSome, if_pos rfl]
    simp
  | c :: m, t, p, h => by
    have hc := h c (List.mem_cons_self ..)
    have hne : c ≠ en := fun e => by rw [e, hen] at hc; cases hc
    rw [List.cons_append, nSome, if_neg hne, hc, nSome_all good en hen m t (p + 1) (fun x hx => h x (List.mem_cons_of_mem _ hx))]
    simp
    omega
theorem dropC {l : List UInt8} {p : Nat} {a : UInt8} {u : List UInt8} (h : l.drop p = a :: u) : p < l.length ∧ l.getD p 0 = a ∧ l.drop (p + 1) = u := by
  have hp : p < l.length := by
    rcases Nat.lt_or_ge p l.length with h' | h'
    · exact h'
    · rw [List.drop_eq_nil_of_le h'] at h; cases h
  rw [List.drop_eq_getElem_cons hp] at h
  injection h with h1 h2
  exact ⟨hp, by rw [List.getD_eq_getElem?_getD, List.getElem?_eq_getElem hp]; exact h1, h2⟩
theorem dropA {l x t : List UInt8} {p : Nat} (h : l.drop p = x ++ t) : l.drop (p + x.length) = t := by
  rw [← List.drop_drop, h, List.drop_left]
theorem read_hex {l x t : List UInt8} {p : Nat} (h : l.drop p = hexL x ++ 35 :: t) : nHex l p = ⟨x, p + (hexL x).length + 1, 0⟩ := by
  unfold nHex
  rw [h, nSome_all hexC 35 (by decide) _ _ _ (hexL_hex x)]
  dsimp only
  rw [if_neg (by simp), unhex_hexL']
theorem read_b64 {l x t : List UInt8} {p : Nat} {en : UInt8} (hen : b64C en = false) (h : l.drop p = b64 x ++ en :: t) : nB64 l p en = ⟨x, p + (b64 x).length + 1, 0⟩ := by
  unfold nB64
  rw [h, nSome_all b64C en hen _ _ _ (b64_b64 x)]
  dsimp only
  rw [if_neg (by simp), unb64_b64]
theorem esc_of {l : List UInt8} {p : Nat} {c : UInt8} {u : List UInt8} (h : l.drop p = c :: u) (hc : c = 34 ∨ c = 92) : nEsc l p = ⟨[c], p + 1, 0⟩ := by
  obtain ⟨h1, h2, h3⟩ := dropC h
  unfold nEsc
  rw [if_neg (by omega), h2]
  rcases hc with rfl | rfl
  · rw [if_neg (by decide), if_neg (by decide), show escL.idxOf? 34 = some 6 from by decide]; rfl
  · rw [if_neg (by decide), if_neg (by decide), show escL.idxOf? 92 = some 8 from by decide]; rfl
theorem read_quo : ∀ (x : List UInt8) (l t : List UInt8) (p : Nat), l.drop p = x.flatMap quoteC ++ 34 :: t → nQuote l p = ⟨x, p + (x.flatMap quoteC).length + 1, 0⟩
  | [], l, t, p, h => by
    obtain ⟨h1, h2, h3⟩ := dropC (show l.drop p = 34 :: t from h)
    rw [nQuote_step h1, if_pos h2]
    simp
  | c :: x, l, t, p, h => by
    rw [List.flatMap_cons, List.append_assoc] at h
    by_cases hc : c = 34 ∨ c = 92
    · have hq : quoteC c = [92, c] := if_pos hc
      rw [hq] at h
      obtain ⟨h1, h2, h3⟩ := dropC (show l.drop p = 92 :: (c :: (x.flatMap quoteC ++ 34 :: t)) from h)
      have he := esc_of h3 hc
      obtain ⟨_, _, h4⟩ := dropC h3
      rw [nQuote_step h1, h2, if_neg (by decide), if_neg (by decide), he]
      dsimp only
      rw [if_neg (by simp), read_quo x l t (p + 1 + 1) h4, List.flatMap_cons, hq]
      simp [BR.pre]
      omega
    · have hq : quoteC c = [c] := if_neg hc
      rw [hq] at h
      obtain ⟨h1, h2, h3⟩ := dropC (show l.drop p = c :: (x.flatMap quoteC ++ 34 :: t) from h)
      have n34 : c ≠ 34 := fun e => hc (.inl e)
      have n92 : c ≠ 92 := fun e => hc (.inr e)
      rw [nQuote_step h1, h2, if_neg n34, if_pos n92, read_quo x l t (p + 1) h3, List.flatMap_cons, hq]
      simp [BR.pre]
      omega
theorem sign_not : ∀ n : Fin 256, signB n.val.toUInt8 = true → n.val.toUInt8 ≠ 34 ∧ n.val.toUInt8 ≠ 35 ∧ n.val.toUInt8 ≠ 124 ∧ n.val.toUInt8 ≠ 40 ∧ n.val.toUInt8 ≠ 91 ∧ n.val.toUInt8 ≠ 41 ∧ blankB n.val.toUInt8 = false := by decide +kernel
theorem sign_no {c : UInt8} (h : signB c = true) : c ≠ 34 ∧ c ≠ 35 ∧ c ≠ 124 ∧ c ≠ 40 ∧ c ≠ 91 ∧ c ≠ 41 ∧ blankB c = false := by
  have := sign_not ⟨c.toNat, c.toNat_lt⟩ (by rw [byte_fin]; exact h)
  rwa [byte_fin] at this
theorem blank_sign {c : UInt8} (h : blankB c = true) : signB c = false := by
  cases hs : signB c with
  | false => rfl
  | true => rw [(sign_no hs).2.2.2.2.2.2] at h; cases h
/-- a rest that does not go on with a token's sign -/
def Stops (t : List UInt8) : Prop := ∀ c r, t = c :: r → signB c = false
theorem takeWhile_stops : ∀ (x t : List UInt8), (∀ c ∈ x, signB c = true) → Stops t → (x ++ t).takeWhile signB = x
  | [], [], _, _ => rfl
  | [], c :: r, _, ht => by rw [List.nil_append, List.takeWhile_cons_of_neg (by rw [ht c r rfl]; simp)]
  | c :: x, t, h, ht => by rw [List.cons_append, List.takeWhile_cons_of_pos (h c (List.mem_cons_self ..)), takeWhile_stops x t (fun a ha => h a (List.mem_cons_of_mem _ ha)) ht]
theorem tok_parts {x : List UInt8} (h : tokB x = true) : ∃ c u, x = c :: u ∧ numB c = false ∧ ∀ a ∈ x, signB a = true := by
  unfold tokB at h
  simp only [Bool.and_eq_true, decide_eq_true_eq, Bool.not_eq_true'] at h
  obtain ⟨h1, h2, h3⟩ := h
  cases x with
  | nil => simp at h1
  | cons c u => exact ⟨c, u, rfl, by simpa using h2, fun a ha => by
      have h4 := List.any_eq_false.1 h3 a ha
      simpa using h4⟩
/-- how an atom's text begins -/
theorem plainL_head (x : List UInt8) : ∃ c u, plainL x = c :: u ∧ begB c = true ∧ c ≠ 40 ∧ c ≠ 91 ∧ c ≠ 41 ∧ blankB c = false := by
  unfold plainL
  split
  · rename_i h
    obtain ⟨c, u, rfl, hn, hs⟩ := tok_parts h
    have h1 := hs c (List.mem_cons_self ..)
    obtain ⟨a1, a2, a3, a4, a5, a6, a7⟩ := sign_no h1
    exact ⟨c, u, rfl, by unfold begB; rw [h1]; simp, a4, a5, a6, a7⟩
  · split
    · split
      · exact ⟨35, _, rfl, by decide, by decide, by decide, by decide, by decide⟩
      · exact ⟨124, _, rfl, by decide, by decide, by decide, by decide, by decide⟩
    · exact ⟨34, _, rfl, by decide, by decide, by decide, by decide, by decide⟩
theorem read_plain {l x t : List UInt8} {p : Nat} (h : l.drop p = plainL x ++ t) (ht : Stops t) : nPlain l p = ⟨x, p + (plainL x).length, 0⟩ := by
  unfold plainL at h ⊢
  split at h
  · rename_i hk
    rw [if_pos hk]
    obtain ⟨c, u, rfl, hn, hs⟩ := tok_parts hk
    have h1 := hs c (List.mem_cons_self ..)
    obtain ⟨a1, a2, a3, a4, a5, a6, a7⟩ := sign_no h1
    obtain ⟨b1, b2, b3⟩ := dropC (show l.drop p = c :: (u ++ t) from h)
    unfold nPlain
    rw [if_neg (by omega), b2, hn, if_neg (by simp), if_neg a1, if_neg a2, if_neg a3, if_pos h1, h, takeWhile_stops _ _ hs ht]
  · rename_i hk
    rw [if_neg hk]
    split at h
    · rename_i hs
      rw [if_pos hs]
      split at h
      · rename_i hl
        rw [if_pos hl]
        obtain ⟨b1, b2, b3⟩ := dropC (show l.drop p = 35 :: (hexL x ++ 35 :: t) by rw [h]; simp)
        unfold nPlain
        rw [if_neg (by omega), b2, if_neg (by decide), if_neg (by decide), if_pos rfl, read_hex b3]
        simp
        omega
      · rename_i hl
        rw [if_neg hl]
        obtain ⟨b1, b2, b3⟩ := dropC (show l.drop p = 124 :: (b64 x ++ 124 :: t) by rw [h]; simp)
        unfold nPlain
        rw [if_neg (by omega), b2, if_neg (by decide), if_neg (by decide), if_neg (by decide), if_pos rfl, read_b64 (by decide) b3]
        simp
        omega
    · rename_i hs
      rw [if_neg hs]
      obtain ⟨b1, b2, b3⟩ := dropC (show l.drop p = 34 :: (x.flatMap quoteC ++ 34 :: t) by rw [h]; simp [quoteL])
      unfold nPlain
      rw [if_neg (by omega), b2, if_neg (by decide), if_pos rfl, read_quo x l t (p + 1) b3]
      simp [quoteL]
      omega
theorem adv_head (s : Sx) : ∃ c u, s.adv = c :: u ∧ begB c = true ∧ c ≠ 41 ∧ blankB c = false := by
  obtain ⟨l, h, hi, da, ks⟩ := s
  unfold Sx.adv
  cases l with
  | true => exact ⟨40, _, rfl, by decide, by decide, by decide⟩
  | false =>
    cases h with
    | true => exact ⟨91, _, rfl, by decide, by decide, by decide⟩
    | false =>
      obtain ⟨c, u, e, a1, a2, a3, a4, a5⟩ := plainL_head da
      exact ⟨c, u, by simpa using e, a1, a4, a5⟩
theorem stops41 (t : List UInt8) : Stops (41 :: t) := fun c r e => by cases e; decide
theorem stops93 (t : List UInt8) : Stops (93 :: t) := fun c r e => by cases e; decide
theorem stops_advR (ks : List Sx) (t : List UInt8) : Stops (Sx.advR ks ++ 41 :: t) := by
  cases ks with
  | nil => exact stops41 t
  | cons k r => exact fun c u e => by simp only [Sx.advR, List.cons_append, List.nil_append] at e; injection e with e1; subst e1; decide
theorem skip_head {l : List UInt8} {p : Nat} {c : UInt8} {u : List UInt8} (h : l.drop p = c :: u) (hb : blankB c = false) : skipN l p = p := by
  obtain ⟨h1, h2, _⟩ := dropC h
  exact skip_at h1 h2 hb
theorem adv_Nt (s : Sx) : ∀ (l t : List UInt8) (p q lv n : Nat), skipN l p = q → l.drop q = s.adv ++ t → Stops t → s.clean = true → s.deep + lv ≤ 17 → n + s.nodes ≤ 512 → Nt l none p lv n ⟨s, q + s.adv.length, n + s.nodes, 0⟩ := by
  induction s using Sx.ind with
  | h b hh hi da ks ih =>
  intro l t p q lv n hq hd ht hc hdp hn
  obtain ⟨c0, u0, eh, hb0, h41, hbl⟩ := adv_head (.mk b hh hi da ks)
  obtain ⟨hlt, hg, _⟩ := dropC (show l.drop q = c0 :: (u0 ++ t) by rw [hd, eh]; rfl)
  have hnodes : (Sx.mk b hh hi da ks).nodes = 1 + Sx.nodesL ks := by simp only [Sx.nodes]
  cases b with
  | true =>
    simp only [Sx.clean, if_true, Bool.and_eq_true, Bool.not_eq_true', beq_iff_eq] at hc
    obtain ⟨⟨⟨rfl, h1⟩, h2⟩, hkc⟩ := hc
    obtain rfl := List.eq_nil_of_length_eq_zero h1
    obtain rfl := List.eq_nil_of_length_eq_zero h2
    have hdeep : Sx.deepL ks + 1 + lv ≤ 17 := by simpa [Sx.deep] using hdp
    have hadv : (Sx.mk true false [] [] ks).adv = 40 :: (Sx.advL ks ++ [41]) := by simp [Sx.adv]
    rw [hadv] at hd
    obtain ⟨_, hg40, hd2⟩ := dropC (show l.drop q = 40 :: (Sx.advL ks ++ 41 :: t) by rw [hd]; simp)
    -- the rest of the list, each value behind a blank
    have key : ∀ (rest acc : List Sx) (p1 n1 : Nat), (∀ k ∈ rest, k ∈ ks) → l.drop p1 = Sx.advR rest ++ 41 :: t → Sx.cleanL rest = true → n1 + Sx.nodesL rest ≤ 512 → Nt l (some acc) p1 lv n1 ⟨.mk true false [] [] (acc ++ rest), p1 + (Sx.advR rest).length + 1, n1 + Sx.nodesL rest, 0⟩ := by
      intro rest
      induction rest with
      | nil =>
        intro acc p1 n1 _ hd1 _ _
        have hs := skip_head (show l.drop p1 = 41 :: t from hd1) (by decide)
        obtain ⟨k1, k2, _⟩ := dropC (show l.drop p1 = 41 :: t from hd1)
        have := Nt.close (l := l) (p := p1) (lv := lv) (n := n1) (acc := acc) (by rw [hs]; exact k1) (by rw [hs]; exact k2)
        rw [hs] at this
        simpa [Sx.advR, Sx.nodesL] using this
      | cons k r ihr =>
        intro acc p1 n1 hmem hd1 hcl hnn
        simp only [Sx.cleanL, Bool.and_eq_true] at hcl
        simp only [Sx.nodesL] at hnn
        obtain ⟨ck, uk, ek, bk, nk, wk⟩ := adv_head k
        obtain ⟨j1, j2, j3⟩ := dropC (show l.drop p1 = 32 :: (k.adv ++ (Sx.advR r ++ 41 :: t)) by rw [hd1]; simp [Sx.advR])
        obtain ⟨j4, j5, _⟩ := dropC (show l.drop (p1 + 1) = ck :: (uk ++ (Sx.advR r ++ 41 :: t)) by rw [j3, ek]; rfl)
        have s1 : skipN l (p1 + 1) = p1 + 1 := skip_at j4 j5 wk
        have s0 : skipN l p1 = p1 + 1 := by
          rw [skipN_blank j1 (by rw [show l[p1] = l.getD p1 0 from by rw [List.getD_eq_getElem?_getD, List.getElem?_eq_getElem j1]; rfl, j2]; decide), s1]
        have dk := Sx.deepL_mem (hmem k (List.mem_cons_self ..))
        have a1 := ih k (hmem k (List.mem_cons_self ..)) l (Sx.advR r ++ 41 :: t) (p1 + 1) (p1 + 1) (lv + 1) n1 s1 j3 (stops_advR r t) hcl.1 (by omega) (by omega)
        have a2 := ihr (acc ++ [k]) (p1 + 1 + k.adv.length) (n1 + k.nodes) (fun x hx => hmem x (List.mem_cons_of_mem _ hx)) (dropA j3) hcl.2 (by omega)
        have := Nt.more (l := l) (p := p1) (lv := lv) (n := n1) (acc := acc) (by rw [s0]; exact j4) (by rw [s0, j5]; exact nk) (by rw [s0]; exact a1) rfl a2
        have e1 : p1 + 1 + k.adv.length + (Sx.advR r).length + 1 = p1 + (Sx.advR (k :: r)).length + 1 := by simp [Sx.advR]; omega
        have e2 : n1 + k.nodes + Sx.nodesL r = n1 + Sx.nodesL (k :: r) := by simp [Sx.nodesL]; omega
        rw [e1, e2] at this
        simpa using this
    have lst : Nt l (some []) (q + 1) lv (n + 1) ⟨.mk true false [] [] ks, q + 1 + (Sx.advL ks).length + 1, n + 1 + Sx.nodesL ks, 0⟩ := by
      cases ks with
      | nil =>
        have := key [] [] (q + 1) (n + 1) (fun k hk => hk) (by simpa [Sx.advL, Sx.advR] using hd2) rfl (by simp [Sx.nodesL] at hnodes ⊢; omega)
        simpa [Sx.advL, Sx.advR] using this
      | cons k r =>
        simp only [Sx.cleanL, Bool.and_eq_true] at hkc
        simp only [Sx.nodesL] at hnodes
        obtain ⟨ck, uk, ek, bk, nk, wk⟩ := adv_head k
        have j3 : l.drop (q + 1) = k.adv ++ (Sx.advR r ++ 41 :: t) := by rw [hd2]; simp [Sx.advL]
        obtain ⟨j4, j5, _⟩ := dropC (show l.drop (q + 1) = ck :: (uk ++ (Sx.advR r ++ 41 :: t)) by rw [j3, ek]; rfl)
        have s1 : skipN l (q + 1) = q + 1 := skip_at j4 j5 wk
        have dk := Sx.deepL_mem (List.mem_cons_self (a := k) (l := r))
        have a1 := ih k (List.mem_cons_self ..) l (Sx.advR r ++ 41 :: t) (q + 1) (q + 1) (lv + 1) (n + 1) s1 j3 (stops_advR r t) hkc.1 (by omega) (by omega)
        have a2 := key r ([] ++ [k]) (q + 1 + k.adv.length) (n + 1 + k.nodes) (fun x hx => List.mem_cons_of_mem _ hx) (dropA j3) hkc.2 (by omega)
        have := Nt.more (l := l) (p := q + 1) (lv := lv) (n := n + 1) (acc := []) (by rw [s1]; exact j4) (by rw [s1, j5]; exact nk) (by rw [s1]; exact a1) rfl a2
        have e1 : q + 1 + k.adv.length + (Sx.advR r).length + 1 = q + 1 + (Sx.advL (k :: r)).length + 1 := by simp [Sx.advL]; omega
        have e2 : n + 1 + k.nodes + Sx.nodesL r = n + 1 + Sx.nodesL (k :: r) := by simp [Sx.nodesL]; omega
        rw [e1, e2] at this
        simpa using this
    have := Nt.list (l := l) (p := p) (lv := lv) (n := n) (by rw [hq]; exact hlt) (by rw [hq]; exact hg40) (by omega) (by omega) (by rw [hq]; exact lst)
    rw [hadv, hnodes]
    have e1 : q + 1 + (Sx.advL ks).length + 1 = q + (40 :: (Sx.advL ks ++ [41])).length := by simp; omega
    have e2 : n + 1 + Sx.nodesL ks = n + (1 + Sx.nodesL ks) := by omega
    rwa [e1, e2] at this
  | false =>
    simp only [Sx.clean, Bool.false_eq_true, if_false, Bool.and_eq_true, beq_iff_eq, Bool.or_eq_true] at hc
    obtain ⟨⟨h1, h2⟩, _⟩ := hc
    obtain rfl := List.eq_nil_of_length_eq_zero h1
    have hn1 : n + 1 ≤ 512 := by rw [hnodes] at hn; omega
    rw [hnodes]
    simp only [Sx.nodesL]
    cases hh with
    | true =>
      have hadv : (Sx.mk false true hi da []).adv = 91 :: (plainL hi ++ 93 :: plainL da) := by simp [Sx.adv]
      rw [hadv] at hd ⊢
      obtain ⟨_, hg91, hd2⟩ := dropC (show l.drop q = 91 :: (plainL hi ++ (93 :: (plainL da ++ t))) by rw [hd]; simp)
      obtain ⟨c1, v1, e1, _, _, _, _, w1⟩ := plainL_head hi
      have s1 : skipN l (q + 1) = q + 1 := skip_head (show l.drop (q + 1) = c1 :: (v1 ++ (93 :: (plainL da ++ t))) by rw [hd2, e1]; rfl) w1
      have p1 := read_plain hd2 (stops93 _)
      have hd3 := dropA hd2
      obtain ⟨k1, k2, k3⟩ := dropC hd3
      have s2 : skipN l (q + 1 + (plainL hi).length) = q + 1 + (plainL hi).length := skip_head hd3 (by decide)
      obtain ⟨c2, v2, e2, _, _, _, _, w2⟩ := plainL_head da
      have s3 : skipN l (q + 1 + (plainL hi).length + 1) = q + 1 + (plainL hi).length + 1 := skip_head (show l.drop (q + 1 + (plainL hi).length + 1) = c2 :: (v2 ++ t) by rw [k3, e2]; rfl) w2
      have p2 := read_plain k3 ht
      have := Nt.hint (l := l) (p := p) (lv := lv) (n := n) (by rw [hq]; exact hlt) (by rw [hq]; exact hg91) hn1
      unfold nHint at this
      dsimp only at this
      rw [hq, s1, p1] at this
      dsimp only at this
      rw [s2, if_neg (by simp), if_neg (by omega), k2, if_neg (by simp), s3, p2] at this
      dsimp only at this
      rw [if_neg (by simp)] at this
      have e3 : q + 1 + (plainL hi).length + 1 + (plainL da).length = q + (91 :: (plainL hi ++ 93 :: plainL da)).length := by simp; omega
      rwa [e3] at this
    | false =>
      obtain rfl : hi = [] := by
        rcases h2 with h2 | h2
        · cases h2
        · exact List.eq_nil_of_length_eq_zero h2
      have hadv : (Sx.mk false false [] da []).adv = plainL da := by simp [Sx.adv]
      rw [hadv] at hd ⊢
      obtain ⟨c1, v1, e1, b1, n40, n91, _, w1⟩ := plainL_head da
      obtain ⟨_, k2, _⟩ := dropC (show l.drop q = c1 :: (v1 ++ t) by rw [hd, e1]; rfl)
      have p1 := read_plain hd ht
      have := Nt.atom (l := l) (p := p) (lv := lv) (n := n) (by rw [hq]; exact hlt) (by rw [hq, k2]; exact b1) (by rw [hq, k2]; exact n40) (by rw [hq, k2]; exact n91) hn1
      unfold nAtom at this
      dsimp only at this
      rw [hq, p1] at this
      dsimp only at this
      rwa [if_neg (by simp)] at this
theorem skip_blanks : ∀ (a : List UInt8) (l : List UInt8) (p : Nat) (t : List UInt8), (∀ c ∈ a, blankB c = true) → l.drop p = a ++ t → (∀ c r, t = c :: r → blankB c = false) → skipN l p = p + a.length
  | [], l, p, t, _, h, ht => by
    cases t with
    | nil =>
      have : l.length ≤ p := by simpa using h
      rw [skipN_end this]; rfl
    | cons c r => rw [skip_head (show l.drop p = c :: r from h) (ht c r rfl)]; rfl
  | c :: a, l, p, t, hb, h, ht => by
    obtain ⟨h1, h2, h3⟩ := dropC (show l.drop p = c :: (a ++ t) from h)
    rw [skipN_blank h1 (by rw [show l[p] = l.getD p 0 from by rw [List.getD_eq_getElem?_getD, List.getElem?_eq_getElem h1]; rfl, h2]; exact hb c (List.mem_cons_self ..)), skip_blanks a l (p + 1) t (fun x hx => hb x (List.mem_cons_of_mem _ hx)) h3 ht, List.length_cons]
    omega
theorem stops_blanks {b : List UInt8} (h : ∀ c ∈ b, blankB c = true) : Stops b := fun c r e => blank_sign (h c (by rw [e]; exact List.mem_cons_self ..))
/-- what is printed is read as it was, blanks or not -/
theorem adv_read {s : Sx} (hm : s.may = true) {a b : List UInt8} (ha : ∀ c ∈ a, blankB c = true) (hb : ∀ c ∈ b, blankB c = true) (hl : (a ++ s.adv ++ b).length ≤ 16384) : GotN (Nt (a ++ s.adv ++ b) none 0 1 0) (a ++ s.adv ++ b) s 0 0 := by
  obtain ⟨m1, m2, m3, m4⟩ := may_parts hm
  obtain ⟨c, u, e, _, _, w⟩ := adv_head s
  have s0 : skipN (a ++ s.adv ++ b) 0 = a.length := by
    rw [skip_blanks a _ 0 (s.adv ++ b) ha (by simp) (fun x r h => by rw [e] at h; injection h with h1; subst h1; exact w)]; omega
  have hd : (a ++ s.adv ++ b).drop a.length = s.adv ++ b := by rw [List.append_assoc, List.drop_left]
  have hn := adv_Nt s (a ++ s.adv ++ b) b 0 a.length 1 0 s0 hd (stops_blanks hb) m1 (by omega) (by omega)
  have hd2 := dropA hd
  have s1 : skipN (a ++ s.adv ++ b) (a.length + s.adv.length) = (a ++ s.adv ++ b).length := by
    rw [skip_blanks b _ _ [] hb (by rw [hd2]; simp) (fun x r h => by cases h)]; simp; omega
  exact .inr ⟨hl, _, hn, .inr (.inr (.inr ⟨rfl, by show _ ≤ skipN _ (a.length + s.adv.length); rw [s1]; exact Nat.le_refl _, hm, rfl, rfl, rfl⟩))⟩
theorem pack_read {s : Sx} (hm : s.may = true) {a b : List UInt8} (ha : ∀ c ∈ a, blankB c = true) (hb : ∀ c ∈ b, blankB c = true) (hl : (a ++ s.pack ++ b).length ≤ 16384) : GotN (Pk (a ++ s.pack ++ b)) (a ++ s.pack ++ b) s 0 0 := by
  have hp : s.pack = 123 :: (b64 s.form ++ [125]) := by simp [Sx.pack]
  have s0 : skipN (a ++ s.pack ++ b) 0 = a.length := by
    rw [skip_blanks a _ 0 (s.pack ++ b) ha (by simp) (fun x r h => by rw [hp] at h; injection h with h1; subst h1; decide)]; omega
  have hd : (a ++ s.pack ++ b).drop a.length = 123 :: (b64 s.form ++ 125 :: b) := by rw [List.append_assoc, List.drop_left, hp]; simp
  obtain ⟨h1, h2, h3⟩ := dropC hd
  have hx := read_b64 (en := 125) (by decide) h3
  have hd2 : (a ++ s.pack ++ b).drop (a.length + 1 + (b64 s.form).length + 1) = b := (dropC (dropA h3)).2.2
  have s1 : skipN (a ++ s.pack ++ b) (a.length + 1 + (b64 s.form).length + 1) = (a ++ s.pack ++ b).length := by
    rw [skip_blanks b _ _ [] hb (by rw [hd2]; simp) (fun x r h => by cases h)]; rw [hp]; simp; omega
  refine .inr ⟨hl, ⟨s, a.length + 1 + (b64 s.form).length + 1, 0, 0⟩, ?_, .inr (.inr (.inr ⟨rfl, ?_, hm, rfl, rfl, rfl⟩))⟩
  · refine .inr (.inr (.inr ⟨by rw [s0]; exact h1, by rw [s0]; exact h2, by rw [s0, hx], s, 0, 0, ?_, .inr ⟨rfl, ?_⟩⟩))
    · rw [s0, hx]; exact got_form hm
    · rw [s0, hx]
  · show _ ≤ skipN _ (a.length + 1 + (b64 s.form).length + 1)
    rw [s1]
    exact Nat.le_refl _
end Go.Proofs.YtkbblhioncecmaaDoor

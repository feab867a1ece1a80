/- Rows of principals of the call's own; how many principals a subject has at most. -/
import Derived.Test.YthmigigclmogiaaDoorSj4
namespace Go.Proofs.YthmigigclmogiaaDoor
open Go.RowKit
set_option linter.unusedSimpArgs false
set_option linter.unusedVariables false

def cellsE : List (Bool × S3) → List Value
  | [] => []
  | e :: r => .bool e.1 :: .slice e.2.a e.2.n e.2.c :: cellsE r
theorem cellsE_append (a b : List (Bool × S3)) : cellsE (a ++ b) = cellsE a ++ cellsE b := by
  induction a with
  | nil => rfl
  | cons x r ih => simp [cellsE, ih]
theorem cellsE_len (a : List (Bool × S3)) : (cellsE a).length = a.length * 2 := by
  induction a with
  | nil => rfl
  | cons x r ih => simp [cellsE, ih]; omega
theorem cellsE_one {a : List (Bool × S3)} : ∀ u ∈ cellsE a, u.oneCell' = true := by
  induction a with
  | nil => intro u hu; cases hu
  | cons x r ih =>
    intro u hu
    simp only [cellsE, List.mem_cons] at hu
    rcases hu with rfl | rfl | hu
    · rfl
    · rfl
    · exact ih u hu
theorem cellsE_at (a : List (Bool × S3)) (i : Nat) (h : i < a.length) : (cellsE a)[i * 2]? = some (.bool a[i].1) ∧ (cellsE a)[i * 2 + 1]? = some (.slice a[i].2.a a[i].2.n a[i].2.c) := by
  induction a generalizing i with
  | nil => cases h
  | cons x r ih =>
    cases i with
    | zero => exact ⟨rfl, rfl⟩
    | succ i =>
      have := ih i (by simpa using h)
      rw [show (i + 1) * 2 = i * 2 + 2 by omega]
      exact this
/-- entries read as principals, through blocks that are ok -/
inductive ME (ok : Nat → Prop) (w : World) : List (Bool × S3) → List (Bool × List UInt8) → Prop
  | nil : ME ok w [] []
  | cons (s : Bool) (e : S3) (l : List UInt8) (E : List (Bool × S3)) (ks : List (Bool × List UInt8)) : Sl w e.a e.n e.c l → InB ok e.a e.n → ME ok w E ks → ME ok w ((s, e) :: E) ((s, l) :: ks)
theorem ME.append {ok : Nat → Prop} {w : World} {E F : List (Bool × S3)} {ks kt : List (Bool × List UInt8)} (h : ME ok w E ks) (h2 : ME ok w F kt) : ME ok w (E ++ F) (ks ++ kt) := by
  induction h with
  | nil => exact h2
  | cons s e l E ks h1 hi _ ih => exact .cons s e l _ _ h1 hi ih
theorem ME.keep {ok : Nat → Prop} {w w' : World} {E : List (Bool × S3)} {ks : List (Bool × List UInt8)} (h : ME ok w E ks) (hk : ∀ b, ok b → w'.heap[b]? = w.heap[b]?) : ME ok w' E ks := by
  induction h with
  | nil => exact .nil
  | cons s e l E ks h1 hi _ ih => exact .cons s e l _ _ (h1.keep (hi.heap hk)) hi ih
theorem ME.mono {ok ok' : Nat → Prop} {w : World} {E : List (Bool × S3)} {ks : List (Bool × List UInt8)} (h : ME ok w E ks) (hm : ∀ b, ok b → ok' b) : ME ok' w E ks := by
  induction h with
  | nil => exact .nil
  | cons s e l E ks h1 hi _ ih => exact .cons s e l _ _ h1 (hi.mono hm) ih
theorem ME.there {ok : Nat → Prop} {w : World} {E : List (Bool × S3)} {ks : List (Bool × List UInt8)} (h : ME ok w E ks) : ME (fun b => ok b ∧ b < w.heap.size) w E ks := by
  induction h with
  | nil => exact .nil
  | cons s e l E ks h1 hi _ ih => exact .cons s e l _ _ h1 (hi.both h1.inB) ih
theorem ME.after {ok : Nat → Prop} {w w' : World} {E : List (Bool × S3)} {ks : List (Bool × List UInt8)} (h : ME ok w E ks) (hb : Below w.heap.size w w') : ME ok w' E ks :=
  (h.there.keep fun b hb' => hb.block b hb'.2).mono fun _ h => h.1
theorem ME.len {ok : Nat → Prop} {w : World} {E : List (Bool × S3)} {ks : List (Bool × List UInt8)} (h : ME ok w E ks) : E.length = ks.length := by
  induction h with
  | nil => rfl
  | cons s e l E ks _ _ _ ih => simp [ih]
theorem ME.at_ {ok : Nat → Prop} {w : World} {E : List (Bool × S3)} {ks : List (Bool × List UInt8)} (h : ME ok w E ks) (i : Nat) (h1 : i < E.length) (h2 : i < ks.length) : E[i].1 = ks[i].1 ∧ Sl w E[i].2.a E[i].2.n E[i].2.c ks[i].2 := by
  induction h generalizing i with
  | nil => cases h1
  | cons s e l E ks hs _ _ ih =>
    cases i with
    | zero => exact ⟨rfl, hs⟩
    | succ i => exact ih i (by simpa using h1) (by simpa using h2)
/-- the row has grown; the entries lie elsewhere -/
theorem ME.grew {ok : Nat → Prop} {w w' : World} {v v' : Value} {E : List (Bool × S3)} {ks : List (Bool × List UInt8)} (h : ME ok w E ks) (hv : ∀ b, ok b → b < w.heap.size → v.ownBlock ≠ some b) (hg : w.grownBy w' v.ownBlock)
    (hw : ∀ k, v'.ownBlock = some k → v.ownBlock = some k ∨ w.heap.size ≤ k) : ME (okO ok v') w' E ks :=
  (h.there.keep fun b hb => hg.block b hb.2 (fun e => hv b hb.1 hb.2 e.symm)).mono fun b hb => ⟨hb.1, fun e => by
    rcases hw b e with h1 | h1
    · exact hv b hb.1 hb.2 h1
    · have := hb.2; omega⟩
theorem OwnG.srcE {w : World} {B n : Nat} {v : Value} {E : List (Bool × S3)} (h : OwnG w B 2 v n (cellsE E)) : Src Tryd.prog 2 39 v n (cellsE E) w := by
  rcases h.2 with ⟨rfl, rfl⟩ | ⟨g, o, cap, rfl, _, _, _, _, _, h8⟩
  · have h1 : cellsE E = [] := List.eq_nil_of_length_eq_zero (by simpa using h.1)
    rw [h1]
    exact Src.ofNil w Tryd.underlying39 0
  · refine Src.ofSlice w Tryd.underlying39 _ n cap _ h.1 (fun j u hu => ?_) cellsE_one
    rw [Addr.add_mid]
    exact h8 j u hu
theorem wpList_append_E2 {ops : Array Oper} {rest : List Oper} {o : Oper} {a : Act} {w : World} {B n : Nat} {v : Value} {xs : List Value} {Q : Exit → Act → World → Prop} (hgd : o.guard = none) (s x : Operand)
    (ho : o.op = .call { callee := .builtin .append, args := #[s, x], argTypes := #[39, 39] })
    (hs : a.eval s = v) (h : OwnG w B 2 v n xs) {m : Nat} {news : List Value} {xv : Value} (hx : a.eval x = xv) (hsrc : Src Tryd.prog 2 39 xv m news w) (hn : n + m ≤ 1000000000) (hB : B ≤ w.heap.size)
    (hk : ∀ v' w', OwnG w' B 2 v' (n + m) (xs ++ news) → w.grownBy w' v.ownBlock → (∀ k, v'.ownBlock = some k → v.ownBlock = some k ∨ w.heap.size ≤ k) → wpList Tryd.prog ops Q rest (a.put o.dst v') w') : wpList Tryd.prog ops Q (o :: rest) a w := by
  obtain ⟨i0, hi, hi2⟩ := Option.map_eq_some_iff.1 infoKey
  simp only [Prod.mk.injEq] at hi2
  obtain ⟨hz0, hz1, hz2⟩ := hi2
  exact wpList_plain hgd fun _ hK => wp_append_G s x 39 39 ho 24 i0 (.agg #[.bool false, .slice none 0 0]) 32 Tryd.underlying39 hi hz0 hz1 hz2 rfl (by decide) hs h _ hx m news hsrc (by unfold maxLen; omega) (by omega) hB fun v' w' h1 h2 h3 => hK _ _ (hk v' w' h1 h2 h3)
theorem wp_append_E2 {o : Oper} {a : Act} {K : Act → World → Prop} {w : World} {B n : Nat} {v : Value} {xs : List Value} {Q : Exit → Act → World → Prop} (s x : Operand)
    (ho : o.op = .call { callee := .builtin .append, args := #[s, x], argTypes := #[39, 39] })
    (hs : a.eval s = v) (h : OwnG w B 2 v n xs) {m : Nat} {news : List Value} {xv : Value} (hx : a.eval x = xv) (hsrc : Src Tryd.prog 2 39 xv m news w) (hn : n + m ≤ 1000000000) (hB : B ≤ w.heap.size)
    (hk : ∀ v' w', OwnG w' B 2 v' (n + m) (xs ++ news) → w.grownBy w' v.ownBlock → (∀ k, v'.ownBlock = some k → v.ownBlock = some k ∨ w.heap.size ≤ k) → K (a.put o.dst v') w') : o.wp Tryd.prog a w K Q := by
  obtain ⟨i0, hi, hi2⟩ := Option.map_eq_some_iff.1 infoKey
  simp only [Prod.mk.injEq] at hi2
  obtain ⟨hz0, hz1, hz2⟩ := hi2
  exact wp_append_G s x 39 39 ho 24 i0 (.agg #[.bool false, .slice none 0 0]) 32 Tryd.underlying39 hi hz0 hz1 hz2 rfl (by decide) hs h _ hx m news hsrc (by unfold maxLen; omega) (by omega) hB hk
theorem own_below {w w' : World} {B n : Nat} {v : Value} {xs : List Value} (B0 : Nat) (hB : B0 ≤ B) (hW : B0 ≤ w.heap.size) (h : OwnG w B 2 v n xs) (hg : w.grownBy w' v.ownBlock) {W : World} (hb : Below B0 W w) : Below B0 W w' := hb.grown hg hW (fun k hk => by have := (h.lt k hk).1; omega)

theorem keysL_take (ks : List Sj) (k : Nat) : (Sj.keysL (ks.take k)).length ≤ (Sj.keysL ks).length := by
  induction ks generalizing k with
  | nil => simp
  | cons x r ih =>
    cases k with
    | zero => simp [Sj.keysL]
    | succ k => simp only [List.take_succ_cons, Sj.keysL, List.length_append]; have := ih k; omega
theorem greatL_no {ks : List Sj} {m : Nat} (h : Sj.greatL ks m = false) : ∀ k ∈ ks, k.great m = false := by
  intro k hk
  cases hg : k.great m with
  | false => rfl
  | true => rw [Sj.greatL_yes hk hg] at h; cases h
theorem greatJ_no {kd : Nat} {s : Bool} {da : List UInt8} {ns : List (List UInt8)} {k : Int} {ks : List Sj} {m : Nat} (h : (Sj.mk kd s da ns k ks).great m = false) :
    m ≤ 6 ∧ ks.length ≤ 12 ∧ ns.length ≤ 12 ∧ da.length ≤ 200 ∧ (∀ l ∈ ns, l.length ≤ 5000) ∧ Sj.greatL ks (m + 1) = false := by
  rw [great_def] at h
  simp only [Bool.or_eq_false_iff, decide_eq_false_iff_not, List.any_eq_false, decide_eq_true_eq] at h
  obtain ⟨h1, h2, h3, h4, h5, h6⟩ := h
  exact ⟨by omega, by omega, by omega, by omega, fun l hl => by have := h5 l hl; omega, h6⟩
theorem keysL_len {ks : List Sj} {c : Nat} (h : ∀ k ∈ ks, k.keys.length ≤ c) : (Sj.keysL ks).length ≤ ks.length * c := by
  induction ks with
  | nil => simp [Sj.keysL]
  | cons x r ih =>
    simp only [Sj.keysL, List.length_append, List.length_cons, Nat.add_mul, Nat.one_mul]
    have h1 := h x List.mem_cons_self
    have h2 := ih (fun k hk => h k (List.mem_cons_of_mem _ hk))
    omega
theorem keys_len (s : Sj) : ∀ m, s.great m = false → s.keys.length ≤ 13 ^ (7 - m) := by
  induction s using Sj.ind with
  | h kd sb da ns kk ks ih =>
    intro m h
    obtain ⟨h1, h2, _, _, _, h6⟩ := greatJ_no h
    have h3 := keysL_len (fun k hk => ih k hk (m + 1) (greatL_no h6 k hk))
    have h4 : ks.length * 13 ^ (7 - (m + 1)) ≤ 12 * 13 ^ (7 - (m + 1)) := Nat.mul_le_mul_right _ h2
    have h5 : 13 ^ (7 - m) = 13 * 13 ^ (7 - (m + 1)) := by rw [show 7 - m = (7 - (m + 1)) + 1 by omega, Nat.pow_succ, Nat.mul_comm]
    have h7 : 0 < 13 ^ (7 - (m + 1)) := Nat.pow_pos (by omega)
    simp only [Sj.keys, List.length_append]
    have h8 : (if kd = 1 ∨ kd = 2 then [(sb, da)] else []).length ≤ 1 := by split <;> simp
    omega
theorem keys_max {s : Sj} {m : Nat} (h : s.great m = false) : s.keys.length ≤ 62748517 := by
  have h1 := keys_len s m h
  have h2 : 13 ^ (7 - m) ≤ 13 ^ 7 := Nat.pow_le_pow_right (by omega) (by omega)
  have : 13 ^ 7 = 62748517 := by decide
  omega
end Go.Proofs.YthmigigclmogiaaDoor

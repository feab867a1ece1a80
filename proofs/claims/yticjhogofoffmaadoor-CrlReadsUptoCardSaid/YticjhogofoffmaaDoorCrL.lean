/- A list of canceled ones of a value: the program's crl.Get. -/
import Derived.Test.YticjhogofoffmaaDoorCrK
import Derived.Test.YticjhogofoffmaaDoorCrI
import Derived.Test.YticjhogofoffmaaDoorCrA
namespace Go.Proofs.YticjhogofoffmaaDoor
open Go.RowKit
set_option linter.unusedSimpArgs false
set_option linter.unusedVariables false

theorem setCells_part (g : Nat) (T : TypeId) : ∀ (vs : List Value) (o : Nat) (w : World) (pre mid suf : List Value), pre.length = o → mid.length = vs.length → Box w g T (pre ++ (mid ++ suf)).toArray →
    Box (w.setCells g o vs) g T (pre ++ (vs ++ suf)).toArray ∧ Stored w (w.setCells g o vs) g
  | [], o, w, pre, mid, suf, _, hl, h => by
    have : mid = [] := List.eq_nil_of_length_eq_zero hl
    subst this
    exact ⟨h, Stored.refl _ _⟩
  | v :: vs, o, w, pre, [], suf, _, hl, _ => by cases hl
  | v :: vs, o, w, pre, p :: mid, suf, hp, hl, h => by
    have h1 := h.set o v
    have e : (pre ++ (p :: mid ++ suf)).toArray.setIfInBounds o v = ((pre ++ [v]) ++ (mid ++ suf)).toArray := by
      subst hp
      simp
    rw [e] at h1
    have h2 := setCells_part g T vs (o + 1) (w.setCell ⟨g, o, none⟩ v) (pre ++ [v]) mid suf (by simp [hp]) (by simpa using hl) h1
    refine ⟨by simpa [World.setCells] using h2.1, ?_⟩
    have h3 := (Stored.refl w g).setCell o v
    exact ⟨fun k hk => (h2.2.other k hk).trans (h3.other k hk), h2.2.size.trans h3.size, fun B W hB hb => h2.2.below B W hB (h3.below B W hB hb)⟩
section
variable {P : Program} {ops : Array Oper}
theorem wpList_load_boxH {rest : List Oper} {o : Oper} {a : Act} {w : World} {Q : Exit → Act → World → Prop} (ty : TypeId) (x : Operand) (ho : o.op = .load ty x)
    {g : Nat} {T : TypeId} {cs : Array Value} (hg : Box w g T cs) (hx : a.eval x = .pointer (some ⟨g, 0, none⟩)) {d : TypeDesc}
    (hu : P.underlying ty = some d) (hd : (match d with | .struct _ | .array _ _ => true | _ => false) = true) (hi : (P.info? ty).map (·.size) = some cs.size)
    (hgd : Region.wanted o (yielded ops a.tmps) = true) (h : wpList P ops Q rest (a.put o.dst (.agg cs)) w) : wpList P ops Q (o :: rest) a w := wpList_load_box hgd ty x ho hg hx hu hd hi h
/-- some cells in the midst of a box are stored -/
theorem wpList_store_part {rest : List Oper} {o : Oper} {a : Act} {w : World} {Q : Exit → Act → World → Prop} (hgd : Region.wanted o (yielded ops a.tmps) = true) (ty : TypeId) (x y : Operand) (ho : o.op = .store ty x y)
    {g : Nat} {T : TypeId} (pre mid suf : List Value) {cells : Array Value} {k : Nat} (hg : Box w g T (pre ++ (mid ++ suf)).toArray) (hx : a.eval x = .pointer (some ⟨g, k, none⟩)) (hpre : pre.length = k) (hy : a.eval y = .agg cells) (hsz : mid.length = cells.size)
    (hi : (P.info? ty).map (·.size) = some cells.size) (h1 : cells.all (·.oneCell') = true)
    (h : ∀ w', Box w' g T (pre ++ (cells.toList ++ suf)).toArray → Stored w w' g → wpList P ops Q rest (a.put o.dst undef) w') : wpList P ops Q (o :: rest) a w := by
  have hs := setCells_part g T cells.toList k w pre mid suf hpre (by simpa using hsz) hg
  refine wpList_want hgd fun _ hK => wp_store_mid ty x y ho g k cells hx hy (fun j hj => ?_) hi h1 (hK _ _ (h _ hs.1 hs.2))
  exact ⟨by rw [cell_of_row w g (k + j) _ T _ hg, List.getElem?_toArray, List.getElem?_eq_getElem (by simp; omega)]; rfl, hg.frozen (k + j)⟩
end
/-- a slice of bytes that reads as a list, through blocks that are ok -/
def SlI (ok : Nat → Prop) (w : World) (a : Option Addr) (n c : Nat) (l : List UInt8) : Prop := Sl w a n c l ∧ InB ok a n
section
variable {ok ok' : Nat → Prop} {w w' : World} {a : Option Addr} {n c : Nat} {l : List UInt8}
theorem SlI.after (h : SlI ok w a n c l) (hb : Below w.heap.size w w') : SlI ok w' a n c l := ⟨h.1.after hb, h.2⟩
theorem SlI.keep (h : SlI ok w a n c l) (hk : ∀ b, ok b → w'.heap[b]? = w.heap[b]?) : SlI ok w' a n c l := ⟨h.1.keep (h.2.heap hk), h.2⟩
theorem SlI.there (h : SlI ok w a n c l) : SlI (fun b => ok b ∧ b < w.heap.size) w a n c l := ⟨h.1, h.2.both h.1.inB⟩
theorem SlI.mono (h : SlI ok w a n c l) (hm : ∀ b, ok b → ok' b) : SlI ok' w a n c l := ⟨h.1, h.2.mono hm⟩
end
theorem SlI.grew {p : Nat → Prop} {own v' : Value} {u w2 : World} {a : Option Addr} {n c : Nat} {l : List UInt8} (h : SlI (okO p own) u a n c l) (hg : u.grownBy w2 own.ownBlock) (hw : ∀ k, v'.ownBlock = some k → own.ownBlock = some k ∨ u.heap.size ≤ k) : SlI (okO p v') w2 a n c l :=
  (h.there.keep (fun k hk => hg.block k hk.2 (fun e => hk.1.2 e.symm))).mono (fun k hk => ⟨hk.1.1, fun e => (hw k e).elim (fun e => hk.1.2 e) (fun e => by have := hk.2; omega)⟩)
theorem rowsZ_more {p : Nat → Prop} {n : Nat} {own v' : Value} {u w2 : World} {Z : Nat → S3} {acc : List (List UInt8)} {z : S3} {s : List UInt8} (hn : n = acc.length)
    (hK : ∀ i (hi : i < acc.length), SlI (okO p own) u (Z i).a (Z i).n (Z i).c acc[i]) (hR : SlI (okO p own) u z.a z.n z.c s)
    (hg : u.grownBy w2 own.ownBlock) (hw : ∀ k, v'.ownBlock = some k → own.ownBlock = some k ∨ u.heap.size ≤ k) :
    ∀ i (hi : i < (acc ++ [s]).length), SlI (okO p v') w2 (if i = n then z else Z i).a (if i = n then z else Z i).n (if i = n then z else Z i).c (acc ++ [s])[i] := by
  intro i hi
  by_cases hia : i = n
  · rw [if_pos hia]
    have e : (acc ++ [s])[i] = s := by
      subst hia hn
      simp
    rw [e]
    exact hR.grew hg hw
  · rw [if_neg hia]
    have hlt : i < acc.length := by simp at hi; omega
    rw [List.getElem_append_left hlt]
    exact (hK i hlt).grew hg hw
theorem vZ_add (Z : Nat → S3) (k : Nat) (z : S3) : vZ Z 0 k ++ [z.val] = vZ (fun i => if i = k then z else Z i) 0 (k + 1) := by
  unfold vZ
  rw [List.range_succ, List.map_append]
  congr 1
  · refine List.map_congr_left fun i hi => ?_
    have := List.mem_range.1 hi
    dsimp only
    rw [if_neg (by omega)]
  · simp
theorem srcZ (w : World) (z : S3) : Src Tryd.prog 1 25 (.slice (some ⟨w.heap.size, 0, none⟩) 1 1) 1 [z.val] (w.alloc (.cells #[.slice z.a z.n z.c] 22)) := by
  refine Src.ofSlice _ Tryd.underlying25 _ 1 1 _ rfl (fun j u hu => ?_) (fun u hu => ?_)
  · rw [Addr.add_mid]
    refine (Box.new w 22 #[.slice z.a z.n z.c]).cell (0 + j) ?_
    rw [Nat.zero_add]
    simpa [S3.val] using hu
  · simp only [List.mem_cons, List.not_mem_nil, or_false] at hu
    rw [hu]
    rfl
theorem KeyG.out {k : Sx} {w w' : World} {e : Ending} (h : KeyG k w e w') : ∃ (a : Option Addr) (n c : Nat) (er : Int), e = .returned (.tuple #[.agg #[.bool (keyOr k).1, .slice a n c], .int .i64 er]) ∧ SlI (fun b => w.heap.size ≤ b) w' a n c (keyOr k).2 ∧ Below w.heap.size w w' := by
  rcases h with ⟨s, l, h1, a, n, c, rfl, h2, h3, h4⟩ | ⟨h1, rfl, h4⟩
  · refine ⟨a, n, c, 0, ?_, ?_, h4⟩
    · unfold keyOr; rw [h1]; rfl
    · unfold keyOr; rw [h1]; exact ⟨h2, h3⟩
  · refine ⟨none, 0, 0, 7, ?_, ?_, h4⟩
    · unfold keyOr; rw [h1]; rfl
    · unfold keyOr; rw [h1]; exact ⟨Sl.nil _, .inl rfl⟩
theorem WinG.out {k : Sx} {w w' : World} {e : Ending} (h : WinG k w e w') : ∃ (er : Int) (x : W4), x = (winGet k).getD W4.nil ∧ e = .returned (.tuple #[.agg #[.bool x.p, .int .i64 x.f, .bool x.q, .int .i64 x.t], .int .i64 er]) ∧ Below w.heap.size w w' := by
  rcases h with ⟨x, h1, rfl, h4⟩ | ⟨h1, rfl, h4⟩
  · exact ⟨0, x, by rw [h1]; rfl, rfl, h4⟩
  · exact ⟨11, W4.nil, by rw [h1]; rfl, rfl, h4⟩
theorem CrlP.out {c : Cr} {w w' : World} {e : Ending} (h : CrlP c w e w') : ∃ (v : SV) (er : Int), e = .returned (.tuple #[.agg #[.bool v.l, .bool v.h, .slice v.a1 v.n1 v.c1, .slice v.a2 v.n2 v.c2, .slice v.a3 v.n3 v.c3], .int .i64 er]) ∧ RdI (fun b => w.heap.size ≤ b) w' v (orNil c.may c.tree) ∧ ((er = 0 ∧ c.may = true) ∨ (er = 3 ∧ c.may = false)) ∧ Below w.heap.size w w' := by
  rcases h with ⟨h1, v, rfl, h2, h3⟩ | ⟨h1, rfl, h3⟩
  · exact ⟨v, 0, rfl, by rw [h1]; exact h2, .inl ⟨rfl, h1⟩, h3⟩
  · exact ⟨SV.nil, 3, rfl, by rw [h1]; exact rd_nil _ _, .inr ⟨rfl, h1⟩, h3⟩
theorem keyOr_len (k : Sx) : (keyOr k).2.length ≤ 64 := by
  unfold keyOr
  cases h : keyGet k with
  | none => simp
  | some x =>
    have := ((keyGet_iff k x.1 x.2).1 h).1
    obtain ⟨s, l⟩ := x
    cases s <;> simp [keyMay] at this <;> simp [this]
noncomputable def tryW (r : List Sx) : W4 := match r with | [] => W4.nil | k :: _ => (winGet k).getD W4.nil
def sumsT (ks : List Sx) (k : Nat) : List (List UInt8) := (ks.tail.take k).map (fun k => (keyOr k).2)
theorem sumsT_snoc (ks : List Sx) (k : Nat) (h : k + 1 < ks.length) : sumsT ks (k + 1) = sumsT ks k ++ [(keyOr ks[k + 1]).2] := by
  unfold sumsT
  rw [List.take_succ_eq_append_getElem (by simp; omega), List.map_append]
  simp
theorem sumsT_len (ks : List Sx) (k : Nat) (h : k + 1 ≤ ks.length) : (sumsT ks k).length = k := by unfold sumsT; simp; omega
theorem sumsT_all (ks : List Sx) (k : Nat) (h : ks.length ≤ k + 1) : sumsT ks k = ks.tail.map (fun k => (keyOr k).2) := by unfold sumsT; rw [List.take_of_length_le (by simp; omega)]
theorem sumsT_short (ks : List Sx) (k : Nat) : ∀ l ∈ sumsT ks k, l.length ≤ 100000 := fun l hl => by
  obtain ⟨x, _, rfl⟩ := List.mem_map.1 hl
  have := keyOr_len x
  omega
theorem crlTry_eq (kl kh : Bool) (khi kda : List UInt8) (k0 k1 k2 : Sx) (r : List Sx) (c0 c1 : Sx) (hc : k1.ks = [c0, c1]) : crlTry (.mk kl kh khi kda (k0 :: k1 :: k2 :: r)) = ⟨(keyOr c1).1, (keyOr c1).2, k2.ks.tail.map (fun k => (keyOr k).2), tryW r⟩ := by
  unfold crlTry tryW
  simp only [show (Sx.mk kl kh khi kda (k0 :: k1 :: k2 :: r)).ks = k0 :: k1 :: k2 :: r from rfl, List.getD_cons_succ, List.getD_cons_zero, hc]
  cases r <;> simp
theorem crlShape_eq (kl kh : Bool) (khi kda : List UInt8) (k0 k1 k2 : Sx) (r : List Sx) : crlShape (.mk kl kh khi kda (k0 :: k1 :: k2 :: r)) = (decide (k1.ks.length = 2) && (decide (0 < k2.ks.length) && (Sx.mk kl kh khi kda (k0 :: k1 :: k2 :: r)).may)) := by
  unfold crlShape
  simp only [show (Sx.mk kl kh khi kda (k0 :: k1 :: k2 :: r)).ks = k0 :: k1 :: k2 :: r from rfl, List.getD_cons_succ, List.getD_cons_zero]
  rw [decide_eq_true (show 3 ≤ (k0 :: k1 :: k2 :: r).length by simp)]
  rfl
theorem crlGet_no {v : Sx} (h : crlShape v = false) : crlGet v = none := by unfold crlGet; rw [h]; rfl
theorem crlGet_yes {v : Sx} (h : crlShape v = true) : crlGet v = if (crlTry v).may && v.same (crlTry v).tree then some (crlTry v) else none := by unfold crlGet; rw [h, Bool.true_and]
/-- 'append(out, b)' of slices of bytes, in a plain region -/
theorem wpList_append_Z {ops : Array Oper} {rest : List Oper} {o : Oper} {a : Act} {w : World} {B n : Nat} {v : Value} {xs : List Value} {Q : Exit → Act → World → Prop} (hgd : o.guard = none) (s x : Operand)
    (ho : o.op = .call { callee := .builtin .append, args := #[s, x], argTypes := #[25, 25] })
    (hs : a.eval s = v) (h : OwnG w B 1 v n xs) {m : Nat} {news : List Value} {xv : Value} (hx : a.eval x = xv) (hsrc : Src Tryd.prog 1 25 xv m news w) (hn : n + m ≤ 1000000) (hB : B ≤ w.heap.size)
    (hk : ∀ v' w', OwnG w' B 1 v' (n + m) (xs ++ news) → w.grownBy w' v.ownBlock → (∀ k, v'.ownBlock = some k → v.ownBlock = some k ∨ w.heap.size ≤ k) → wpList Tryd.prog ops Q rest (a.put o.dst v') w') : wpList Tryd.prog ops Q (o :: rest) a w :=
  wpList_plain hgd fun _ hK => wp_append_Z s x ho hs h hx hsrc hn hB fun v' w' h1 h2 h3 => hK _ _ (hk v' w' h1 h2 h3)
/-- a row of slices of bytes, through blocks that are ok -/
def RowSI (ok : Nat → Prop) (w : World) (a : Option Addr) (n c : Nat) (Z : Nat → S3) (ls : List (List UInt8)) : Prop := RowS w a n c Z ls ∧ InB ok a n ∧ ∀ i (_ : i < ls.length), InB ok (Z i).a (Z i).n
theorem RowSI.after {ok : Nat → Prop} {w w' : World} {a : Option Addr} {n c : Nat} {Z : Nat → S3} {ls : List (List UInt8)} (h : RowSI ok w a n c Z ls) (hb : Below w.heap.size w w') : RowSI ok w' a n c Z ls := ⟨h.1.after hb, h.2⟩
theorem RowSI.keep {ok : Nat → Prop} {w w' : World} {a : Option Addr} {n c : Nat} {Z : Nat → S3} {ls : List (List UInt8)} (h : RowSI ok w a n c Z ls) (hk : ∀ b, ok b → w'.heap[b]? = w.heap[b]?) : RowSI ok w' a n c Z ls := by
  obtain ⟨⟨h1, h2, h3, h4, h5, h6⟩, h7, h8⟩ := h
  refine ⟨⟨h1, h2, h3, h4, ?_, fun i hi => (h6 i hi).keep ((h8 i hi).heap hk)⟩, h7, h8⟩
  rcases h5 with h5 | ⟨b, o, rfl, h5⟩
  · exact .inl h5
  · rcases h7.heap hk with h0 | h0
    · exact .inl h0
    · exact .inr ⟨b, o, rfl, fun i hi => (World.cell?_of_block (a := ⟨b, o + i, none⟩) (h0 b o none rfl)).trans (h5 i hi)⟩
/-- what getting a list answers -/
def CrlG (v : Sx) (w : World) (e : Ending) (w' : World) : Prop :=
  (∃ c : Cr, crlGet v = some c ∧ ∃ ka kn kc sa sn sc Z, e = .returned (.tuple #[.agg #[.bool c.s, .slice ka kn kc, .slice sa sn sc, .bool c.x.p, .int .i64 c.x.f, .bool c.x.q, .int .i64 c.x.t], .int .i64 0]) ∧ Sl w' ka kn kc c.l ∧ RowS w' sa sn sc Z c.ls ∧ Below w.heap.size w w') ∨
  (crlGet v = none ∧ e = .returned (.tuple #[.agg #[.bool false, .slice none 0 0, .slice none 0 0, .bool false, .int .i64 0, .bool false, .int .i64 0], .int .i64 3]) ∧ Below w.heap.size w w')

set_option maxHeartbeats 16000000 in
set_option maxRecDepth 100000 in
theorem crlGet_any (s : Sx) (v : SV) (w : World) (hr : Rd w v s) (mm : Nat) (hw : s.wide mm = false) (ht : Tab w) : Calls Tryd.prog 13 #[v.val] w (CrlG s w) := by
  obtain ⟨kl, kh, khi, kda, ks⟩ := s
  have HW0 := Lib.hid hw
  have HW : Hid (∀ k ∈ ks, k.wide (mm + 1) = false) := Lib.hid (wide_no hw).2.2.2.2
  have HRV := Lib.hid hr
  have HT0 := Lib.hid ht
  obtain ⟨e1, e2, _, _, hn, hnc, hcm, K, hrow, hk⟩ := hr.parts
  obtain ⟨vl, vh, va1, vn1, vc1, va2, vn2, vc2, va3, vn3, vc3⟩ := v
  replace hn : vn3 = ks.length := hn
  replace hnc : vn3 ≤ vc3 := hnc
  replace hcm : vc3 ≤ maxLen := hcm
  unfold maxLen at hcm
  replace hk : ∀ i (hi : i < ks.length), Rd w (K i) ks[i] := hk
  replace hrow : RowAt w va3 vn3 vc3 K := hrow
  have HN := Lib.hid hn
  have HK := Lib.hid hk
  have HROW := Lib.hid hrow
  unfold SV.val
  show Calls _ _ #[.agg #[.bool vl, .bool vh, .slice va1 vn1 vc1, .slice va2 vn2 vc2, .slice va3 vn3 vc3]] _ _
  have B : Below w.heap.size w (((w.alloc (.cells #[.bool vl, .bool vh, .slice va1 vn1 vc1, .slice va2 vn2 vc2, .slice va3 vn3 vc3] 37)).alloc (.cells #[.bool false, .slice none 0 0, .slice none 0 0, .bool false, .int .i64 0, .bool false, .int .i64 0] 29)).alloc (.cells #[.bool false, .slice none 0 0, .slice none 0 0, .bool false, .int .i64 0, .bool false, .int .i64 0] 29)) := (((Below.refl _ _).alloc (Nat.le_refl _) _).alloc (by simp) _).alloc (by simp; omega) _
  have V : Hid (Box (((w.alloc (.cells #[.bool vl, .bool vh, .slice va1 vn1 vc1, .slice va2 vn2 vc2, .slice va3 vn3 vc3] 37)).alloc (.cells #[.bool false, .slice none 0 0, .slice none 0 0, .bool false, .int .i64 0, .bool false, .int .i64 0] 29)).alloc (.cells #[.bool false, .slice none 0 0, .slice none 0 0, .bool false, .int .i64 0, .bool false, .int .i64 0] 29)) w.heap.size 37 #[.bool vl, .bool vh, .slice va1 vn1 vc1, .slice va2 vn2 vc2, .slice va3 vn3 vc3]) := Lib.hid (((Box.new _ _ _).alloc _).alloc _)
  have X : Hid (Box (((w.alloc (.cells #[.bool vl, .bool vh, .slice va1 vn1 vc1, .slice va2 vn2 vc2, .slice va3 vn3 vc3] 37)).alloc (.cells #[.bool false, .slice none 0 0, .slice none 0 0, .bool false, .int .i64 0, .bool false, .int .i64 0] 29)).alloc (.cells #[.bool false, .slice none 0 0, .slice none 0 0, .bool false, .int .i64 0, .bool false, .int .i64 0] 29)) (w.heap.size + 1) 29 #[.bool false, .slice none 0 0, .slice none 0 0, .bool false, .int .i64 0, .bool false, .int .i64 0]) := Lib.hid (by
    have := Box.new (w.alloc (.cells #[.bool vl, .bool vh, .slice va1 vn1 vc1, .slice va2 vn2 vc2, .slice va3 vn3 vc3] 37)) 29 #[.bool false, .slice none 0 0, .slice none 0 0, .bool false, .int .i64 0, .bool false, .int .i64 0]
    simp only [World.size_alloc] at this
    exact Box.alloc this _)
  have G : Hid (Box (((w.alloc (.cells #[.bool vl, .bool vh, .slice va1 vn1 vc1, .slice va2 vn2 vc2, .slice va3 vn3 vc3] 37)).alloc (.cells #[.bool false, .slice none 0 0, .slice none 0 0, .bool false, .int .i64 0, .bool false, .int .i64 0] 29)).alloc (.cells #[.bool false, .slice none 0 0, .slice none 0 0, .bool false, .int .i64 0, .bool false, .int .i64 0] 29)) (w.heap.size + 2) 29 #[.bool false, .slice none 0 0, .slice none 0 0, .bool false, .int .i64 0, .bool false, .int .i64 0]) := Lib.hid (by
    have := Box.new ((w.alloc (.cells #[.bool vl, .bool vh, .slice va1 vn1 vc1, .slice va2 vn2 vc2, .slice va3 vn3 vc3] 37)).alloc (.cells #[.bool false, .slice none 0 0, .slice none 0 0, .bool false, .int .i64 0, .bool false, .int .i64 0] 29)) 29 #[.bool false, .slice none 0 0, .slice none 0 0, .bool false, .int .i64 0, .bool false, .int .i64 0]
    simpa using this)
  clear hr e1 e2 hn hk hrow hw ht
  go_enter Tryd.func13, Tryd.ntmps13
  go_upto_region 2 with fail
  change Code.wp _ _ _ _ (((w.alloc (.cells #[.bool vl, .bool vh, .slice va1 vn1 vc1, .slice va2 vn2 vc2, .slice va3 vn3 vc3] 37)).alloc (.cells #[.bool false, .slice none 0 0, .slice none 0 0, .bool false, .int .i64 0, .bool false, .int .i64 0] 29)).alloc (.cells #[.bool false, .slice none 0 0, .slice none 0 0, .bool false, .int .i64 0, .bool false, .int .i64 0] 29))
  generalize (((w.alloc (.cells #[.bool vl, .bool vh, .slice va1 vn1 vc1, .slice va2 vn2 vc2, .slice va3 vn3 vc3] 37)).alloc (.cells #[.bool false, .slice none 0 0, .slice none 0 0, .bool false, .int .i64 0, .bool false, .int .i64 0] 29)).alloc (.cells #[.bool false, .slice none 0 0, .slice none 0 0, .bool false, .int .i64 0, .bool false, .int .i64 0] 29)) = x0 at *
  have x4 := V.out.cell 4 rfl
  by_cases h3 : vn3 < 3
  case pos =>
    have h3i : (vn3 : Int) < 3 := by omega
    have HF : Hid (crlGet (Sx.mk kl kh khi kda ks) = none) := Lib.hid (crlGet_no (by have := HN.out; unfold crlShape; rw [decide_eq_false (show ¬ 3 ≤ (Sx.mk kl kh khi kda ks).ks.length by show ¬ 3 ≤ ks.length; omega)]; rfl))
    clear h3
    go_upto_region 3 with fail
    go_wp2_with first | (refine wpList_load_box rfl 29 _ rfl G.out (by rfl) Tryd.underlying29 rfl (by kernel_rfl) ?_) | (refine wpList_store_box (cells := #[.bool false, .slice none 0 0, .slice none 0 0, .bool false, .int .i64 0, .bool false, .int .i64 0]) rfl 29 _ _ rfl X.out (by rfl) (by rfl) rfl (by kernel_rfl) (by simp [Value.oneCell']) ?_; intro u9 X9 st9)
    have B9 := st9.below w.heap.size w (by omega) B
    exact bodyPost_ret (v := .tuple #[.agg #[.bool false, .slice none 0 0, .slice none 0 0, .bool false, .int .i64 0, .bool false, .int .i64 0], .int .i64 3]) (box_result2 (p := 2) (q := 3) rfl _ _ (by rfl) X9 Tryd.underlying29 rfl (by kernel_rfl)) rfl (.inr ⟨HF.out, rfl, B9⟩)
  case neg =>
    have h3i : ¬ (vn3 : Int) < 3 := by omega
    have h3j : 3 ≤ vn3 := by omega
    obtain ⟨k0, k1, k2, r, rfl⟩ : ∃ k0 k1 k2 r, ks = k0 :: k1 :: k2 :: r := by
      have := HN.out
      rcases ks with _ | ⟨a, _ | ⟨b, _ | ⟨c, r⟩⟩⟩
      · simp at this; omega
      · simp at this; omega
      · simp at this; omega
      · exact ⟨_, _, _, _, rfl⟩
    have R1 : Hid (Rd w (K 1) k1) := Lib.hid (HK.out 1 (by simp))
    have R2 : Hid (Rd w (K 2) k2) := Lib.hid (HK.out 2 (by simp))
    have HW1 : Hid (k1.wide (mm + 1) = false) := Lib.hid (HW.out k1 (by simp))
    have HW2 : Hid (k2.wide (mm + 1) = false) := Lib.hid (HW.out k2 (by simp))
    have HSH := Lib.hid (crlShape_eq kl kh khi kda k0 k1 k2 r)
    obtain ⟨b, o, rfl, hl1⟩ := HROW.out.range (i := 1) (by omega)
    clear hl1
    have HC1 : Hid (∀ w', Below w.heap.size w w' → w'.cell? ⟨b, o + 9, none⟩ = some (.slice (K 1).a3 (K 1).n3 (K 1).c3)) := Lib.hid (fun w' hb => by have := (HROW.out.after hb).rangeA (i := 1) (by omega) 4 _ rfl; rwa [show o + 1 * 5 + 4 = o + 9 by omega] at this)
    have HC2 : Hid (∀ w', Below w.heap.size w w' → w'.cell? ⟨b, o + 14, none⟩ = some (.slice (K 2).a3 (K 2).n3 (K 2).c3)) := Lib.hid (fun w' hb => by have := (HROW.out.after hb).rangeA (i := 2) (by omega) 4 _ rfl; rwa [show o + 2 * 5 + 4 = o + 14 by omega] at this)
    obtain ⟨_, _, _, _, hn1, hnc1, hcm1, K1, hrow1, hk1⟩ := R1.out.parts
    have HN1 := Lib.hid hn1
    have HROW1 := Lib.hid hrow1
    have HK1 := Lib.hid hk1
    unfold maxLen at hcm1
    clear hn1 hrow1 hk1
    generalize (K 1) = kv1 at *
    obtain ⟨pl, ph, pa1, pn1, pc1, pa2, pn2, pc2, pa3, pn3, pc3⟩ := kv1
    replace HN1 : Hid (pn3 = k1.ks.length) := HN1
    replace hnc1 : pn3 ≤ pc3 := hnc1
    replace hcm1 : pc3 ≤ 2 ^ 63 - 1 := hcm1
    replace HROW1 : Hid (RowAt w pa3 pn3 pc3 K1) := HROW1
    obtain ⟨_, _, _, _, hn2, hnc2, hcm2, K2, hrow2, hk2⟩ := R2.out.parts
    have HN2 := Lib.hid hn2
    have HROW2 := Lib.hid hrow2
    have HK2 := Lib.hid hk2
    unfold maxLen at hcm2
    clear hn2 hrow2 hk2
    generalize (K 2) = kv2 at *
    obtain ⟨ql, qh, qa1, qn1, qc1, qa2, qn2, qc2, qa3, qn3, qc3⟩ := kv2
    replace HN2 : Hid (qn3 = k2.ks.length) := HN2
    replace hnc2 : qn3 ≤ qc3 := hnc2
    replace hcm2 : qc3 ≤ 2 ^ 63 - 1 := hcm2
    replace HROW2 : Hid (RowAt w qa3 qn3 qc3 K2) := HROW2
    replace HC1 : Hid (∀ w', Below w.heap.size w w' → w'.cell? ⟨b, o + 9, none⟩ = some (.slice pa3 pn3 pc3)) := HC1
    replace HC2 : Hid (∀ w', Below w.heap.size w w' → w'.cell? ⟨b, o + 14, none⟩ = some (.slice qa3 qn3 qc3)) := HC2
    have c1 := HC1.out x0 B
    have c2 := HC2.out x0 B
    by_cases h1 : pn3 = 2
    case neg =>
      have hq : ((pn3 : Int) != 2) = true := by simp; omega
      have HF : Hid (crlGet (Sx.mk kl kh khi kda (k0 :: k1 :: k2 :: r)) = none) := Lib.hid (crlGet_no (by have := HN1.out; rw [HSH.out, decide_eq_false (by omega)]; rfl))
      clear h1
      go_upto_region 3 with fail
      go_wp2_with first | (refine wpList_load_box rfl 29 _ rfl G.out (by rfl) Tryd.underlying29 rfl (by kernel_rfl) ?_) | (refine wpList_store_box (cells := #[.bool false, .slice none 0 0, .slice none 0 0, .bool false, .int .i64 0, .bool false, .int .i64 0]) rfl 29 _ _ rfl X.out (by rfl) (by rfl) rfl (by kernel_rfl) (by simp [Value.oneCell']) ?_; intro u9 X9 st9)
      have B9 := st9.below w.heap.size w (by omega) B
      exact bodyPost_ret (v := .tuple #[.agg #[.bool false, .slice none 0 0, .slice none 0 0, .bool false, .int .i64 0, .bool false, .int .i64 0], .int .i64 3]) (box_result2 (p := 2) (q := 3) rfl _ _ (by rfl) X9 Tryd.underlying29 rfl (by kernel_rfl)) rfl (.inr ⟨HF.out, rfl, B9⟩)
    case pos =>
      subst h1
      by_cases h2 : qn3 = 0
      case pos =>
        subst h2
        have HF : Hid (crlGet (Sx.mk kl kh khi kda (k0 :: k1 :: k2 :: r)) = none) := Lib.hid (crlGet_no (by have := HN2.out; rw [HSH.out, decide_eq_false (show ¬ 0 < k2.ks.length by omega)]; simp))
        go_upto_region 3 with fail
        go_wp2_with first | (refine wpList_load_box rfl 29 _ rfl G.out (by rfl) Tryd.underlying29 rfl (by kernel_rfl) ?_) | (refine wpList_store_box (cells := #[.bool false, .slice none 0 0, .slice none 0 0, .bool false, .int .i64 0, .bool false, .int .i64 0]) rfl 29 _ _ rfl X.out (by rfl) (by rfl) rfl (by kernel_rfl) (by simp [Value.oneCell']) ?_; intro u9 X9 st9)
        have B9 := st9.below w.heap.size w (by omega) B
        exact bodyPost_ret (v := .tuple #[.agg #[.bool false, .slice none 0 0, .slice none 0 0, .bool false, .int .i64 0, .bool false, .int .i64 0], .int .i64 3]) (box_result2 (p := 2) (q := 3) rfl _ _ (by rfl) X9 Tryd.underlying29 rfl (by kernel_rfl)) rfl (.inr ⟨HF.out, rfl, B9⟩)
      case neg =>
        have hq : ((qn3 : Int) == 0) = false := by simp; omega
        have hq2 : 1 ≤ qn3 := by omega
        obtain ⟨my, hmy⟩ : ∃ my, my = (Sx.mk kl kh khi kda (k0 :: k1 :: k2 :: r)).may := ⟨_, rfl⟩
        have HMY := Lib.hid hmy
        have CM := Lib.hid (fun w' h1 h2 => may_any (Sx.mk kl kh khi kda (k0 :: k1 :: k2 :: r)) ⟨vl, vh, va1, vn1, vc1, va2, vn2, vc2, some ⟨b, o, none⟩, vn3, vc3⟩ w' h1 mm HW0.out h2)
        simp only [← hmy] at CM
        clear hmy h2
        go_wp2_with (refine wpList_load_boxH 37 _ rfl V.out (by rfl) Tryd.underlying37 rfl (by kernel_rfl) rfl ?_)
        refine (CM.out x0 (HRV.out.after B) (HT0.out.after B)).mono ?_
        rintro e x1 ⟨rfl, bx1⟩
        replace V := Lib.hid (V.out.after bx1)
        replace X := Lib.hid (X.out.after bx1)
        replace G := Lib.hid (G.out.after bx1)
        replace B := B.trans (bx1.mono B.size)
        clear bx1
        clear CM x4 c1 c2
        cases my with
        | false =>
          have HF : Hid (crlGet (Sx.mk kl kh khi kda (k0 :: k1 :: k2 :: r)) = none) := Lib.hid (crlGet_no (by rw [HSH.out, ← HMY.out]; simp))
          go_wp2_with first | (refine wpList_load_box rfl 29 _ rfl G.out (by rfl) Tryd.underlying29 rfl (by kernel_rfl) ?_) | (refine wpList_store_box (cells := #[.bool false, .slice none 0 0, .slice none 0 0, .bool false, .int .i64 0, .bool false, .int .i64 0]) rfl 29 _ _ rfl X.out (by rfl) (by rfl) rfl (by kernel_rfl) (by simp [Value.oneCell']) ?_; intro u9 X9 st9)
          have B9 := st9.below w.heap.size w (by omega) B
          exact bodyPost_ret (v := .tuple #[.agg #[.bool false, .slice none 0 0, .slice none 0 0, .bool false, .int .i64 0, .bool false, .int .i64 0], .int .i64 3]) (box_result2 (p := 2) (q := 3) rfl _ _ (by rfl) X9 Tryd.underlying29 rfl (by kernel_rfl)) rfl (.inr ⟨HF.out, rfl, B9⟩)
        | true =>
          have HY : Hid (crlShape (Sx.mk kl kh khi kda (k0 :: k1 :: k2 :: r)) = true) := Lib.hid (by have h1 := HN1.out; have h2 := HN2.out; rw [HSH.out, ← HMY.out, decide_eq_true (by omega), decide_eq_true (by omega)]; rfl)
          obtain ⟨c0, c1, hcc⟩ : ∃ c0 c1, k1.ks = [c0, c1] := by
            have := HN1.out
            rcases hks : k1.ks with _ | ⟨a, _ | ⟨b, _ | ⟨c, r⟩⟩⟩ <;> rw [hks] at this <;> simp at this
            exact ⟨_, _, rfl⟩
          have RC1 : Hid (Rd w (K1 1) c1) := Lib.hid (by have := HK1.out 1 (by have := HN1.out; omega); simpa [hcc] using this)
          have HWC1 : Hid (c1.wide (mm + 1 + 1) = false) := Lib.hid ((wide_no HW1.out).2.2.2.2 c1 (by rw [hcc]; simp))
          have HTRY := Lib.hid (crlTry_eq kl kh khi kda k0 k1 k2 r c0 c1 hcc)
          clear hcc HSH
          obtain ⟨b1, o1, rfl, hl1⟩ := (HROW1.out.after B).range (i := 1) (by omega)
          rw [Nat.one_mul] at hl1
          replace hl1 := Lib.hid hl1
          have x4 := V.out.cell 4 rfl
          have c1_ := HC1.out x1 B
          go_wp2_with (refine wpList_load_midW rfl 37 _ rfl b1 _ rfl _ _ hl1.out Tryd.underlying37 rfl (by kernel_rfl) ?_)
          refine (keyGet_any c1 (K1 1) x1 (RC1.out.after B) _ HWC1.out).mono ?_
          rintro e z1 hP
          obtain ⟨ka, kn, kc, er, rfl, SK, bz1⟩ := hP.out
          clear hP hl1
          have hGl := G.out.lt
          replace SK : Hid (SlI (fun b => w.heap.size + 3 ≤ b) z1 ka kn kc (keyOr c1).2) := Lib.hid (SK.mono (fun b hb => by show w.heap.size + 3 ≤ b; omega))
          replace V := Lib.hid (V.out.after bz1)
          replace X := Lib.hid (X.out.after bz1)
          replace G := Lib.hid (G.out.after bz1)
          replace B := B.trans (bz1.mono B.size)
          clear bz1
          generalize hks : keyOr c1 = kk at *
          obtain ⟨ks_, kl_⟩ := kk
          dsimp only at SK
          dsimp only
          replace hks := Lib.hid hks
          go_upto_region 5 with (refine wpList_store_part (k := 0) (cells := #[.bool ks_, .slice ka kn kc]) rfl 24 _ _ rfl [] [.bool false, .slice none 0 0] [.slice none 0 0, .bool false, .int .i64 0, .bool false, .int .i64 0] G.out (by rfl) (by rfl) (by rfl) (by rfl) (by kernel_rfl) (by simp [Value.oneCell']) ?_; intro u1 G1 st1)
          have V1 := st1.box V.out (by omega)
          have X1 := st1.box X.out (by omega)
          have SK1 := SK.out.keep (w' := u1) (fun b hb => st1.other b (by have : w.heap.size + 3 ≤ b := hb; omega))
          have B1 := st1.below w.heap.size w (by omega) B
          replace G1 : Box u1 (w.heap.size + 2) 29 #[.bool ks_, .slice ka kn kc, .slice none 0 0, .bool false, .int .i64 0, .bool false, .int .i64 0] := G1
          clear V X SK G B st1
          have V := Lib.hid V1
          have X := Lib.hid X1
          have SK := Lib.hid SK1
          have B := B1
          have G := Lib.hid G1
          clear V1 X1 SK1 B1 G1
          clear x4 c1_
          have x4 := V.out.cell 4 rfl
          have c2_ := HC2.out u1 B
          obtain ⟨b2, o2, rfl, hl2⟩ := (HROW2.out.after B).range (i := 0) (by omega)
          clear hl2
          have HLSH := Lib.hid (fun k => sumsT_short k2.ks k)
          have HLSH2 : Hid (∀ l ∈ k2.ks.tail.map (fun k => (keyOr k).2), l.length ≤ 100000) := Lib.hid (by have := HLSH.out k2.ks.length; rwa [sumsT_all _ _ (by omega)] at this)
          clear HLSH
          have HLSH := HLSH2
          clear HLSH2
          have HKL : Hid (kl_.length ≤ 64) := Lib.hid (by have := keyOr_len c1; rw [hks.out] at this; exact this)
          have HTRY2 : Hid (crlTry (Sx.mk kl kh khi kda (k0 :: k1 :: k2 :: r)) = ⟨ks_, kl_, k2.ks.tail.map (fun k => (keyOr k).2), tryW r⟩) := HTRY
          clear HTRY
          have HTRY := HTRY2
          clear HTRY2
          by_cases hz1 : qc3 = 1
          case pos =>
            obtain rfl : qn3 = 1 := by omega
            subst hz1
            go_wp2_with fail
            have SK0 := Lib.hid (SK.out.mono (ok' := okO (fun b => w.heap.size + 3 ≤ b) (.slice none 0 0)) (fun b hb => ⟨hb, fun e => by simp [Value.ownBlock] at e⟩))
            go_loopw [58] (fun i wr => ∃ (k : Nat) (ta : Option Addr) (tc : Nat) (Z : Nat → S3), k + 1 ≤ 1 ∧ i = .int .i64 k ∧ Box wr w.heap.size 37 #[.bool vl, .bool vh, .slice va1 vn1 vc1, .slice va2 vn2 vc2, .slice (some ⟨b, o, none⟩) vn3 vc3] ∧ Box wr (w.heap.size + 1) 29 #[.bool false, .slice none 0 0, .slice none 0 0, .bool false, .int .i64 0, .bool false, .int .i64 0] ∧ Box wr (w.heap.size + 2) 29 #[.bool ks_, .slice ka kn kc, .slice ta (k : Nat) tc, .bool false, .int .i64 0, .bool false, .int .i64 0] ∧ OwnG wr (w.heap.size + 3) 1 (.slice ta k tc) k (vZ Z 0 k) ∧ SlI (okO (fun b => w.heap.size + 3 ≤ b) (.slice ta k tc)) wr ka kn kc kl_ ∧ Hid (∀ i (hi : i < (sumsT k2.ks k).length), SlI (okO (fun b => w.heap.size + 3 ≤ b) (.slice ta k tc)) wr (Z i).a (Z i).n (Z i).c (sumsT k2.ks k)[i]) ∧ Below w.heap.size w wr) (fun i _ => 1 - (intOf i).toNat)
            case atStart => exact ⟨0, none, 0, fun _ => ⟨none, 0, 0⟩, hq2, rfl, V.out, X.out, G.out, OwnG.nil _ _ _, SK0.out, Lib.hid (fun i hi => by simp [sumsT] at hi), B⟩
            case round =>
              clear x4 c2_ V X G SK SK0 B
              obtain ⟨k, ta, tc, Z, hk1, rfl, V, X, G, O, SK, KD, B⟩ := hrel
              replace V := Lib.hid V
              replace X := Lib.hid X
              replace G := Lib.hid G
              replace O := Lib.hid O
              replace SK := Lib.hid SK
              by_cases hlt : k + 1 < 1
              case pos =>
                omega
              case neg =>
                obtain rfl : k = 0 := by omega
                have hlt3 : ¬ ((0 : Nat) : Int) < (1 : Int) - 1 := by omega
                have HLS : Hid (sumsT k2.ks 0 = k2.ks.tail.map (fun k => (keyOr k).2)) := Lib.hid (sumsT_all _ _ (by have := HN2.out; omega))
                have hkl := sumsT_len k2.ks 0 (by have := HN2.out; omega)
                obtain ⟨ra, rc, er, RS⟩ := O.out.rowS Z (sumsT k2.ks 0) (fun i hi => by have := vZ_get Z 0 0 i hi; simpa using this) hkl.symm (fun i hi => (KD.out i hi).1)
                cases er
                have RS2 : Hid (RowSI (fun b => w.heap.size + 3 ≤ b) wr ta 0 tc Z (sumsT k2.ks 0)) := Lib.hid ⟨RS, .inr (fun b o s e => by have := O.out.lt b (by rw [e]; rfl); show w.heap.size + 3 ≤ b; omega), fun i hi => ((KD.out i hi).mono (ok' := (fun b => w.heap.size + 3 ≤ b)) (fun _ h => h.1)).2⟩
                have SK2 := Lib.hid (SK.out.mono (ok' := (fun b => w.heap.size + 3 ≤ b)) (fun _ h => h.1))
                clear O KD SK hkl RS
                have SK := SK2
                have RS := RS2
                clear SK2 RS2
                rw [HLS.out] at RS
                clear HLS
                generalize k2.ks.tail.map (fun k => (keyOr k).2) = ls at *
                have x4 := V.out.cell 4 rfl
                go_upto_if 78 with fail
                go_cut [3] from 58 to 87 (fun s3 wx => s3 = .int .i64 0 ∧ ∃ x : W4, x = tryW r ∧ Box wx w.heap.size 37 #[.bool vl, .bool vh, .slice va1 vn1 vc1, .slice va2 vn2 vc2, .slice (some ⟨b, o, none⟩) vn3 vc3] ∧ Box wx (w.heap.size + 1) 29 #[.bool false, .slice none 0 0, .slice none 0 0, .bool false, .int .i64 0, .bool false, .int .i64 0] ∧ Box wx (w.heap.size + 2) 29 #[.bool ks_, .slice ka kn kc, .slice ta (0 : Nat) tc, .bool x.p, .int .i64 x.f, .bool x.q, .int .i64 x.t] ∧ SlI (fun b => w.heap.size + 3 ≤ b) wx ka kn kc kl_ ∧ RowSI (fun b => w.heap.size + 3 ≤ b) wx ta 0 tc Z ls ∧ Below w.heap.size w wx)
                case first =>
                  by_cases h4 : vn3 = 3
                  case pos =>
                    obtain rfl : r = [] := List.eq_nil_of_length_eq_zero (by have := HN.out; simp at this; omega)
                    have hq3 : ¬ (3 : Int) < vn3 := by omega
                    clear h4
                    go_wp2_with fail
                    go_meet
                    exact ⟨rfl, W4.nil, rfl, V.out, X.out, G.out, SK.out, RS.out, B⟩
                  case neg =>
                    obtain ⟨k3, r3, rfl⟩ : ∃ k3 r3, r = k3 :: r3 := by
                      rcases r with _ | ⟨a, r⟩
                      · have := HN.out; simp at this; omega
                      · exact ⟨_, _, rfl⟩
                    have hq3 : (3 : Int) < vn3 := by omega
                    have R3 : Hid (Rd w (K 3) k3) := Lib.hid (HK.out 3 (by simp))
                    have HW3 : Hid (k3.wide (mm + 1) = false) := Lib.hid (HW.out k3 (by simp))
                    have hl3 := Lib.hid ((HROW.out.after B).rangeA (i := 3) (by omega))
                    go_wp2_with (refine wpList_load_midW rfl 37 _ rfl b _ rfl _ _ hl3.out Tryd.underlying37 rfl (by kernel_rfl) ?_)
                    refine (winGet_any k3 (K 3) wr (R3.out.after B) _ HW3.out).mono ?_
                    rintro e z1 hP
                    obtain ⟨er3, x, hx, rfl, bz1⟩ := hP.out
                    clear hP hl3
                    replace hx := Lib.hid hx
                    replace V := Lib.hid (V.out.after bz1)
                    replace X := Lib.hid (X.out.after bz1)
                    replace G := Lib.hid (G.out.after bz1)
                    replace SK := Lib.hid (SK.out.after bz1)
                    replace RS := Lib.hid (RS.out.after bz1)
                    replace B := B.trans (bz1.mono B.size)
                    clear bz1
                    go_wp2_with (refine wpList_store_part (k := 3) (cells := #[.bool x.p, .int .i64 x.f, .bool x.q, .int .i64 x.t]) rfl 27 _ _ rfl [.bool ks_, .slice ka kn kc, .slice ta (0 : Nat) tc] [.bool false, .int .i64 0, .bool false, .int .i64 0] [] G.out (by rfl) (by rfl) (by rfl) (by rfl) (by kernel_rfl) (by simp [Value.oneCell']) ?_; intro u1 G1 st1)
                    have V1 := st1.box V.out (by omega)
                    have X1 := st1.box X.out (by omega)
                    have SK1 := SK.out.keep (w' := u1) (fun b hb => st1.other b (by have : w.heap.size + 3 ≤ b := hb; omega))
                    have RS1 := RS.out.keep (w' := u1) (fun b hb => st1.other b (by have : w.heap.size + 3 ≤ b := hb; omega))
                    have B1 := st1.below w.heap.size w (by omega) B
                    replace G1 : Box u1 (w.heap.size + 2) 29 #[.bool ks_, .slice ka kn kc, .slice ta (0 : Nat) tc, .bool x.p, .int .i64 x.f, .bool x.q, .int .i64 x.t] := G1
                    clear V X SK RS G B st1
                    go_meet
                    exact ⟨rfl, x, hx.out, V1, X1, G1, SK1, RS1, B1⟩
                case rest =>
                  clear V X G SK RS B x4
                  obtain ⟨rfl, x, hx, V, X, G, SK, RS, B⟩ := hcut
                  rw [← hx] at HTRY
                  replace V := Lib.hid V
                  replace X := Lib.hid X
                  replace G := Lib.hid G
                  replace SK := Lib.hid SK
                  replace RS := Lib.hid RS
                  clear hx
                  have hlsh : Hid (∀ l ∈ ls, l.length ≤ 100000) := HLSH
                  obtain ⟨cr, hcr⟩ : ∃ cr, cr = crlTry (Sx.mk kl kh khi kda (k0 :: k1 :: k2 :: r)) := ⟨_, rfl⟩
                  have HCG := Lib.hid (crlGet_yes HY.out)
                  rw [← hcr] at HTRY HCG
                  clear hcr
                  go_wp2_with (refine wpList_load_box rfl 29 _ rfl G.out (by rfl) Tryd.underlying29 rfl (by kernel_rfl) ?_)
                  refine (crlPut_any ks_ ka kn kc kl_ ta 0 tc Z ls x.p x.f x.q x.t wc SK.out.1 (by have := SK.out.1.1; have := HKL.out; omega) RS.out.1 hlsh.out (HT0.out.after B)).mono ?_
                  rintro e z1 hP
                  replace hP : CrlP ⟨ks_, kl_, ls, x⟩ _ _ _ := hP
                  rw [← HTRY.out] at hP
                  obtain ⟨⟨tl, th, ta1, tn1, tc1, ta2, tn2, tc2, ta3, tn3, tc3⟩, er9, rfl, rt, hk, bz1⟩ := hP.out
                  clear hP
                  have HKK := Lib.hid hk
                  clear hk
                  replace rt := Lib.hid rt
                  replace V := Lib.hid (V.out.after bz1)
                  replace X := Lib.hid (X.out.after bz1)
                  replace G := Lib.hid (G.out.after bz1)
                  replace SK := Lib.hid (SK.out.after bz1)
                  replace RS := Lib.hid (RS.out.after bz1)
                  replace B := B.trans (bz1.mono B.size)
                  clear bz1
                  go_upto_region 14 with (refine wpList_store_box (cells := #[.bool tl, .bool th, .slice ta1 tn1 tc1, .slice ta2 tn2 tc2, .slice ta3 tn3 tc3]) rfl 37 _ _ rfl (Box.new _ _ _) (by rfl) (by rfl) rfl (by kernel_rfl) (by simp [Value.oneCell']) ?_; intro u9 X9 st9)
                  have bs2 : Below z1.heap.size z1 u9 := st9.below z1.heap.size z1 (Nat.le_refl _) ((Below.refl _ _).alloc (Nat.le_refl _) _)
                  have Y9 := Lib.hid X9
                  replace V := Lib.hid (V.out.after bs2)
                  replace X := Lib.hid (X.out.after bs2)
                  replace G := Lib.hid (G.out.after bs2)
                  replace SK := Lib.hid (SK.out.after bs2)
                  replace RS := Lib.hid (RS.out.after bs2)
                  replace rt := Lib.hid (rt.out.after bs2)
                  replace B := B.trans (bs2.mono B.size)
                  clear bs2 st9 X9
                  generalize u9 = x2 at *
                  rcases HKK.out with ⟨rfl, hk⟩ | ⟨rfl, hk⟩
                  · skip
                    replace hk := Lib.hid hk
                    clear HKK
                    rw [hk.out] at rt
                    replace rt : Hid (RdI _ _ _ cr.tree) := rt
                    have HS := Lib.hid (fun w' h1 h2 => same_any (Sx.mk kl kh khi kda (k0 :: k1 :: k2 :: r)) cr.tree ⟨vl, vh, va1, vn1, vc1, va2, vn2, vc2, some ⟨b, o, none⟩, vn3, vc3⟩ ⟨tl, th, ta1, tn1, tc1, ta2, tn2, tc2, ta3, tn3, tc3⟩ w' h1 h2)
                    obtain ⟨r9, hr⟩ : ∃ r8, r8 = (Sx.mk kl kh khi kda (k0 :: k1 :: k2 :: r)).same cr.tree := ⟨_, rfl⟩
                    simp only [← hr] at HS
                    have HRR := Lib.hid hr
                    clear hr
                    go_wp2_with first | (refine wpList_load_box rfl 37 _ rfl V.out (by rfl) Tryd.underlying37 rfl (by kernel_rfl) ?_) | (refine wpList_load_box rfl 37 _ rfl Y9.out (by rfl) Tryd.underlying37 rfl (by kernel_rfl) ?_)
                    refine (HS.out x2 (HRV.out.after B) (rt.out.mono (fun _ _ => trivial))).mono ?_
                    rintro e x3 ⟨rfl, bx3⟩
                    replace V := Lib.hid (V.out.after bx3)
                    replace X := Lib.hid (X.out.after bx3)
                    replace G := Lib.hid (G.out.after bx3)
                    replace SK := Lib.hid (SK.out.after bx3)
                    replace RS := Lib.hid (RS.out.after bx3)
                    replace rt := Lib.hid (rt.out.after bx3)
                    replace Y9 := Lib.hid (Y9.out.after bx3)
                    replace B := B.trans (bx3.mono B.size)
                    clear bx3
                    clear HS rt Y9
                    cases r9 with
                    | false =>
                      have HF : Hid (crlGet (Sx.mk kl kh khi kda (k0 :: k1 :: k2 :: r)) = none) := Lib.hid (by rw [HCG.out]; rw [hk.out, ← HRR.out]; rfl)
                      go_wp2_with (refine wpList_store_box (cells := #[.bool false, .slice none 0 0, .slice none 0 0, .bool false, .int .i64 0, .bool false, .int .i64 0]) rfl 29 _ _ rfl X.out (by rfl) (by rfl) rfl (by kernel_rfl) (by simp [Value.oneCell']) ?_; intro u9 X9 st9)
                      have B9 := st9.below w.heap.size w (by omega) B
                      exact bodyPost_ret (v := .tuple #[.agg #[.bool false, .slice none 0 0, .slice none 0 0, .bool false, .int .i64 0, .bool false, .int .i64 0], .int .i64 3]) (box_result2 (p := 2) (q := 3) rfl _ _ (by rfl) X9 Tryd.underlying29 rfl (by kernel_rfl)) rfl (.inr ⟨HF.out, rfl, B9⟩)
                    | true =>
                      have HF : Hid (crlGet (Sx.mk kl kh khi kda (k0 :: k1 :: k2 :: r)) = some cr) := Lib.hid (by rw [HCG.out, hk.out, ← HRR.out]; rfl)
                      go_wp2_with first | (refine wpList_load_box rfl 29 _ rfl G.out (by rfl) Tryd.underlying29 rfl (by kernel_rfl) ?_) | (refine wpList_store_box (cells := #[.bool ks_, .slice ka kn kc, .slice ta (0 : Nat) tc, .bool x.p, .int .i64 x.f, .bool x.q, .int .i64 x.t]) rfl 29 _ _ rfl X.out (by rfl) (by rfl) rfl (by kernel_rfl) (by simp [Value.oneCell']) ?_; intro u9 X9 st9)
                      have B9 := st9.below w.heap.size w (by omega) B
                      have SK9 := SK.out.keep (w' := u9) (fun b hb => st9.other b (by have : w.heap.size + 3 ≤ b := hb; omega))
                      have RS9 := RS.out.keep (w' := u9) (fun b hb => st9.other b (by have : w.heap.size + 3 ≤ b := hb; omega))
                      exact bodyPost_ret (v := .tuple #[.agg #[.bool ks_, .slice ka kn kc, .slice ta (0 : Nat) tc, .bool x.p, .int .i64 x.f, .bool x.q, .int .i64 x.t], .int .i64 0]) (box_result2 (p := 2) (q := 3) rfl _ _ (by rfl) X9 Tryd.underlying29 rfl (by kernel_rfl)) rfl (.inl ⟨cr, HF.out, ka, kn, kc, ta, 0, tc, Z, by rw [HTRY.out], by rw [HTRY.out]; exact SK9.1, by rw [HTRY.out]; exact RS9.1, B9⟩)
                  · skip
                    replace hk := Lib.hid hk
                    clear HKK rt
                    have HF : Hid (crlGet (Sx.mk kl kh khi kda (k0 :: k1 :: k2 :: r)) = none) := Lib.hid (by rw [HCG.out]; rw [hk.out]; rfl)
                    go_wp2_with (refine wpList_store_box (cells := #[.bool false, .slice none 0 0, .slice none 0 0, .bool false, .int .i64 0, .bool false, .int .i64 0]) rfl 29 _ _ rfl X.out (by rfl) (by rfl) rfl (by kernel_rfl) (by simp [Value.oneCell']) ?_; intro u9 X9 st9)
                    have B9 := st9.below w.heap.size w (by omega) B
                    exact bodyPost_ret (v := .tuple #[.agg #[.bool false, .slice none 0 0, .slice none 0 0, .bool false, .int .i64 0, .bool false, .int .i64 0], .int .i64 3]) (box_result2 (p := 2) (q := 3) rfl _ _ (by rfl) X9 Tryd.underlying29 rfl (by kernel_rfl)) rfl (.inr ⟨HF.out, rfl, B9⟩)
          case neg =>
            have hz2 : (1 : Int) < qc3 := by omega
            have hz3 : (1 : Int) ≤ qn3 := by omega
            go_wp2_with fail
            have SK0 := Lib.hid (SK.out.mono (ok' := okO (fun b => w.heap.size + 3 ≤ b) (.slice none 0 0)) (fun b hb => ⟨hb, fun e => by simp [Value.ownBlock] at e⟩))
            go_loopw [58] (fun i wr => ∃ (k : Nat) (ta : Option Addr) (tc : Nat) (Z : Nat → S3), k + 1 ≤ qn3 ∧ i = .int .i64 k ∧ Box wr w.heap.size 37 #[.bool vl, .bool vh, .slice va1 vn1 vc1, .slice va2 vn2 vc2, .slice (some ⟨b, o, none⟩) vn3 vc3] ∧ Box wr (w.heap.size + 1) 29 #[.bool false, .slice none 0 0, .slice none 0 0, .bool false, .int .i64 0, .bool false, .int .i64 0] ∧ Box wr (w.heap.size + 2) 29 #[.bool ks_, .slice ka kn kc, .slice ta (k : Nat) tc, .bool false, .int .i64 0, .bool false, .int .i64 0] ∧ OwnG wr (w.heap.size + 3) 1 (.slice ta k tc) k (vZ Z 0 k) ∧ SlI (okO (fun b => w.heap.size + 3 ≤ b) (.slice ta k tc)) wr ka kn kc kl_ ∧ Hid (∀ i (hi : i < (sumsT k2.ks k).length), SlI (okO (fun b => w.heap.size + 3 ≤ b) (.slice ta k tc)) wr (Z i).a (Z i).n (Z i).c (sumsT k2.ks k)[i]) ∧ Below w.heap.size w wr) (fun i _ => qn3 - (intOf i).toNat)
            case atStart => exact ⟨0, none, 0, fun _ => ⟨none, 0, 0⟩, hq2, rfl, V.out, X.out, G.out, OwnG.nil _ _ _, SK0.out, Lib.hid (fun i hi => by simp [sumsT] at hi), B⟩
            case round =>
              clear x4 c2_ V X G SK SK0 B
              obtain ⟨k, ta, tc, Z, hk1, rfl, V, X, G, O, SK, KD, B⟩ := hrel
              replace V := Lib.hid V
              replace X := Lib.hid X
              replace G := Lib.hid G
              replace O := Lib.hid O
              replace SK := Lib.hid SK
              by_cases hlt : k + 1 < qn3
              case pos =>
                have hlt2 : (k : Int) < (qn3 : Int) - 1 := by omega
                have hkl : k + 1 < k2.ks.length := by have := HN2.out; omega
                have HWK : Hid ((k2.ks[k + 1]'hkl).wide (mm + 1 + 1) = false) := Lib.hid ((wide_no HW2.out).2.2.2.2 _ (List.getElem_mem hkl))
                have HTO := Lib.hid (sumsT_snoc k2.ks k hkl)
                have HRK := Lib.hid (HK2.out (k + 1) hkl)
                have hld := (HROW2.out.after B).rangeA (i := k + 1) (by omega)
                rw [show o2 + (k + 1) * 5 = o2 + 5 + k * 5 by omega] at hld
                replace hld := Lib.hid hld
                generalize (k2.ks[k + 1]'hkl) = kid at *
                generalize (K2 (k + 1)) = kv at *
                obtain ⟨ul, uh, ua1, un1, uc1, ua2, un2, uc2, ua3, un3, uc3⟩ := kv
                have hXl := X.out.lt
                have hGl := G.out.lt
                have hOl := Lib.hid O.out.lt
                have hq7 : qn3 ≤ 700 := by have := (wide_no HW2.out).2.1; have := HN2.out; omega
                go_upto_region 8 with first | (refine wpList_load_midW rfl 37 _ rfl b2 _ rfl _ _ hld.out Tryd.underlying37 rfl (by kernel_rfl) ?_) | (refine wpList_store_box (cells := #[.bool ul, .bool uh, .slice ua1 un1 uc1, .slice ua2 un2 uc2, .slice ua3 un3 uc3]) rfl 37 _ _ rfl (Box.new _ _ _) (by rfl) (by rfl) rfl (by kernel_rfl) (by simp [Value.oneCell']) ?_; intro u9 X9 st9)
                have bs2 : Below wr.heap.size wr u9 := st9.below wr.heap.size wr (Nat.le_refl _) ((Below.refl _ _).alloc (Nat.le_refl _) _)
                have Y6 := Lib.hid X9
                replace V := Lib.hid (V.out.after bs2)
                replace X := Lib.hid (X.out.after bs2)
                replace G := Lib.hid (G.out.after bs2)
                replace O := Lib.hid (O.out.after bs2)
                replace SK := Lib.hid (SK.out.after bs2)
                replace KD := Lib.hid (fun i hi => (KD.out i hi).after bs2)
                replace B := B.trans (bs2.mono B.size)
                clear bs2 st9 X9
                generalize u9 = x2 at *
                clear hld
                have hGl2 := G.out.lt
                have hOl2 := Lib.hid O.out.lt
                go_wp2_with (refine wpList_load_box rfl 37 _ rfl Y6.out (by rfl) Tryd.underlying37 rfl (by kernel_rfl) ?_)
                refine (keyGet_any kid ⟨ul, uh, ua1, un1, uc1, ua2, un2, uc2, ua3, un3, uc3⟩ x2 (HRK.out.after B) _ HWK.out).mono ?_
                rintro e z1 hP
                obtain ⟨na, nn, nc, er2, rfl, SN, bz1⟩ := hP.out
                clear hP
                replace SN : Hid (SlI (okO (fun b => w.heap.size + 3 ≤ b) (.slice ta k tc)) z1 na nn nc (keyOr kid).2) := Lib.hid (SN.mono (fun b hb => ⟨by show w.heap.size + 3 ≤ b; omega, fun e => by have := hOl2.out b e; omega⟩))
                clear hOl hOl2
                replace V := Lib.hid (V.out.after bz1)
                replace X := Lib.hid (X.out.after bz1)
                replace G := Lib.hid (G.out.after bz1)
                replace O := Lib.hid (O.out.after bz1)
                replace SK := Lib.hid (SK.out.after bz1)
                replace Y6 := Lib.hid (Y6.out.after bz1)
                replace KD := Lib.hid (fun i hi => (KD.out i hi).after bz1)
                replace B := B.trans (bz1.mono B.size)
                clear bz1
                generalize (keyOr kid).1 = qs_ at *
                generalize (keyOr kid).2 = ql_ at *
                dsimp only
                go_upto_region 9 with (refine wpList_store_box (cells := #[.bool qs_, .slice na nn nc]) rfl 24 _ _ rfl (Box.new _ _ _) (by rfl) (by rfl) rfl (by kernel_rfl) (by simp [Value.oneCell']) ?_; intro u9 X9 st9)
                have bs3 : Below z1.heap.size z1 u9 := st9.below z1.heap.size z1 (Nat.le_refl _) ((Below.refl _ _).alloc (Nat.le_refl _) _)
                have Y7 := Lib.hid X9
                replace V := Lib.hid (V.out.after bs3)
                replace X := Lib.hid (X.out.after bs3)
                replace G := Lib.hid (G.out.after bs3)
                replace O := Lib.hid (O.out.after bs3)
                replace SK := Lib.hid (SK.out.after bs3)
                replace Y6 := Lib.hid (Y6.out.after bs3)
                replace SN := Lib.hid (SN.out.after bs3)
                replace KD := Lib.hid (fun i hi => (KD.out i hi).after bs3)
                replace B := B.trans (bs3.mono B.size)
                clear bs3 st9 X9
                generalize u9 = x3 at *
                have g2 := G.out.cell 2 rfl
                have y71 := Y7.out.cell 1 rfl
                have SR := Lib.hid (srcZ x3 ⟨na, nn, nc⟩)
                have Z1 := Lib.hid (Box.new x3 22 #[.slice na nn nc])
                have ba4 : Below x3.heap.size x3 (x3.alloc (.cells #[.slice na nn nc] 22)) := (Below.refl _ _).alloc (Nat.le_refl _) _
                replace V := Lib.hid (V.out.after ba4)
                replace X := Lib.hid (X.out.after ba4)
                replace G := Lib.hid (G.out.after ba4)
                replace O := Lib.hid (O.out.after ba4)
                replace SK := Lib.hid (SK.out.after ba4)
                replace Y6 := Lib.hid (Y6.out.after ba4)
                replace SN := Lib.hid (SN.out.after ba4)
                replace Y7 := Lib.hid (Y7.out.after ba4)
                replace KD := Lib.hid (fun i hi => (KD.out i hi).after ba4)
                replace B := B.trans (ba4.mono B.size)
                clear ba4
                clear Z1
                have OL := Lib.hid O.out.lt
                have hGl3 := G.out.lt
                have hXl3 := X.out.lt
                go_upto_region 10 with (refine wpList_append_Z rfl _ _ rfl rfl O.out rfl SR.out (by omega) (by simp; simp at hGl3; omega) ?_; intro v2 w2 ho2 hg2 hw2; rw [vZ_add] at ho2; obtain ⟨ta2, tc2, rfl⟩ := ho2.shape; have Y3 := Box.grown G.out hg2 (fun b hb e => by have := OL.out b hb; omega); have d2 := Y3.cell 2 rfl; have f2 := Y3.frozen 2)
                have hney : ∀ b, (Value.slice ta2 (k + 1) tc2).ownBlock = some b → w.heap.size + 3 ≤ b := fun b hb => (ho2.lt b hb).1
                have B8 : Below w.heap.size w (w2.setCell ⟨w.heap.size + 2, 2, none⟩ (.slice ta2 (k + 1) tc2)) := (B.grown hg2 B.size (fun k hk => by have := OL.out k hk; omega)).setCell (p := ⟨w.heap.size + 2, 2, none⟩) (by show w.heap.size ≤ w.heap.size + 2; omega) _
                have G8 : Box (w2.setCell ⟨w.heap.size + 2, 2, none⟩ (.slice ta2 (k + 1) tc2)) (w.heap.size + 2) 29 #[.bool ks_, .slice ka kn kc, .slice ta2 (k + 1 : Nat) tc2, .bool false, .int .i64 0, .bool false, .int .i64 0] := Y3.set 2 _
                have V8 : Box (w2.setCell ⟨w.heap.size + 2, 2, none⟩ (.slice ta2 (k + 1) tc2)) w.heap.size 37 #[.bool vl, .bool vh, .slice va1 vn1 vc1, .slice va2 vn2 vc2, .slice (some ⟨b, o, none⟩) vn3 vc3] := Box.far (Box.grown V.out hg2 (fun k hk => by have := OL.out k hk; omega)) ⟨w.heap.size + 2, 2, none⟩ _ (by show w.heap.size ≠ w.heap.size + 2; omega)
                have X8 : Box (w2.setCell ⟨w.heap.size + 2, 2, none⟩ (.slice ta2 (k + 1) tc2)) (w.heap.size + 1) 29 #[.bool false, .slice none 0 0, .slice none 0 0, .bool false, .int .i64 0, .bool false, .int .i64 0] := Box.far (Box.grown X.out hg2 (fun k hk => by have := OL.out k hk; omega)) ⟨w.heap.size + 2, 2, none⟩ _ (by show w.heap.size + 1 ≠ w.heap.size + 2; omega)
                have O8 : OwnG (w2.setCell ⟨w.heap.size + 2, 2, none⟩ (.slice ta2 (k + 1) tc2)) (w.heap.size + 3) 1 (.slice ta2 (k + 1) tc2) (k + 1) (vZ (fun i => if i = k then ⟨na, nn, nc⟩ else Z i) 0 (k + 1)) := ho2.keep (by simp) (fun b hb => heap_setCell_other _ _ _ _ (by have := hney b hb; show b ≠ w.heap.size + 2; omega))
                have SK8 : SlI (okO (fun b => w.heap.size + 3 ≤ b) (.slice ta2 (k + 1) tc2)) (w2.setCell ⟨w.heap.size + 2, 2, none⟩ (.slice ta2 (k + 1) tc2)) ka kn kc kl_ := (SK.out.grew hg2 hw2).keep (fun b hb => heap_setCell_other _ _ _ _ (by have : w.heap.size + 3 ≤ b := hb.1; show b ≠ w.heap.size + 2; omega))
                have KD8 : Hid (∀ i (hi : i < (sumsT k2.ks (k + 1)).length), SlI (okO (fun b => w.heap.size + 3 ≤ b) (.slice ta2 (k + 1) tc2)) (w2.setCell ⟨w.heap.size + 2, 2, none⟩ (.slice ta2 (k + 1) tc2)) (if i = k then (⟨na, nn, nc⟩ : S3) else Z i).a (if i = k then (⟨na, nn, nc⟩ : S3) else Z i).n (if i = k then (⟨na, nn, nc⟩ : S3) else Z i).c (sumsT k2.ks (k + 1))[i]) := Lib.hid (by
                  rw [HTO.out]
                  intro i hi
                  exact (rowsZ_more (z := ⟨na, nn, nc⟩) (sumsT_len k2.ks k (by omega)).symm KD.out SN.out hg2 hw2 i hi).keep (fun b hb => heap_setCell_other _ _ _ _ (by have : w.heap.size + 3 ≤ b := hb.1; show b ≠ w.heap.size + 2; omega)))
                clear Y3 d2 f2 ho2 hg2 hw2 hney V X G O SK KD SN SR OL B Y6 Y7 g2 y71
                generalize (w2.setCell ⟨w.heap.size + 2, 2, none⟩ (.slice ta2 (k + 1) tc2)) = u8 at *
                go_wp2_with fail
                go_roundw
                case rel => exact ⟨k + 1, ta2, tc2, _, by omega, by go_num, V8, X8, G8, O8, SK8, KD8, B8⟩
                case measure => simp [intOf]; omega
              case neg =>
                have hlt3 : ¬ (k : Int) < (qn3 : Int) - 1 := by omega
                have HLS : Hid (sumsT k2.ks k = k2.ks.tail.map (fun k => (keyOr k).2)) := Lib.hid (sumsT_all _ _ (by have := HN2.out; omega))
                have hkl := sumsT_len k2.ks k (by have := HN2.out; omega)
                obtain ⟨ra, rc, er, RS⟩ := O.out.rowS Z (sumsT k2.ks k) (fun i hi => by have := vZ_get Z 0 k i hi; simpa using this) hkl.symm (fun i hi => (KD.out i hi).1)
                cases er
                have RS2 : Hid (RowSI (fun b => w.heap.size + 3 ≤ b) wr ta k tc Z (sumsT k2.ks k)) := Lib.hid ⟨RS, .inr (fun b o s e => by have := O.out.lt b (by rw [e]; rfl); show w.heap.size + 3 ≤ b; omega), fun i hi => ((KD.out i hi).mono (ok' := (fun b => w.heap.size + 3 ≤ b)) (fun _ h => h.1)).2⟩
                have SK2 := Lib.hid (SK.out.mono (ok' := (fun b => w.heap.size + 3 ≤ b)) (fun _ h => h.1))
                clear O KD SK hkl RS
                have SK := SK2
                have RS := RS2
                clear SK2 RS2
                rw [HLS.out] at RS
                clear HLS
                generalize k2.ks.tail.map (fun k => (keyOr k).2) = ls at *
                have x4 := V.out.cell 4 rfl
                go_upto_if 78 with fail
                go_cut [3] from 58 to 87 (fun s3 wx => s3 = .int .i64 0 ∧ ∃ x : W4, x = tryW r ∧ Box wx w.heap.size 37 #[.bool vl, .bool vh, .slice va1 vn1 vc1, .slice va2 vn2 vc2, .slice (some ⟨b, o, none⟩) vn3 vc3] ∧ Box wx (w.heap.size + 1) 29 #[.bool false, .slice none 0 0, .slice none 0 0, .bool false, .int .i64 0, .bool false, .int .i64 0] ∧ Box wx (w.heap.size + 2) 29 #[.bool ks_, .slice ka kn kc, .slice ta (k : Nat) tc, .bool x.p, .int .i64 x.f, .bool x.q, .int .i64 x.t] ∧ SlI (fun b => w.heap.size + 3 ≤ b) wx ka kn kc kl_ ∧ RowSI (fun b => w.heap.size + 3 ≤ b) wx ta k tc Z ls ∧ Below w.heap.size w wx)
                case first =>
                  by_cases h4 : vn3 = 3
                  case pos =>
                    obtain rfl : r = [] := List.eq_nil_of_length_eq_zero (by have := HN.out; simp at this; omega)
                    have hq3 : ¬ (3 : Int) < vn3 := by omega
                    clear h4
                    go_wp2_with fail
                    go_meet
                    exact ⟨rfl, W4.nil, rfl, V.out, X.out, G.out, SK.out, RS.out, B⟩
                  case neg =>
                    obtain ⟨k3, r3, rfl⟩ : ∃ k3 r3, r = k3 :: r3 := by
                      rcases r with _ | ⟨a, r⟩
                      · have := HN.out; simp at this; omega
                      · exact ⟨_, _, rfl⟩
                    have hq3 : (3 : Int) < vn3 := by omega
                    have R3 : Hid (Rd w (K 3) k3) := Lib.hid (HK.out 3 (by simp))
                    have HW3 : Hid (k3.wide (mm + 1) = false) := Lib.hid (HW.out k3 (by simp))
                    have hl3 := Lib.hid ((HROW.out.after B).rangeA (i := 3) (by omega))
                    go_wp2_with (refine wpList_load_midW rfl 37 _ rfl b _ rfl _ _ hl3.out Tryd.underlying37 rfl (by kernel_rfl) ?_)
                    refine (winGet_any k3 (K 3) wr (R3.out.after B) _ HW3.out).mono ?_
                    rintro e z1 hP
                    obtain ⟨er3, x, hx, rfl, bz1⟩ := hP.out
                    clear hP hl3
                    replace hx := Lib.hid hx
                    replace V := Lib.hid (V.out.after bz1)
                    replace X := Lib.hid (X.out.after bz1)
                    replace G := Lib.hid (G.out.after bz1)
                    replace SK := Lib.hid (SK.out.after bz1)
                    replace RS := Lib.hid (RS.out.after bz1)
                    replace B := B.trans (bz1.mono B.size)
                    clear bz1
                    go_wp2_with (refine wpList_store_part (k := 3) (cells := #[.bool x.p, .int .i64 x.f, .bool x.q, .int .i64 x.t]) rfl 27 _ _ rfl [.bool ks_, .slice ka kn kc, .slice ta (k : Nat) tc] [.bool false, .int .i64 0, .bool false, .int .i64 0] [] G.out (by rfl) (by rfl) (by rfl) (by rfl) (by kernel_rfl) (by simp [Value.oneCell']) ?_; intro u1 G1 st1)
                    have V1 := st1.box V.out (by omega)
                    have X1 := st1.box X.out (by omega)
                    have SK1 := SK.out.keep (w' := u1) (fun b hb => st1.other b (by have : w.heap.size + 3 ≤ b := hb; omega))
                    have RS1 := RS.out.keep (w' := u1) (fun b hb => st1.other b (by have : w.heap.size + 3 ≤ b := hb; omega))
                    have B1 := st1.below w.heap.size w (by omega) B
                    replace G1 : Box u1 (w.heap.size + 2) 29 #[.bool ks_, .slice ka kn kc, .slice ta (k : Nat) tc, .bool x.p, .int .i64 x.f, .bool x.q, .int .i64 x.t] := G1
                    clear V X SK RS G B st1
                    go_meet
                    exact ⟨rfl, x, hx.out, V1, X1, G1, SK1, RS1, B1⟩
                case rest =>
                  clear V X G SK RS B x4
                  obtain ⟨rfl, x, hx, V, X, G, SK, RS, B⟩ := hcut
                  rw [← hx] at HTRY
                  replace V := Lib.hid V
                  replace X := Lib.hid X
                  replace G := Lib.hid G
                  replace SK := Lib.hid SK
                  replace RS := Lib.hid RS
                  clear hx
                  have hlsh : Hid (∀ l ∈ ls, l.length ≤ 100000) := HLSH
                  obtain ⟨cr, hcr⟩ : ∃ cr, cr = crlTry (Sx.mk kl kh khi kda (k0 :: k1 :: k2 :: r)) := ⟨_, rfl⟩
                  have HCG := Lib.hid (crlGet_yes HY.out)
                  rw [← hcr] at HTRY HCG
                  clear hcr
                  go_wp2_with (refine wpList_load_box rfl 29 _ rfl G.out (by rfl) Tryd.underlying29 rfl (by kernel_rfl) ?_)
                  refine (crlPut_any ks_ ka kn kc kl_ ta k tc Z ls x.p x.f x.q x.t wc SK.out.1 (by have := SK.out.1.1; have := HKL.out; omega) RS.out.1 hlsh.out (HT0.out.after B)).mono ?_
                  rintro e z1 hP
                  replace hP : CrlP ⟨ks_, kl_, ls, x⟩ _ _ _ := hP
                  rw [← HTRY.out] at hP
                  obtain ⟨⟨tl, th, ta1, tn1, tc1, ta2, tn2, tc2, ta3, tn3, tc3⟩, er9, rfl, rt, hk, bz1⟩ := hP.out
                  clear hP
                  have HKK := Lib.hid hk
                  clear hk
                  replace rt := Lib.hid rt
                  replace V := Lib.hid (V.out.after bz1)
                  replace X := Lib.hid (X.out.after bz1)
                  replace G := Lib.hid (G.out.after bz1)
                  replace SK := Lib.hid (SK.out.after bz1)
                  replace RS := Lib.hid (RS.out.after bz1)
                  replace B := B.trans (bz1.mono B.size)
                  clear bz1
                  go_upto_region 14 with (refine wpList_store_box (cells := #[.bool tl, .bool th, .slice ta1 tn1 tc1, .slice ta2 tn2 tc2, .slice ta3 tn3 tc3]) rfl 37 _ _ rfl (Box.new _ _ _) (by rfl) (by rfl) rfl (by kernel_rfl) (by simp [Value.oneCell']) ?_; intro u9 X9 st9)
                  have bs2 : Below z1.heap.size z1 u9 := st9.below z1.heap.size z1 (Nat.le_refl _) ((Below.refl _ _).alloc (Nat.le_refl _) _)
                  have Y9 := Lib.hid X9
                  replace V := Lib.hid (V.out.after bs2)
                  replace X := Lib.hid (X.out.after bs2)
                  replace G := Lib.hid (G.out.after bs2)
                  replace SK := Lib.hid (SK.out.after bs2)
                  replace RS := Lib.hid (RS.out.after bs2)
                  replace rt := Lib.hid (rt.out.after bs2)
                  replace B := B.trans (bs2.mono B.size)
                  clear bs2 st9 X9
                  generalize u9 = x2 at *
                  rcases HKK.out with ⟨rfl, hk⟩ | ⟨rfl, hk⟩
                  · skip
                    replace hk := Lib.hid hk
                    clear HKK
                    rw [hk.out] at rt
                    replace rt : Hid (RdI _ _ _ cr.tree) := rt
                    have HS := Lib.hid (fun w' h1 h2 => same_any (Sx.mk kl kh khi kda (k0 :: k1 :: k2 :: r)) cr.tree ⟨vl, vh, va1, vn1, vc1, va2, vn2, vc2, some ⟨b, o, none⟩, vn3, vc3⟩ ⟨tl, th, ta1, tn1, tc1, ta2, tn2, tc2, ta3, tn3, tc3⟩ w' h1 h2)
                    obtain ⟨r9, hr⟩ : ∃ r8, r8 = (Sx.mk kl kh khi kda (k0 :: k1 :: k2 :: r)).same cr.tree := ⟨_, rfl⟩
                    simp only [← hr] at HS
                    have HRR := Lib.hid hr
                    clear hr
                    go_wp2_with first | (refine wpList_load_box rfl 37 _ rfl V.out (by rfl) Tryd.underlying37 rfl (by kernel_rfl) ?_) | (refine wpList_load_box rfl 37 _ rfl Y9.out (by rfl) Tryd.underlying37 rfl (by kernel_rfl) ?_)
                    refine (HS.out x2 (HRV.out.after B) (rt.out.mono (fun _ _ => trivial))).mono ?_
                    rintro e x3 ⟨rfl, bx3⟩
                    replace V := Lib.hid (V.out.after bx3)
                    replace X := Lib.hid (X.out.after bx3)
                    replace G := Lib.hid (G.out.after bx3)
                    replace SK := Lib.hid (SK.out.after bx3)
                    replace RS := Lib.hid (RS.out.after bx3)
                    replace rt := Lib.hid (rt.out.after bx3)
                    replace Y9 := Lib.hid (Y9.out.after bx3)
                    replace B := B.trans (bx3.mono B.size)
                    clear bx3
                    clear HS rt Y9
                    cases r9 with
                    | false =>
                      have HF : Hid (crlGet (Sx.mk kl kh khi kda (k0 :: k1 :: k2 :: r)) = none) := Lib.hid (by rw [HCG.out]; rw [hk.out, ← HRR.out]; rfl)
                      go_wp2_with (refine wpList_store_box (cells := #[.bool false, .slice none 0 0, .slice none 0 0, .bool false, .int .i64 0, .bool false, .int .i64 0]) rfl 29 _ _ rfl X.out (by rfl) (by rfl) rfl (by kernel_rfl) (by simp [Value.oneCell']) ?_; intro u9 X9 st9)
                      have B9 := st9.below w.heap.size w (by omega) B
                      exact bodyPost_ret (v := .tuple #[.agg #[.bool false, .slice none 0 0, .slice none 0 0, .bool false, .int .i64 0, .bool false, .int .i64 0], .int .i64 3]) (box_result2 (p := 2) (q := 3) rfl _ _ (by rfl) X9 Tryd.underlying29 rfl (by kernel_rfl)) rfl (.inr ⟨HF.out, rfl, B9⟩)
                    | true =>
                      have HF : Hid (crlGet (Sx.mk kl kh khi kda (k0 :: k1 :: k2 :: r)) = some cr) := Lib.hid (by rw [HCG.out, hk.out, ← HRR.out]; rfl)
                      go_wp2_with first | (refine wpList_load_box rfl 29 _ rfl G.out (by rfl) Tryd.underlying29 rfl (by kernel_rfl) ?_) | (refine wpList_store_box (cells := #[.bool ks_, .slice ka kn kc, .slice ta (k : Nat) tc, .bool x.p, .int .i64 x.f, .bool x.q, .int .i64 x.t]) rfl 29 _ _ rfl X.out (by rfl) (by rfl) rfl (by kernel_rfl) (by simp [Value.oneCell']) ?_; intro u9 X9 st9)
                      have B9 := st9.below w.heap.size w (by omega) B
                      have SK9 := SK.out.keep (w' := u9) (fun b hb => st9.other b (by have : w.heap.size + 3 ≤ b := hb; omega))
                      have RS9 := RS.out.keep (w' := u9) (fun b hb => st9.other b (by have : w.heap.size + 3 ≤ b := hb; omega))
                      exact bodyPost_ret (v := .tuple #[.agg #[.bool ks_, .slice ka kn kc, .slice ta (k : Nat) tc, .bool x.p, .int .i64 x.f, .bool x.q, .int .i64 x.t], .int .i64 0]) (box_result2 (p := 2) (q := 3) rfl _ _ (by rfl) X9 Tryd.underlying29 rfl (by kernel_rfl)) rfl (.inl ⟨cr, HF.out, ka, kn, kc, ta, k, tc, Z, by rw [HTRY.out], by rw [HTRY.out]; exact SK9.1, by rw [HTRY.out]; exact RS9.1, B9⟩)
                  · skip
                    replace hk := Lib.hid hk
                    clear HKK rt
                    have HF : Hid (crlGet (Sx.mk kl kh khi kda (k0 :: k1 :: k2 :: r)) = none) := Lib.hid (by rw [HCG.out]; rw [hk.out]; rfl)
                    go_wp2_with (refine wpList_store_box (cells := #[.bool false, .slice none 0 0, .slice none 0 0, .bool false, .int .i64 0, .bool false, .int .i64 0]) rfl 29 _ _ rfl X.out (by rfl) (by rfl) rfl (by kernel_rfl) (by simp [Value.oneCell']) ?_; intro u9 X9 st9)
                    have B9 := st9.below w.heap.size w (by omega) B
                    exact bodyPost_ret (v := .tuple #[.agg #[.bool false, .slice none 0 0, .slice none 0 0, .bool false, .int .i64 0, .bool false, .int .i64 0], .int .i64 3]) (box_result2 (p := 2) (q := 3) rfl _ _ (by rfl) X9 Tryd.underlying29 rfl (by kernel_rfl)) rfl (.inr ⟨HF.out, rfl, B9⟩)

end Go.Proofs.YticjhogofoffmaaDoor

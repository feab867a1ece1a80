/- The program's reader: atom: what it computes. The reader's open lists, in memory: plain. The reader's open lists: what the stores of push and add leave. The program's reader: next: what it computes, by cases. The program's reader: next: lists begin and end. -/
import Derived.Test.YtkbblhioncecmaaGreatDoorNzG4
namespace Go.Proofs.YtkbblhioncecmaaGreatDoor
open Go.RowKit
set_option linter.unusedSimpArgs false
set_option linter.unusedVariables false

theorem OwnB.parts {w : World} {B : Nat} {v : Value} {l : List UInt8} (h : OwnB w B v l) : ∃ a n c, v = .slice a n c ∧ Sl w a n c l ∧ InB (fun k => B ≤ k) a n := by
  obtain ⟨a, c, rfl, hs⟩ := h.sl
  refine ⟨a, _, c, rfl, hs, ?_⟩
  cases a with
  | none => exact .inr fun b o s e => by cases e
  | some ad =>
    refine .inr fun b o s e => ?_
    cases e
    rcases h.2 with ⟨h1, _⟩ | ⟨g, o', cap, h1, h2, _⟩
    · cases h1
    · cases h1
      exact h2
/-- atom: a fault, or the atom -/
def RAtomP (g : Nat) (a : Option Addr) (n c : Nat) (r : RV) (m : Nat) (vo : Value) (w : World) (e : Ending) (w' : World) : Prop :=
  But (fun k => k = g) w w' ∧ ((r.e ≠ 0 ∧ e = FaultE r.p r.e) ∨ (r.e = 0 ∧ ∃ v : SV, e = .returned v.val ∧ RdI (fun k => w.heap.size ≤ k) w' v r.v ∧ Box w' g 88 (RdC a n c r.p m vo)))
theorem ra_no {g : Nat} {a : Option Addr} {n c : Nat} {r : RV} {p e m : Nat} {vo : Value} (h : r = RV.err p e) (he : e ≠ 0) {w w' : World} (hb : But (fun k => k = g) w w') : RAtomP g a n c r m vo w (FaultE p e) w' := by
  subst h
  exact ⟨hb, .inl ⟨he, rfl⟩⟩
theorem ra_yes {g : Nat} {a : Option Addr} {n c : Nat} {r : RV} {s : Sx} {p i m : Nat} {vo : Value} (h : r = ⟨s, p, i, 0⟩) {w w' : World} (hb : But (fun k => k = g) w w') (v : SV) (hr : RdI (fun k => w.heap.size ≤ k) w' v s) (hX : Box w' g 88 (RdC a n c p m vo)) : RAtomP g a n c r m vo w (.returned v.val) w' := by
  subst h
  exact ⟨hb, .inr ⟨rfl, v, rfl, hr, hX⟩⟩

set_option maxHeartbeats 8000000 in
set_option maxRecDepth 100000 in
theorem atomR_any (g : Nat) (a : Option Addr) (n c : Nat) (l : List UInt8) (p m M : Nat) (vo : Value) (w : World) (hX : Box w g 88 (RdC a n c p m vo)) (hs : Sl w a n c l) (hi : InB (fun k => ¬ k = g) a n) (hn : n ≤ 100000) (hp : p < n) :
    Calls Tryz.prog 81 #[.pointer (some ⟨g, 0, none⟩)] w (RAtomP g a n c (rAtom l p M) m vo w) := by
  have hl := hs.1
  have HS := Lib.hid hs
  have HL := Lib.hid (Nat.le_of_eq hl)
  have HL' := Lib.hid (Nat.le_of_eq hl.symm)
  have hgw := hX.lt
  obtain ⟨b, o, rfl, hc⟩ : ∃ b o, a = some ⟨b, o, none⟩ ∧ ∀ i, i < n → w.cell? ⟨b, o + i, none⟩ = some (.int .u8 ((l.getD i 0).toNat : Int)) := by
    rcases hs.2.2.2.2 with h0 | h0
    · omega
    · exact h0
  have hcp := hc p hp
  obtain ⟨ch, hch⟩ : ∃ ch, ch = l.getD p 0 := ⟨_, rfl⟩
  have HCH := Lib.hid hch
  rw [← hch] at hcp
  obtain ⟨R, hR⟩ : ∃ R, R = rAtom l p M := ⟨_, rfl⟩
  rw [← hR]
  have HR := Lib.hid hR
  have B0 : Below w.heap.size w ((w.alloc (.cells #[.bool false, .bool false, .slice none 0 0, .slice none 0 0, .slice none 0 0] 26)).alloc (.cells #[.bool false, .bool false, .slice none 0 0, .slice none 0 0, .slice none 0 0] 26)) := ((Below.refl _ _).alloc (Nat.le_refl _) _).alloc (by simp) _
  have X0 : Box ((w.alloc (.cells #[.bool false, .bool false, .slice none 0 0, .slice none 0 0, .slice none 0 0] 26)).alloc (.cells #[.bool false, .bool false, .slice none 0 0, .slice none 0 0, .slice none 0 0] 26)) w.heap.size 26 #[.bool false, .bool false, .slice none 0 0, .slice none 0 0, .slice none 0 0] := (Box.new _ _ _).alloc _
  have Y0 : Box ((w.alloc (.cells #[.bool false, .bool false, .slice none 0 0, .slice none 0 0, .slice none 0 0] 26)).alloc (.cells #[.bool false, .bool false, .slice none 0 0, .slice none 0 0, .slice none 0 0] 26)) (w.heap.size + 1) 26 #[.bool false, .bool false, .slice none 0 0, .slice none 0 0, .slice none 0 0] := by
    have := Box.new (w.alloc (.cells #[.bool false, .bool false, .slice none 0 0, .slice none 0 0, .slice none 0 0] 26)) 26 #[.bool false, .bool false, .slice none 0 0, .slice none 0 0, .slice none 0 0]
    simpa using this
  have R0 := hX.after B0
  have q0 : (((w.alloc (.cells #[.bool false, .bool false, .slice none 0 0, .slice none 0 0, .slice none 0 0] 26)).alloc (.cells #[.bool false, .bool false, .slice none 0 0, .slice none 0 0, .slice none 0 0] 26))).cell? ⟨b, o + p, none⟩ = some (.int .u8 (ch.toNat : Int)) := (B0.cell (p := ⟨b, o + p, none⟩) (cell_lt hcp)).trans hcp
  have x0 : (((w.alloc (.cells #[.bool false, .bool false, .slice none 0 0, .slice none 0 0, .slice none 0 0] 26)).alloc (.cells #[.bool false, .bool false, .slice none 0 0, .slice none 0 0, .slice none 0 0] 26))).cell? ⟨g, 0, none⟩ = some (.slice (some ⟨b, o, none⟩) n c) := R0.cell 0 rfl
  have x1 : (((w.alloc (.cells #[.bool false, .bool false, .slice none 0 0, .slice none 0 0, .slice none 0 0] 26)).alloc (.cells #[.bool false, .bool false, .slice none 0 0, .slice none 0 0, .slice none 0 0] 26))).cell? ⟨g, 1, none⟩ = some (.int .i64 p) := R0.cell 1 rfl
  have f1 := R0.frozen 1
  have HS0 := Lib.hid (HS.out.after B0)
  clear hs hl hc hR hch hcp hX
  have HSB : Hid (∀ b' o' s', (some (⟨b, o, none⟩ : Addr)) = some ⟨b', o', s'⟩ → b' < w.heap.size) := Lib.hid fun b' o' s' e => (HS.out.inB.elim (fun h => by omega) (fun h => h b' o' s' e))
  by_cases hno : ch = 91
  · subst hno
    go_enter Tryz.func81, Tryz.ntmps81
    go_upto_region 2 with fail
    change Code.wp _ _ _ _ ((w.alloc (.cells #[.bool false, .bool false, .slice none 0 0, .slice none 0 0, .slice none 0 0] 26)).alloc (.cells #[.bool false, .bool false, .slice none 0 0, .slice none 0 0, .slice none 0 0] 26))
    generalize ((w.alloc (.cells #[.bool false, .bool false, .slice none 0 0, .slice none 0 0, .slice none 0 0] 26)).alloc (.cells #[.bool false, .bool false, .slice none 0 0, .slice none 0 0, .slice none 0 0] 26)) = u0 at *
    have hz0 := Y0.lt
    have bu : But (fun k => k = g) w u0 := But.ofBelow B0
    obtain ⟨a, ha⟩ : ∃ a : Option Addr, a = some ⟨b, o, none⟩ := ⟨_, rfl⟩
    go_quiet (fail)
    have X1 := X0.drewN nq
    have Y1 := Y0.drewN nq
    have R1 := R0.drewN nq
    have B1 := bu.drewN nq
    have HS1 : Hid (Sl (u0.drewN nq) (some ⟨b, o, none⟩) n c l) := Lib.hid (HS0.out.keep (.inr fun _ _ _ _ => rfl))
    have f1' : (u0.drewN nq).frozen? ⟨g, 1, none⟩ = false := f1
    have x1' : (u0.drewN nq).cell? ⟨g, 1, none⟩ = some (.int .i64 p) := x1
    have hz1 : w.heap.size + 1 < (u0.drewN nq).heap.size := hz0
    rw [← ha] at R1 HS1
    generalize u0.drewN nq = u1 at *
    clear X0 Y0 R0 bu B0 q0 x0 x1 f1 hz0 HS0
    go_upto_region 4 with fail
    have X2 := X1.far ⟨g, 1, none⟩ (.int .i64 ((p : Int) + 1)) (by show w.heap.size ≠ g; omega)
    have Y2 := Y1.far ⟨g, 1, none⟩ (.int .i64 ((p : Int) + 1)) (by show w.heap.size + 1 ≠ g; omega)
    have R2 : Box (u1.setCell ⟨g, 1, none⟩ (.int .i64 ((p : Int) + 1))) g 88 (RdC a n c (p + 1) m vo) := R1.set 1 _
    have B2 := B1.setCell (p := ⟨g, 1, none⟩) (.inl rfl) (.int .i64 ((p : Int) + 1))
    have HS2 := Lib.hid (HS1.out.but ((But.refl (fun k => k = g) u1).setCell (p := ⟨g, 1, none⟩) (.inl rfl) (.int .i64 ((p : Int) + 1))) (ha ▸ hi) (fun k hk => hk))
    have hz2 : w.heap.size + 1 < (u1.setCell ⟨g, 1, none⟩ (.int .i64 ((p : Int) + 1))).heap.size := by simpa using hz1
    change Code.wp _ _ _ _ (u1.setCell ⟨g, 1, none⟩ (.int .i64 ((p : Int) + 1)))
    generalize (u1.setCell ⟨g, 1, none⟩ (.int .i64 ((p : Int) + 1))) = u2 at *
    clear X1 Y1 R1 B1 HS1 f1' x1' hz1
    go_wp2_with fail
    refine (bytes_any g a n c l (p + 1) m vo _ R2 HS2.out (ha ▸ hi) hn (by omega)).mono ?_
    rintro e w4 ⟨b4, ⟨h4, rfl⟩ | ⟨h4, v4, rfl, o4, R4⟩⟩
    · unfold FaultE
      exact ⟨rfl, ra_no (by rw [HR.out]; unfold rAtom; rw [if_pos (by rw [← HCH.out])]; dsimp only; rw [if_pos h4]) h4 (B2.trans b4 (fun k hk => .inl hk))⟩
    have hq4 : (rBytes l (p + 1)).2.1 ≤ n := Nat.le_trans (rBytes_err (l := l) (p := p + 1) rfl (by have := HL.out; omega)).1 HL'.out
    obtain ⟨q4, hq⟩ : ∃ q, q = (rBytes l (p + 1)).2.1 := ⟨_, rfl⟩
    have HQ := Lib.hid hq
    rw [← hq] at hq4 R4
    obtain ⟨a4, n4, c4, rfl, s4, i4⟩ := o4.parts
    have X4 := b4.box X2 (by show ¬ w.heap.size = g; omega)
    have Y4 := b4.box Y2 (by show ¬ w.heap.size + 1 = g; omega)
    have B4 := B2.trans b4 (fun k hk => .inl hk)
    have S4 := Lib.hid s4
    have I4 := Lib.hid i4
    have HSR := Lib.hid (HS2.out.but b4 (ha ▸ hi) (fun k hk => hk))
    have H4 := Lib.hid h4
    have f1 := Y4.frozen 1
    have d1 := Y4.cell 1 rfl
    have f2 := Y4.frozen 2
    have d2 := Y4.cell 2 rfl
    have hz4 := b4.size
    clear s4 i4 o4 h4 X2 Y2 R2 B2 hq HS2 b4
    go_upto_region 5 with fail
    have e4 : But (fun k => k = w.heap.size + 1) w4 ((w4.setCell ⟨w.heap.size + 1, 1, none⟩ (.bool true)).setCell ⟨w.heap.size + 1, 2, none⟩ (.slice a4 n4 c4)) := ((But.refl (fun k => k = w.heap.size + 1) w4).setCell (p := ⟨w.heap.size + 1, 1, none⟩) (.inl rfl) _).setCell (p := ⟨w.heap.size + 1, 2, none⟩) (.inl rfl) _
    have Y5 : Box ((w4.setCell ⟨w.heap.size + 1, 1, none⟩ (.bool true)).setCell ⟨w.heap.size + 1, 2, none⟩ (.slice a4 n4 c4)) (w.heap.size + 1) 26 #[.bool false, .bool true, .slice a4 n4 c4, .slice none 0 0, .slice none 0 0] := (Y4.set 1 _).set 2 _
    change Code.wp _ _ _ _ ((w4.setCell ⟨w.heap.size + 1, 1, none⟩ (.bool true)).setCell ⟨w.heap.size + 1, 2, none⟩ (.slice a4 n4 c4))
    generalize ((w4.setCell ⟨w.heap.size + 1, 1, none⟩ (.bool true)).setCell ⟨w.heap.size + 1, 2, none⟩ (.slice a4 n4 c4)) = u5 at *
    have X5 := e4.box X4 (by show ¬ w.heap.size = w.heap.size + 1; omega)
    have R5 := e4.box R4 (by show ¬ g = w.heap.size + 1; omega)
    have B5 := B4.trans e4 (fun k hk => .inr (by omega))
    have HS5 : Hid (Sl u5 a n c l) := Lib.hid ((HSR.out.inB.both (ha ▸ hi)).elim (fun h => by omega) (fun h => HSR.out.keep (.inr fun b' o' s' e' => e4.block b' (h b' o' s' e').1 (by have := HSB.out b' o' s' (ha ▸ e'); show ¬ b' = w.heap.size + 1; omega))))
    clear f1 d1 f2 d2 X4 Y4 R4 B4 HSR
    go_wp2_with fail
    refine (sign_any g a n c l q4 m vo 93 u5 R5 HS5.out hn (by omega)).mono ?_
    rintro e w6 ⟨b6, ⟨h6, rfl⟩ | ⟨h6, k6, rfl⟩ | ⟨h6, k6, rfl, R6⟩⟩
    · unfold FaultE
      exact ⟨rfl, ra_no (by rw [HR.out]; unfold rAtom; rw [if_pos (by rw [← HCH.out])]; dsimp only; rw [if_neg (by rw [H4.out]; simp), if_pos (by rw [← HQ.out]; exact h6)]) (by decide) (B5.trans b6 (fun k hk => .inl hk))⟩
    · unfold FaultE
      exact ⟨rfl, ra_no (by rw [HR.out]; unfold rAtom; rw [if_pos (by rw [← HCH.out])]; dsimp only; rw [if_neg (by rw [H4.out]; simp), if_neg (by rw [← HQ.out]; omega), if_pos (by rw [← HQ.out]; exact k6), ← HQ.out]) (by decide) (B5.trans b6 (fun k hk => .inl hk))⟩
    have X6 := b6.box X5 (by show ¬ w.heap.size = g; omega)
    have Y6 := b6.box Y5 (by show ¬ w.heap.size + 1 = g; omega)
    have B6 := B5.trans b6 (fun k hk => .inl hk)
    have HS6 := Lib.hid (HS5.out.but b6 (ha ▸ hi) (fun k hk => hk))
    have b46 : But (fun k => k = g ∨ k = w.heap.size + 1) w4 w6 := (e4.mono (fun k hk => .inr hk)).trans b6 (fun k hk => .inl (.inl hk))
    have hz6 := b46.size
    have hq6 : q4 + 1 ≤ n := by have := HL.out; have := HL'.out; omega
    have HRA : Hid (R = let d := rBytes l (q4 + 1); if d.2.2 ≠ 0 then RV.err d.2.1 d.2.2 else ⟨.mk false true (rBytes l (p + 1)).1 d.1 [], d.2.1, M, 0⟩) := Lib.hid (by rw [HR.out]; unfold rAtom; rw [if_pos (by rw [← HCH.out])]; dsimp only; rw [if_neg (by rw [H4.out]; simp), if_neg (by rw [← HQ.out]; omega), if_neg (by rw [← HQ.out]; simpa using k6), ← HQ.out])
    clear h6 k6 X5 Y5 R5 B5 HS5 e4 b6
    go_wp2_with fail
    refine (bytes_any g a n c l (q4 + 1) m vo _ R6 HS6.out (ha ▸ hi) hn (by omega)).mono ?_
    rintro e w7 ⟨b7, ⟨h7, rfl⟩ | ⟨h7, v7, rfl, o7, R7⟩⟩
    · unfold FaultE
      exact ⟨rfl, ra_no (by rw [HRA.out]; exact if_pos h7) h7 (B6.trans b7 (fun k hk => .inl hk))⟩
    obtain ⟨a7, n7, c7, rfl, s7, i7⟩ := o7.parts
    have X7 := b7.box X6 (by show ¬ w.heap.size = g; omega)
    have Y7 := b7.box Y6 (by show ¬ w.heap.size + 1 = g; omega)
    have B7 := B6.trans b7 (fun k hk => .inl hk)
    have S7 := Lib.hid s7
    have I7 := Lib.hid i7
    have H7 := Lib.hid h7
    have f3 := Y7.frozen 3
    have d3 := Y7.cell 3 rfl
    clear s7 i7 o7 h7 X6 Y6 R6 B6
    have hz7 := b7.size
    go_upto_region 7 with fail
    have Y8 := Y7.set 3 (.slice a7 n7 c7)
    have X8 := X7.far ⟨w.heap.size + 1, 3, none⟩ (.slice a7 n7 c7) (by show w.heap.size ≠ w.heap.size + 1; omega)
    have R8 := R7.far ⟨w.heap.size + 1, 3, none⟩ (.slice a7 n7 c7) (by show g ≠ w.heap.size + 1; omega)
    have B8 := B7.setCell (p := ⟨w.heap.size + 1, 3, none⟩) (.inr (by show w.heap.size ≤ w.heap.size + 1; omega)) (.slice a7 n7 c7)
    have b78 : But (fun k => k = w.heap.size + 1) w7 (w7.setCell ⟨w.heap.size + 1, 3, none⟩ (.slice a7 n7 c7)) := (But.refl (fun k => k = w.heap.size + 1) w7).setCell (p := ⟨w.heap.size + 1, 3, none⟩) (.inl rfl) _
    change Code.wp _ _ _ _ (w7.setCell ⟨w.heap.size + 1, 3, none⟩ (.slice a7 n7 c7))
    generalize (w7.setCell ⟨w.heap.size + 1, 3, none⟩ (.slice a7 n7 c7)) = u8 at *
    clear Y7 X7 R7 f3 d3 B7
    replace Y8 : Box u8 (w.heap.size + 1) 26 #[.bool false, .bool true, .slice a4 n4 c4, .slice a7 n7 c7, .slice none 0 0] := Y8
    replace X8 := Lib.hid X8
    replace Y8 := Lib.hid Y8
    have HR8 := Lib.hid R8
    have HB7 := Lib.hid b7
    clear R8 b7
    go_wp2_with first | (refine wpList_load_box rfl 26 _ rfl Y8.out (by rfl) Tryz.underlying26 rfl (by kernel_rfl) ?_) | (refine wpList_store_box (cells := #[.bool false, .bool true, .slice a4 n4 c4, .slice a7 n7 c7, .slice none 0 0]) rfl 26 _ _ rfl X8.out (by rfl) (by rfl) rfl (by kernel_rfl) (by simp [Value.oneCell']) ?_; intro u9 X9 st9)
    have b89 : But (fun k => k = w.heap.size) u8 u9 := But.ofStored st9 (st9.below 0 u8 (Nat.zero_le _) (Below.refl _ _))
    have b79 : But (fun k => k = w.heap.size ∨ k = w.heap.size + 1) w7 u9 := (b78.mono (fun k hk => .inr hk)).trans b89 (fun k hk => .inl (.inl hk))
    have HB79 := Lib.hid b79
    have HB69 : Hid (But (fun k => k = g ∨ k = w.heap.size ∨ k = w.heap.size + 1) w4 u9) := Lib.hid (((b46.mono (fun k hk => hk.imp id .inr)).trans HB7.out (fun k hk => .inl (.inl hk))).trans b79 (fun k hk => .inl (.inr hk)))
    have B9 := B8.trans b89 (fun k hk => .inr (by omega))
    have R9 := st9.box HR8.out (by omega)
    subst ha
    exact bodyPost_ret (v := .agg #[.bool false, .bool true, .slice a4 n4 c4, .slice a7 n7 c7, .slice none 0 0]) (box_result rfl _ _ (by rfl) X9 Tryz.underlying26 rfl (by kernel_rfl)) rfl (ra_yes (by rw [HRA.out]; exact if_neg (by rw [H7.out]; simp)) B9 ⟨false, true, a4, n4, c4, a7, n7, c7, none, 0, 0⟩ (rd_hint (S4.out.but HB69.out I4.out (fun k hk => by omega)) (S7.out.but HB79.out I7.out (fun k hk => by omega)) (I4.out.mono fun k h => by omega) (I7.out.mono fun k h => by omega)) R9)
  · have HNO := Lib.hid hno
    obtain ⟨z1, z2, z3⟩ := bNe (a := ch) 91 91 rfl (fun e => hno (UInt8.toNat_inj.1 e))
    clear hno
    go_enter Tryz.func81, Tryz.ntmps81
    go_upto_region 2 with fail
    change Code.wp _ _ _ _ ((w.alloc (.cells #[.bool false, .bool false, .slice none 0 0, .slice none 0 0, .slice none 0 0] 26)).alloc (.cells #[.bool false, .bool false, .slice none 0 0, .slice none 0 0, .slice none 0 0] 26))
    generalize ((w.alloc (.cells #[.bool false, .bool false, .slice none 0 0, .slice none 0 0, .slice none 0 0] 26)).alloc (.cells #[.bool false, .bool false, .slice none 0 0, .slice none 0 0, .slice none 0 0] 26)) = u0 at *
    have hz0 := Y0.lt
    have bu : But (fun k => k = g) w u0 := But.ofBelow B0
    obtain ⟨a, ha⟩ : ∃ a : Option Addr, a = some ⟨b, o, none⟩ := ⟨_, rfl⟩
    go_quiet (fail)
    have X1 := X0.drewN nq
    have Y1 := Y0.drewN nq
    have R1 := R0.drewN nq
    have B1 := bu.drewN nq
    have HS1 : Hid (Sl (u0.drewN nq) (some ⟨b, o, none⟩) n c l) := Lib.hid (HS0.out.keep (.inr fun _ _ _ _ => rfl))
    have f1' : (u0.drewN nq).frozen? ⟨g, 1, none⟩ = false := f1
    have x1' : (u0.drewN nq).cell? ⟨g, 1, none⟩ = some (.int .i64 p) := x1
    have hz1 : w.heap.size + 1 < (u0.drewN nq).heap.size := hz0
    rw [← ha] at R1 HS1
    generalize u0.drewN nq = u1 at *
    clear X0 Y0 R0 bu B0 q0 x0 x1 f1 hz0 HS0
    clear f1' x1'
    go_wp2_with fail
    refine (bytes_any g a n c l p m vo _ R1 HS1.out (ha ▸ hi) hn (by omega)).mono ?_
    rintro e w7 ⟨b7, ⟨h7, rfl⟩ | ⟨h7, v7, rfl, o7, R7⟩⟩
    · unfold FaultE
      exact ⟨rfl, ra_no (by rw [HR.out]; unfold rAtom; rw [if_neg (by rw [← HCH.out]; exact HNO.out)]; dsimp only; rw [if_pos h7]) h7 (B1.trans b7 (fun k hk => .inl hk))⟩
    obtain ⟨a7, n7, c7, rfl, s7, i7⟩ := o7.parts
    have X7 := b7.box X1 (by show ¬ w.heap.size = g; omega)
    have Y7 := b7.box Y1 (by show ¬ w.heap.size + 1 = g; omega)
    have B7 := B1.trans b7 (fun k hk => .inl hk)
    have S7 := Lib.hid s7
    have I7 := Lib.hid i7
    have H7 := Lib.hid h7
    have f3 := Y7.frozen 3
    have d3 := Y7.cell 3 rfl
    clear s7 i7 o7 h7 X1 Y1 R1 B1
    have hz7 := b7.size
    go_upto_region 7 with fail
    have Y8 := Y7.set 3 (.slice a7 n7 c7)
    have X8 := X7.far ⟨w.heap.size + 1, 3, none⟩ (.slice a7 n7 c7) (by show w.heap.size ≠ w.heap.size + 1; omega)
    have R8 := R7.far ⟨w.heap.size + 1, 3, none⟩ (.slice a7 n7 c7) (by show g ≠ w.heap.size + 1; omega)
    have B8 := B7.setCell (p := ⟨w.heap.size + 1, 3, none⟩) (.inr (by show w.heap.size ≤ w.heap.size + 1; omega)) (.slice a7 n7 c7)
    have b78 : But (fun k => k = w.heap.size + 1) w7 (w7.setCell ⟨w.heap.size + 1, 3, none⟩ (.slice a7 n7 c7)) := (But.refl (fun k => k = w.heap.size + 1) w7).setCell (p := ⟨w.heap.size + 1, 3, none⟩) (.inl rfl) _
    change Code.wp _ _ _ _ (w7.setCell ⟨w.heap.size + 1, 3, none⟩ (.slice a7 n7 c7))
    generalize (w7.setCell ⟨w.heap.size + 1, 3, none⟩ (.slice a7 n7 c7)) = u8 at *
    clear Y7 X7 R7 f3 d3 B7
    replace Y8 : Box u8 (w.heap.size + 1) 26 #[.bool false, .bool false, .slice none 0 0, .slice a7 n7 c7, .slice none 0 0] := Y8
    replace X8 := Lib.hid X8
    replace Y8 := Lib.hid Y8
    have HR8 := Lib.hid R8
    have HB7 := Lib.hid b7
    clear R8 b7
    go_wp2_with first | (refine wpList_load_box rfl 26 _ rfl Y8.out (by rfl) Tryz.underlying26 rfl (by kernel_rfl) ?_) | (refine wpList_store_box (cells := #[.bool false, .bool false, .slice none 0 0, .slice a7 n7 c7, .slice none 0 0]) rfl 26 _ _ rfl X8.out (by rfl) (by rfl) rfl (by kernel_rfl) (by simp [Value.oneCell']) ?_; intro u9 X9 st9)
    have b89 : But (fun k => k = w.heap.size) u8 u9 := But.ofStored st9 (st9.below 0 u8 (Nat.zero_le _) (Below.refl _ _))
    have b79 : But (fun k => k = w.heap.size ∨ k = w.heap.size + 1) w7 u9 := (b78.mono (fun k hk => .inr hk)).trans b89 (fun k hk => .inl (.inl hk))
    have HB79 := Lib.hid b79
    have B9 := B8.trans b89 (fun k hk => .inr (by omega))
    have R9 := st9.box HR8.out (by omega)
    subst ha
    exact bodyPost_ret (v := .agg #[.bool false, .bool false, .slice none 0 0, .slice a7 n7 c7, .slice none 0 0]) (box_result rfl _ _ (by rfl) X9 Tryz.underlying26 rfl (by kernel_rfl)) rfl (ra_yes (by rw [HR.out]; unfold rAtom; rw [if_neg (by rw [← HCH.out]; exact HNO.out)]; dsimp only; rw [if_neg (by rw [H7.out]; simp)]) B9 ⟨false, false, none, 0, 0, a7, n7, c7, none, 0, 0⟩ (rd_atomI (S7.out.but HB79.out I7.out (fun k hk => by omega)) (I7.out.mono fun k h => by omega)) R9)

end Go.Proofs.YtkbblhioncecmaaGreatDoor
namespace Go.Proofs.YtkbblhioncecmaaGreatDoor
open Go.RowKit
set_option linter.unusedSimpArgs false
set_option linter.unusedVariables false

/-- one element of a row of one's own is stored anew -/
theorem OwnG.setElem {w : World} {B b o n cap : Nat} {K : Nat → SV} (h : OwnG w B 5 (.slice (some ⟨b, o, none⟩) n cap) n (newsK K n)) (i : Nat) (hi : i < n) (u : SV) :
    w.there b (o + i * 5) 5 ∧ OwnG (w.setCells b (o + i * 5) u.cells.toList) B 5 (.slice (some ⟨b, o, none⟩) n cap) n (newsK (fun j => if j = i then u else K j) n) := by
  rcases h.2 with ⟨h2, _⟩ | ⟨g, o', cap', h2, h3, h4, h5, h6, h7, h8⟩
  · cases h2
  · cases h2
    have hth : w.there b (o + i * 5) 5 := fun j hj => by
      have := h7 (i * 5 + j) (by omega)
      rwa [← Nat.add_assoc] at this
    refine ⟨hth, .made (newsK_len _ _) h3 (by rw [size_setCells]; exact h4) h5 h6 (World.there_setCells h7 _ _ _) (fun j x hx => ?_)⟩
    have hj : j < n * 5 := by
      have := (List.getElem?_eq_some_iff.1 hx).1
      rwa [newsK_len] at this
    obtain ⟨q, r, hr, rfl⟩ : ∃ q r, r < 5 ∧ j = q * 5 + r := ⟨j / 5, j % 5, by omega, by omega⟩
    have hq : q < n := by omega
    rw [newsK_at _ n q r hq hr] at hx
    by_cases hqi : q = i
    · subst hqi
      rw [if_pos rfl] at hx
      have := World.rangeAt_setCells_same w b (o + q * 5) u.cells.toList hth r x (by simpa using hx)
      rwa [Nat.add_assoc] at this
    · rw [if_neg hqi] at hx
      rw [World.cell?_setCells_out b u.cells.toList (o + i * 5) w ⟨b, o + (q * 5 + r), none⟩ (fun _ _ => by
        show o + (q * 5 + r) < o + i * 5 ∨ o + i * 5 + 5 ≤ o + (q * 5 + r)
        omega)]
      exact h8 (q * 5 + r) x (by rw [newsK_at _ n q r hq hr]; exact hx)
/-- the last element of a row of one's own is given up -/
theorem OwnG.popK {w : World} {B b o n cap : Nat} {K : Nat → SV} (h : OwnG w B 5 (.slice (some ⟨b, o, none⟩) (n + 1) cap) (n + 1) (newsK K (n + 1))) : OwnG w B 5 (.slice (some ⟨b, o, none⟩) n cap) n (newsK K n) := by
  rcases h.2 with ⟨h2, _⟩ | ⟨g, o', cap', h2, h3, h4, h5, h6, h7, h8⟩
  · cases h2
  · cases h2
    refine .made (newsK_len _ _) h3 h4 (by omega) h6 h7 (fun j x hx => h8 j x ?_)
    have hl := (List.getElem?_eq_some_iff.1 hx).1
    show (newsK K n ++ (K n).cells.toList)[j]? = some x
    rw [List.getElem?_append_left hl]
    exact hx
theorem OwnG.congr {w : World} {B n : Nat} {v : Value} {K K' : Nat → SV} (h : OwnG w B 5 v n (newsK K n)) (hk : ∀ i, i < n → K i = K' i) : OwnG w B 5 v n (newsK K' n) := by rwa [newsK_congr hk] at h
/-- a row of at least one element is somewhere -/
theorem OwnG.at_ {w : World} {B size n : Nat} {a : Option Addr} {c : Nat} {xs : List Value} (h : OwnG w B size (.slice a n c) n xs) (hn : 0 < n) : ∃ b o, a = some ⟨b, o, none⟩ ∧ n ≤ c ∧ c ≤ maxLen := by
  rcases h.2 with ⟨h2, h3⟩ | ⟨g, o, cap, h2, h3, h4, h5, h6, h7, h8⟩
  · omega
  · cases h2
    exact ⟨g, o, rfl, h5, h6⟩
theorem src_box {w : World} {b : Nat} {T : TypeId} (v : SV) (h : Box w b T v.cells) : Src Tryz.prog 5 24 (.slice (some ⟨b, 0, none⟩) 1 1) 1 (newsK (fun _ => v) 1) w := by
  refine Src.ofSlice _ Tryz.underlying24 _ 1 1 _ (newsK_len _ 1) (fun j u hu => ?_) (newsK_one _ 1)
  rw [Addr.add_mid]
  refine h.cell (0 + j) ?_
  rw [Nat.zero_add]
  simpa [newsK] using hu

/-- an open list: its values so far, and where they lie -/
structure Lev where
  ks : List Sx
  ta : Option Addr
  tc : Nat
  K : Nat → SV
def Lev.val (x : Lev) : Value := .slice x.ta x.ks.length x.tc
def Lev.sv (x : Lev) : SV := ⟨true, false, none, 0, 0, none, 0, 0, x.ta, x.ks.length, x.tc⟩
def Lev.new : Lev := ⟨[], none, 0, fun _ => SV.nil⟩
def updL (L : Nat → Lev) (d : Nat) (x : Lev) : Nat → Lev := fun i => if i = d then x else L i
theorem updL_same (L : Nat → Lev) (d : Nat) (x : Lev) : updL L d x d = x := if_pos rfl
theorem updL_other (L : Nat → Lev) {d i : Nat} (x : Lev) (h : i ≠ d) : updL L d x i = L i := if_neg h
/-- the lists that are open, the innermost first -/
def stk (L : Nat → Lev) : Nat → List (List Sx)
  | 0 => []
  | d + 1 => (L d).ks :: stk L d
theorem stk_length (L : Nat → Lev) : ∀ d, (stk L d).length = d
  | 0 => rfl
  | d + 1 => by simp [stk, stk_length L d]
theorem stk_congr {L L' : Nat → Lev} : ∀ {d : Nat}, (∀ i, i < d → L' i = L i) → stk L' d = stk L d
  | 0, _ => rfl
  | d + 1, h => by simp only [stk]; rw [h d (by omega), stk_congr fun i hi => h i (by omega)]
theorem stk_upd (L : Nat → Lev) (d : Nat) (x : Lev) : stk (updL L d x) (d + 1) = x.ks :: stk L d := by
  simp only [stk]
  rw [updL_same, stk_congr fun i hi => updL_other L x (by omega)]

/-- where a value that has been read may lie -/
def okT (g : Nat) (vo : Value) (L : Nat → Lev) (d : Nat) (k : Nat) : Prop := g < k ∧ vo.ownBlock ≠ some k ∧ ∀ i, i < d → (L i).val.ownBlock ≠ some k
/-- how the open lists lie -/
structure Stt (w : World) (g : Nat) (vo : Value) (L : Nat → Lev) (d : Nat) : Prop where
  own : OwnG w (g + 1) 5 vo d (newsK (fun i => (L i).sv) d)
  kid : ∀ i, i < d → OwnG w (g + 1) 5 (L i).val (L i).ks.length (newsK (L i).K (L i).ks.length)
  tree : ∀ i, i < d → ∀ j (h : j < (L i).ks.length), RdI (okT g vo L d) w ((L i).K j) (L i).ks[j]
  sep : ∀ i, i < d → ∀ k, (L i).val.ownBlock = some k → vo.ownBlock ≠ some k
  sep2 : ∀ i, i < d → ∀ j, j < d → i ≠ j → ∀ k, (L i).val.ownBlock = some k → (L j).val.ownBlock ≠ some k

section
variable {w w' : World} {g d : Nat} {vo v' : Value} {L : Nat → Lev}
theorem Stt.none (w : World) (g : Nat) (L : Nat → Lev) : Stt w g (.slice none 0 0) L 0 :=
  ⟨OwnG.nil _ _ _, fun i hi => by omega, fun i hi => by omega, fun i hi => by omega, fun i hi => by omega⟩
/-- nothing behind the reader's block has changed -/
theorem Stt.keep (h : Stt w g vo L d) (hz : w.heap.size ≤ w'.heap.size) (hk : ∀ k, k < w.heap.size → g < k → w'.heap[k]? = w.heap[k]?) : Stt w' g vo L d :=
  ⟨h.own.keep hz (fun k e => hk k (h.own.lt k e).2 (h.own.lt k e).1), fun i hi => (h.kid i hi).keep hz (fun k e => hk k ((h.kid i hi).lt k e).2 ((h.kid i hi).lt k e).1),
    fun i hi j hj => ((h.tree i hi j hj).there.keep fun k e => hk k e.2 e.1.1).mono fun _ e => e.1, h.sep, h.sep2⟩
theorem Stt.but {S : Nat → Prop} (h : Stt w g vo L d) (hb : But S w w') (hS : ∀ k, S k → k ≤ g) : Stt w' g vo L d :=
  h.keep hb.size fun k hk hg => hb.block k hk fun e => by have := hS k e; omega
theorem Stt.after (h : Stt w g vo L d) (hb : Below w.heap.size w w') : Stt w' g vo L d := h.keep hb.size fun k hk _ => hb.block k hk
theorem okT_new {k : Nat} (h : Stt w g vo L d) (hg : g < w.heap.size) (hk : w.heap.size ≤ k) : okT g vo L d k :=
  ⟨by omega, fun e => by have := h.own.lt k e; omega, fun i hi e => by have := (h.kid i hi).lt k e; omega⟩

/-- a list begins -/
theorem Stt.push (h : Stt w g vo L d) (hz : w.heap.size ≤ w'.heap.size) (hk : ∀ k, k < w.heap.size → g < k → vo.ownBlock ≠ some k → w'.heap[k]? = w.heap[k]?)
    (hw : ∀ k, v'.ownBlock = some k → vo.ownBlock = some k ∨ w.heap.size ≤ k) (ho : OwnG w' (g + 1) 5 v' (d + 1) (newsK (fun i => (updL L d Lev.new i).sv) (d + 1))) : Stt w' g v' (updL L d Lev.new) (d + 1) := by
  have hsep : ∀ i, i < d → ∀ k, (L i).val.ownBlock = some k → v'.ownBlock ≠ some k := fun i hi k e e' => by
    rcases hw k e' with e2 | e2
    · exact h.sep i hi k e e2
    · have := (h.kid i hi).lt k e; omega
  have hnew : ∀ k, Lev.new.val.ownBlock ≠ some k := fun k e => by simp [Lev.new, Lev.val, Value.ownBlock] at e
  refine ⟨ho, fun i hi => ?_, fun i hi j hj => ?_, fun i hi k e => ?_, fun i hi j hj hij k e => ?_⟩
  · by_cases hid : i = d
    · subst hid
      rw [updL_same]
      exact OwnG.nil _ _ _
    · rw [updL_other L _ hid]
      have h1 := h.kid i (by omega)
      exact h1.keep hz fun k e => hk k (h1.lt k e).2 (h1.lt k e).1 (h.sep i (by omega) k e)
  · by_cases hid : i = d
    · subst hid
      simp only [updL_same] at hj
      cases hj
    · simp only [updL_other L _ hid] at hj ⊢
      refine ((h.tree i (by omega) j hj).there.keep fun k e => hk k e.2 e.1.1 e.1.2.1).mono fun k e => ⟨e.1.1, fun e' => ?_, fun m hm e' => ?_⟩
      · rcases hw k e' with e2 | e2
        · exact e.1.2.1 e2
        · omega
      · by_cases hmd : m = d
        · subst hmd; rw [updL_same] at e'; exact hnew k e'
        · rw [updL_other L _ hmd] at e'; exact e.1.2.2 m (by omega) e'
  · by_cases hid : i = d
    · subst hid; rw [updL_same] at e; exact absurd e (hnew k)
    · rw [updL_other L _ hid] at e; exact hsep i (by omega) k e
  · by_cases hid : i = d
    · subst hid; rw [updL_same] at e; exact absurd e (hnew k)
    · rw [updL_other L _ hid] at e
      by_cases hjd : j = d
      · subst hjd; rw [updL_same]; exact hnew k
      · rw [updL_other L _ hjd]; exact h.sep2 i (by omega) j (by omega) hij k e

/-- a list ends -/
theorem Stt.pop (h : Stt w g vo L (d + 1)) (hz : w.heap.size ≤ w'.heap.size) (hk : ∀ k, k < w.heap.size → g < k → w'.heap[k]? = w.heap[k]?)
    (hw : ∀ k, v'.ownBlock = some k → vo.ownBlock = some k) (ho : OwnG w' (g + 1) 5 v' d (newsK (fun i => (L i).sv) d)) :
    Stt w' g v' L d ∧ RdI (okT g v' L d) w' (L d).sv (.mk true false [] [] (L d).ks) := by
  have h' := h.keep hz hk
  have hmono : ∀ k, okT g vo L (d + 1) k → okT g v' L d k := fun k e => ⟨e.1, fun e' => e.2.1 (hw k e'), fun i hi => e.2.2 i (by omega)⟩
  refine ⟨⟨ho, fun i hi => h'.kid i (by omega), fun i hi j hj => (h'.tree i (by omega) j hj).mono hmono, fun i hi k e e' => h.sep i (by omega) k e (hw k e'), fun i hi j hj => h.sep2 i (by omega) j (by omega)⟩, ?_⟩
  obtain ⟨a', c', e', hrow, hinb⟩ := (h'.kid d (by omega)).row
  unfold Lev.val at e'
  cases e'
  refine rd_list hrow ?_ rfl (fun i hi => (h'.tree d (by omega) i hi).mono hmono)
  have hown := (h'.kid d (by omega)).lt
  cases hta : (L d).ta with
  | none => exact .inr fun b o s e => by cases e
  | some ad =>
    by_cases hn : (L d).ks.length = 0
    · exact .inl hn
    · right
      intro b o s e
      obtain ⟨b', o', e2, _⟩ := OwnG.at_ (h'.kid d (by omega)) (by omega)
      rw [hta, e] at e2
      cases e2
      have hv : (L d).val.ownBlock = some b := by unfold Lev.val; rw [hta, e]; simp [Value.ownBlock]
      exact ⟨by have := (hown b hv).1; omega, fun e' => h.sep d (by omega) b hv (hw b e'), fun i hi e' => h.sep2 i (by omega) d (by omega) (by omega) b e' hv⟩

/-- a value goes into the innermost list -/
theorem Stt.add (h : Stt w g vo L (d + 1)) {v : SV} {s : Sx} (hr : RdI (okT g vo L (d + 1)) w v s) {ta : Option Addr} {tc : Nat}
    (hz : w.heap.size ≤ w'.heap.size) (hk : ∀ k, k < w.heap.size → g < k → vo.ownBlock ≠ some k → (L d).val.ownBlock ≠ some k → w'.heap[k]? = w.heap[k]?)
    (hw : ∀ k, (Value.slice ta ((L d).ks.length + 1) tc).ownBlock = some k → (L d).val.ownBlock = some k ∨ w.heap.size ≤ k)
    (hn : OwnG w' (g + 1) 5 (.slice ta ((L d).ks.length + 1) tc) ((L d).ks.length + 1) (newsK (fun i => if i = (L d).ks.length then v else (L d).K i) ((L d).ks.length + 1)))
    (ho : OwnG w' (g + 1) 5 vo (d + 1) (newsK (fun i => (updL L d ⟨(L d).ks ++ [s], ta, tc, fun i => if i = (L d).ks.length then v else (L d).K i⟩ i).sv) (d + 1))) :
    Stt w' g vo (updL L d ⟨(L d).ks ++ [s], ta, tc, fun i => if i = (L d).ks.length then v else (L d).K i⟩) (d + 1) := by
  obtain ⟨X, hX⟩ : ∃ X : Lev, X = ⟨(L d).ks ++ [s], ta, tc, fun i => if i = (L d).ks.length then v else (L d).K i⟩ := ⟨_, rfl⟩
  have hXv : X.val = .slice ta ((L d).ks.length + 1) tc := by rw [hX]; simp [Lev.val]
  rw [← hX] at ho ⊢
  have hsepX : ∀ k, X.val.ownBlock = some k → vo.ownBlock ≠ some k := fun k e e' => by
    rw [hXv] at e
    rcases hw k e with e2 | e2
    · exact h.sep d (by omega) k e2 e'
    · have := h.own.lt k e'; omega
  have hsepXi : ∀ i, i < d → ∀ k, X.val.ownBlock = some k → (L i).val.ownBlock ≠ some k := fun i hi k e e' => by
    rw [hXv] at e
    rcases hw k e with e2 | e2
    · exact h.sep2 i (by omega) d (by omega) (by omega) k e' e2
    · have := (h.kid i (by omega)).lt k e'; omega
  have key : ∀ {v0 : SV} {s0 : Sx}, RdI (okT g vo L (d + 1)) w v0 s0 → RdI (okT g vo (updL L d X) (d + 1)) w' v0 s0 := fun h0 =>
    (h0.there.keep fun k e => hk k e.2 e.1.1 e.1.2.1 (e.1.2.2 d (by omega))).mono fun k e => ⟨e.1.1, e.1.2.1, fun i hi e' => by
      by_cases hid : i = d
      · subst hid
        rw [updL_same, hXv] at e'
        rcases hw k e' with e2 | e2
        · exact e.1.2.2 i (by omega) e2
        · omega
      · rw [updL_other L _ hid] at e'; exact e.1.2.2 i hi e'⟩
  refine ⟨ho, fun i hi => ?_, fun i hi j hj => ?_, fun i hi k e => ?_, fun i hi j hj hij k e => ?_⟩
  · by_cases hid : i = d
    · subst hid
      rw [updL_same, hXv, hX]
      simpa using hn
    · rw [updL_other L _ hid]
      have h1 := h.kid i hi
      exact h1.keep hz fun k e => hk k (h1.lt k e).2 (h1.lt k e).1 (h.sep i hi k e) (h.sep2 i hi d (by omega) hid k e)
  · by_cases hid : i = d
    · subst hid
      simp only [updL_same, hX] at hj ⊢
      by_cases hjl : j = (L i).ks.length
      · subst hjl
        simp only [if_pos rfl]
        rw [show ((L i).ks ++ [s])[(L i).ks.length] = s by simp]
        rw [← hX]
        exact key hr
      · have hlt : j < (L i).ks.length := by simp at hj; omega
        simp only [if_neg hjl]
        rw [List.getElem_append_left hlt, ← hX]
        exact key (h.tree i hi j hlt)
    · simp only [updL_other L _ hid] at hj ⊢
      exact key (h.tree i hi j hj)
  · by_cases hid : i = d
    · subst hid; rw [updL_same] at e; exact hsepX k e
    · rw [updL_other L _ hid] at e; exact h.sep i hi k e
  · by_cases hid : i = d
    · subst hid
      rw [updL_same] at e
      rw [updL_other L _ (Ne.symm hij)]
      exact hsepXi j (by omega) k e
    · rw [updL_other L _ hid] at e
      by_cases hjd : j = d
      · subst hjd
        rw [updL_same]
        exact fun e' => hsepXi i (by omega) k e' e
      · rw [updL_other L _ hjd]; exact h.sep2 i hi j hj hij k e
end

/-- a slice is stored in a cell -/
theorem wp_store_slice {P : Program} {Q : Exit → Act → World → Prop} {o : Oper} {a : Act} {w : World} {K : Act → World → Prop} (ty : TypeId) (x y : Operand) (ho : o.op = .store ty x y)
    {b off : Nat} {p : Option Addr} {n c : Nat} (hx : a.eval x = .pointer (some ⟨b, off, none⟩)) (hy : a.eval y = .slice p n c) {u : Value} (hc : w.cell? ⟨b, off, none⟩ = some u) (hf : w.frozen? ⟨b, off, none⟩ = false) (hz : ∀ w, (sizeOf ty).run P w = .ok 1 w)
    (h : K (a.put o.dst undef) (w.setCell ⟨b, off, none⟩ (.slice p n c))) : o.wp P a w K Q := by
  unfold Oper.wp execOp
  simp only [ho, hx, hy]
  simp [go_sem, hz, hc, hf]
  exact h
/-- what a store of values' cells in a row does -/
theorem wp_store_elem {P : Program} {Q : Exit → Act → World → Prop} {op : Oper} {a : Act} {w : World} {K : Act → World → Prop} (ty : TypeId) (x y : Operand) (ho : op.op = .store ty x y)
    (b o : Nat) (v : SV) (hx : a.eval x = .pointer (some ⟨b, o, none⟩)) (hy : a.eval y = v.val) (ht : w.there b o 5) (hi : (P.info? ty).map (·.size) = some 5)
    (h : K (a.put op.dst undef) (w.setCells b o v.cells.toList)) : op.wp P a w K Q :=
  wp_store_mid ty x y ho b o v.cells hx hy ht hi v.one h
end Go.Proofs.YtkbblhioncecmaaGreatDoor
namespace Go.Proofs.YtkbblhioncecmaaGreatDoor
open Go.RowKit
set_option linter.unusedSimpArgs false
set_option linter.unusedVariables false

/-- the values within of one element of a row of one's own -/
theorem OwnG.setKids {w : World} {B b o n cap : Nat} {K : Nat → SV} (h : OwnG w B 5 (.slice (some ⟨b, o, none⟩) n cap) n (newsK K n)) (i : Nat) (hi : i < n) (p : Option Addr) (m c : Nat) :
    w.cell? ⟨b, o + i * 5 + 4, none⟩ = some (.slice (K i).a3 (K i).n3 (K i).c3) ∧ w.frozen? ⟨b, o + i * 5 + 4, none⟩ = false ∧
    OwnG (w.setCell ⟨b, o + i * 5 + 4, none⟩ (.slice p m c)) B 5 (.slice (some ⟨b, o, none⟩) n cap) n (newsK (fun j => if j = i then { K i with a3 := p, n3 := m, c3 := c } else K j) n) := by
  rcases h.2 with ⟨h2, _⟩ | ⟨g, o', cap', h2, h3, h4, h5, h6, h7, h8⟩
  · cases h2
  · cases h2
    have hc4 : w.cell? ⟨b, o + i * 5 + 4, none⟩ = some (.slice (K i).a3 (K i).n3 (K i).c3) := by
      have := h8 (i * 5 + 4) (.slice (K i).a3 (K i).n3 (K i).c3) (by rw [newsK_at _ n i 4 hi (by omega)]; rfl)
      rwa [← Nat.add_assoc] at this
    have hf4 : w.frozen? ⟨b, o + i * 5 + 4, none⟩ = false := by
      have := (h7 (i * 5 + 4) (by omega)).2
      rwa [← Nat.add_assoc] at this
    have hset : w.setCell ⟨b, o + i * 5 + 4, none⟩ (.slice p m c) = w.setCells b (o + i * 5 + 4) [.slice p m c] := rfl
    refine ⟨hc4, hf4, ?_⟩
    rw [hset]
    have hth : w.there b (o + i * 5 + 4) 1 := fun j hj => by
      obtain rfl : j = 0 := by omega
      exact ⟨by rw [Nat.add_zero, hc4]; rfl, by rw [Nat.add_zero]; exact hf4⟩
    refine .made (newsK_len _ _) h3 (by rw [size_setCells]; exact h4) h5 h6 (World.there_setCells h7 _ _ _) (fun j x hx => ?_)
    have hj : j < n * 5 := by
      have := (List.getElem?_eq_some_iff.1 hx).1
      rwa [newsK_len] at this
    obtain ⟨q, r, hr, rfl⟩ : ∃ q r, r < 5 ∧ j = q * 5 + r := ⟨j / 5, j % 5, by omega, by omega⟩
    have hq : q < n := by omega
    rw [newsK_at _ n q r hq hr] at hx
    by_cases hqr : q = i ∧ r = 4
    · obtain ⟨rfl, rfl⟩ := hqr
      rw [if_pos rfl] at hx
      have := World.rangeAt_setCells_same w b (o + q * 5 + 4) [.slice p m c] hth 0 x (by simpa [SV.cells] using hx)
      rwa [Nat.add_zero, Nat.add_assoc] at this
    · rw [World.cell?_setCells_out b [.slice p m c] (o + i * 5 + 4) w ⟨b, o + (q * 5 + r), none⟩ (fun _ _ => by
        show o + (q * 5 + r) < o + i * 5 + 4 ∨ o + i * 5 + 4 + 1 ≤ o + (q * 5 + r)
        omega)]
      refine h8 (q * 5 + r) x ?_
      rw [newsK_at _ n q r hq hr]
      by_cases hqi : q = i
      · subst hqi
        rw [if_pos rfl] at hx
        have hr4 : r < 4 := by omega
        match r, hr4, hx with
        | 0, _, hx => exact hx
        | 1, _, hx => exact hx
        | 2, _, hx => exact hx
        | 3, _, hx => exact hx
      · rw [if_neg hqi] at hx
        exact hx

theorem but_cells (w : World) (b o : Nat) (vs : List Value) : But (fun k => k = b) w (w.setCells b o vs) := But.ofGrown (grownBy_setCells w b o vs) (fun k e => by cases e; rfl)
theorem but_cell (w : World) (p : Addr) (v : Value) : But (fun k => k = p.block) w (w.setCell p v) := (But.refl (fun k => k = p.block) w).setCell (.inl rfl) v

theorem push_end {w4 w5 w6 w7 w8 : World} {g q n c p m d co b o cap : Nat} {a ao : Option Addr} {L : Nat → Lev} {RT : TypeId} (hq : g ≤ q) (h : Stt w4 q (.slice ao d co) L d) (R4 : Box w4 g RT (RdC a n c p m (.slice ao d co)))
    (hg5 : w4.grownBy w5 (Value.slice ao d co).ownBlock) (hw5 : ∀ k, (Value.slice (some ⟨b, o, none⟩) (d + 1) cap).ownBlock = some k → (Value.slice ao d co).ownBlock = some k ∨ w4.heap.size ≤ k)
    (ho5 : OwnG w5 (q + 1) 5 (.slice (some ⟨b, o, none⟩) (d + 1) cap) (d + 1) (newsK (fun i => if i = d then SV.nil else (L i).sv) (d + 1)))
    (b6 : Below w5.heap.size w5 w6) (b7 : Below (w6.setCells b (o + d * 5) Lev.new.sv.cells.toList).heap.size (w6.setCells b (o + d * 5) Lev.new.sv.cells.toList) w7)
    (b8 : Below (w7.setCell ⟨g, 3, none⟩ (.slice (some ⟨b, o, none⟩) (d + 1) cap)).heap.size (w7.setCell ⟨g, 3, none⟩ (.slice (some ⟨b, o, none⟩) (d + 1) cap)) w8) :
    Box w7 g RT (RdC a n c p m (.slice ao d co)) ∧ But (fun k => k = g ∨ (Value.slice ao d co).ownBlock = some k) w4 w8 ∧ Stt w8 q (.slice (some ⟨b, o, none⟩) (d + 1) cap) (updL L d Lev.new) (d + 1) ∧ Box w8 g RT (RdC a n c p m (.slice (some ⟨b, o, none⟩) (d + 1) cap)) := by
  have hgw := R4.lt
  have hbo : (Value.slice (some (⟨b, o, none⟩ : Addr)) (d + 1) cap).ownBlock = some b := by simp [Value.ownBlock]
  have hbl := ho5.lt b hbo
  have B5 : But (fun k => k = g ∨ (Value.slice ao d co).ownBlock = some k) w4 w5 := But.ofGrown hg5 (fun k e => .inr e)
  have B6 := B5.trans (But.ofBelow (S := fun _ => False) b6) (fun k hk => hk.elim)
  have B6' := B6.trans (but_cells w6 b (o + d * 5) Lev.new.sv.cells.toList) (fun k hk => by
    subst hk
    rcases hw5 k hbo with e | e
    · exact .inl (.inr e)
    · exact .inr e)
  have B7 := B6'.trans (But.ofBelow (S := fun _ => False) b7) (fun k hk => hk.elim)
  have B7' := B7.trans (but_cell w7 ⟨g, 3, none⟩ (.slice (some ⟨b, o, none⟩) (d + 1) cap)) (fun k hk => .inl (.inl hk))
  have B8 := B7'.trans (But.ofBelow (S := fun _ => False) b8) (fun k hk => hk.elim)
  have h47 : w7.heap[g]? = w4.heap[g]? := by
    rw [b7.block g (by rw [size_setCells]; have := B6.size; omega), World.heap_setCells_other _ _ _ _ (by have := B6.size; omega) (by omega), b6.block g (by have := B5.size; omega), hg5.block g hgw (fun e => by have := h.own.lt g e.symm; omega)]
  have R7 : Box w7 g RT (RdC a n c p m (.slice ao d co)) := h47.trans R4
  have R8 : Box w8 g RT (RdC a n c p m (.slice (some ⟨b, o, none⟩) (d + 1) cap)) := by
    have := (R7.set 3 (.slice (some ⟨b, o, none⟩) (d + 1) cap)).after b8
    exact this
  refine ⟨R7, B8, ?_, R8⟩
  obtain ⟨hth, ho6⟩ := (ho5.after b6).setElem d (by omega) Lev.new.sv
  have ho7 := ho6.after b7
  have ho8 := (ho7.but (but_cell w7 ⟨g, 3, none⟩ (.slice (some ⟨b, o, none⟩) (d + 1) cap)) (fun k e hk => by have := ho7.lt k e; have : k = g := hk; omega)).after b8
  refine h.push B8.size (fun k hk hgk hvo => B8.block k hk (fun e => e.elim (fun e => by omega) hvo)) hw5 (ho8.congr fun i hi => ?_)
  by_cases hid : i = d
  · subst hid; rw [if_pos rfl, updL_same]
  · rw [if_neg hid, if_neg hid, updL_other L _ hid]

/-- the stores the other way round -/
theorem push_end' {w4 w5 w6 w7 w8 : World} {g q n c p m d co b o cap : Nat} {a ao : Option Addr} {L : Nat → Lev} {RT : TypeId} (hq : g ≤ q) (h : Stt w4 q (.slice ao d co) L d) (R4 : Box w4 g RT (RdC a n c p m (.slice ao d co)))
    (hg5 : w4.grownBy w5 (Value.slice ao d co).ownBlock) (hw5 : ∀ k, (Value.slice (some ⟨b, o, none⟩) (d + 1) cap).ownBlock = some k → (Value.slice ao d co).ownBlock = some k ∨ w4.heap.size ≤ k)
    (ho5 : OwnG w5 (q + 1) 5 (.slice (some ⟨b, o, none⟩) (d + 1) cap) (d + 1) (newsK (fun i => if i = d then SV.nil else (L i).sv) (d + 1)))
    (b6 : Below w5.heap.size w5 w6) (b7 : Below (w6.setCell ⟨g, 3, none⟩ (.slice (some ⟨b, o, none⟩) (d + 1) cap)).heap.size (w6.setCell ⟨g, 3, none⟩ (.slice (some ⟨b, o, none⟩) (d + 1) cap)) w7)
    (b8 : Below (w7.setCells b (o + d * 5) Lev.new.sv.cells.toList).heap.size (w7.setCells b (o + d * 5) Lev.new.sv.cells.toList) w8) :
    Box w6 g RT (RdC a n c p m (.slice ao d co)) ∧ w7.there b (o + d * 5) 5 ∧ But (fun k => k = g ∨ (Value.slice ao d co).ownBlock = some k) w4 w8 ∧ Stt w8 q (.slice (some ⟨b, o, none⟩) (d + 1) cap) (updL L d Lev.new) (d + 1) ∧ Box w8 g RT (RdC a n c p m (.slice (some ⟨b, o, none⟩) (d + 1) cap)) := by
  have hgw := R4.lt
  have hbo : (Value.slice (some (⟨b, o, none⟩ : Addr)) (d + 1) cap).ownBlock = some b := by simp [Value.ownBlock]
  have hbl := ho5.lt b hbo
  have B5 : But (fun k => k = g ∨ (Value.slice ao d co).ownBlock = some k) w4 w5 := But.ofGrown hg5 (fun k e => .inr e)
  have B6 := B5.trans (But.ofBelow (S := fun _ => False) b6) (fun k hk => hk.elim)
  have B6' := B6.trans (but_cell w6 ⟨g, 3, none⟩ (.slice (some ⟨b, o, none⟩) (d + 1) cap)) (fun k hk => .inl (.inl hk))
  have B7 := B6'.trans (But.ofBelow (S := fun _ => False) b7) (fun k hk => hk.elim)
  have B7' := B7.trans (but_cells w7 b (o + d * 5) Lev.new.sv.cells.toList) (fun k hk => by
    subst hk
    rcases hw5 k hbo with e | e
    · exact .inl (.inr e)
    · exact .inr e)
  have B8 := B7'.trans (But.ofBelow (S := fun _ => False) b8) (fun k hk => hk.elim)
  have h46 : w6.heap[g]? = w4.heap[g]? := by
    rw [b6.block g (by have := B5.size; omega), hg5.block g hgw (fun e => by have := h.own.lt g e.symm; omega)]
  have R6 : Box w6 g RT (RdC a n c p m (.slice ao d co)) := h46.trans R4
  have R7 : Box w7 g RT (RdC a n c p m (.slice (some ⟨b, o, none⟩) (d + 1) cap)) := (R6.set 3 (.slice (some ⟨b, o, none⟩) (d + 1) cap)).after b7
  have R8 : Box w8 g RT (RdC a n c p m (.slice (some ⟨b, o, none⟩) (d + 1) cap)) := ((but_cells w7 b (o + d * 5) Lev.new.sv.cells.toList).box R7 (by omega)).after b8
  have ho6 := (ho5.after b6)
  have ho7 := (ho6.but (but_cell w6 ⟨g, 3, none⟩ (.slice (some ⟨b, o, none⟩) (d + 1) cap)) (fun k e hk => by have := ho6.lt k e; have : k = g := hk; omega)).after b7
  obtain ⟨hth, ho8⟩ := ho7.setElem d (by omega) Lev.new.sv
  refine ⟨R6, hth, B8, ?_, R8⟩
  refine h.push B8.size (fun k hk hgk hvo => B8.block k hk (fun e => e.elim (fun e => by omega) hvo)) hw5 ((ho8.after b8).congr fun i hi => ?_)
  by_cases hid : i = d
  · subst hid; rw [if_pos rfl, updL_same]
  · rw [if_neg hid, if_neg hid, updL_other L _ hid]

theorem add_end {w4 w5 w6 w7 w8 : World} {g d b o co bk ok tc' : Nat} {L : Nat → Lev} {v : SV} {s : Sx} (h : Stt w4 g (.slice (some ⟨b, o, none⟩) (d + 1) co) L (d + 1)) (hr : RdI (okT g (.slice (some ⟨b, o, none⟩) (d + 1) co) L (d + 1)) w4 v s)
    (hg5 : w4.grownBy w5 (L d).val.ownBlock) (hw5 : ∀ k, (Value.slice (some ⟨bk, ok, none⟩) ((L d).ks.length + 1) tc').ownBlock = some k → (L d).val.ownBlock = some k ∨ w4.heap.size ≤ k)
    (ho5 : OwnG w5 (g + 1) 5 (.slice (some ⟨bk, ok, none⟩) ((L d).ks.length + 1) tc') ((L d).ks.length + 1) (newsK (fun i => if i = (L d).ks.length then SV.nil else (L d).K i) ((L d).ks.length + 1)))
    (b6 : Below w5.heap.size w5 w6) (b7 : Below (w6.setCells bk (ok + (L d).ks.length * 5) v.cells.toList).heap.size (w6.setCells bk (ok + (L d).ks.length * 5) v.cells.toList) w7)
    (b8 : Below (w7.setCell ⟨b, o + d * 5 + 4, none⟩ (.slice (some ⟨bk, ok, none⟩) ((L d).ks.length + 1) tc')).heap.size (w7.setCell ⟨b, o + d * 5 + 4, none⟩ (.slice (some ⟨bk, ok, none⟩) ((L d).ks.length + 1) tc')) w8) :
    (∃ u, w7.cell? ⟨b, o + d * 5 + 4, none⟩ = some u) ∧ w7.frozen? ⟨b, o + d * 5 + 4, none⟩ = false ∧ But (fun k => k = b ∨ (L d).val.ownBlock = some k) w4 w8 ∧
    Stt w8 g (.slice (some ⟨b, o, none⟩) (d + 1) co) (updL L d ⟨(L d).ks ++ [s], some ⟨bk, ok, none⟩, tc', fun i => if i = (L d).ks.length then v else (L d).K i⟩) (d + 1) := by
  have hbo : (Value.slice (some (⟨b, o, none⟩ : Addr)) (d + 1) co).ownBlock = some b := by simp [Value.ownBlock]
  have hbk : (Value.slice (some (⟨bk, ok, none⟩ : Addr)) ((L d).ks.length + 1) tc').ownBlock = some bk := by simp [Value.ownBlock]
  have hbl := h.own.lt b hbo
  have hbkl := ho5.lt bk hbk
  have hne : bk ≠ b := fun e => by
    rcases hw5 bk hbk with e2 | e2
    · exact h.sep d (by omega) bk e2 (by rw [e]; exact hbo)
    · omega
  have B5 : But (fun k => k = b ∨ (L d).val.ownBlock = some k) w4 w5 := But.ofGrown hg5 (fun k e => .inr e)
  have B6 := B5.trans (But.ofBelow (S := fun _ => False) b6) (fun k hk => hk.elim)
  have B6' := B6.trans (but_cells w6 bk (ok + (L d).ks.length * 5) v.cells.toList) (fun k hk => by
    subst hk
    rcases hw5 k hbk with e | e
    · exact .inl (.inr e)
    · exact .inr e)
  have B7 := B6'.trans (But.ofBelow (S := fun _ => False) b7) (fun k hk => hk.elim)
  have B7' := B7.trans (but_cell w7 ⟨b, o + d * 5 + 4, none⟩ (.slice (some ⟨bk, ok, none⟩) ((L d).ks.length + 1) tc')) (fun k hk => .inl (.inl hk))
  have B8 := B7'.trans (But.ofBelow (S := fun _ => False) b8) (fun k hk => hk.elim)
  have h47 : w7.heap[b]? = w4.heap[b]? := by
    rw [b7.block b (by rw [size_setCells]; have := B6.size; omega), World.heap_setCells_other _ _ _ _ (by have := B6.size; omega) (fun e => hne e.symm), b6.block b (by have := B5.size; omega), hg5.block b hbl.2 (fun e => h.sep d (by omega) b e.symm hbo)]
  have ho47 : OwnG w7 (g + 1) 5 (.slice (some ⟨b, o, none⟩) (d + 1) co) (d + 1) (newsK (fun i => (L i).sv) (d + 1)) := h.own.keep B7.size (fun k e => by rw [hbo] at e; cases e; exact h47)
  obtain ⟨c7, f7, ho7⟩ := ho47.setKids d (by omega) (some ⟨bk, ok, none⟩) ((L d).ks.length + 1) tc'
  refine ⟨⟨_, c7⟩, f7, B8, ?_⟩
  obtain ⟨hth, hk6⟩ := (ho5.after b6).setElem (L d).ks.length (by omega) v
  have hk7 := hk6.after b7
  have hk8 := (hk7.but (but_cell w7 ⟨b, o + d * 5 + 4, none⟩ (.slice (some ⟨bk, ok, none⟩) ((L d).ks.length + 1) tc')) (fun k e hk => by rw [hbk] at e; cases e; exact hne hk)).after b8
  refine h.add hr B8.size (fun k hk hgk hvo hkd => B8.block k hk (fun e => e.elim (fun e => hvo (by rw [e]; exact hbo)) hkd)) hw5 (hk8.congr fun i hi => ?_) ((ho7.after b8).congr fun i hi => ?_)
  · by_cases hid : i = (L d).ks.length
    · rw [if_pos hid, if_pos hid]
    · rw [if_neg hid, if_neg hid, if_neg hid]
  · by_cases hid : i = d
    · subst hid; rw [if_pos rfl, updL_same]; simp [Lev.sv]
    · rw [if_neg hid, updL_other L _ hid]
/-- the stores the other way round -/
theorem add_end' {w4 w5 w6 w7 w8 : World} {g d b o co bk ok tc' : Nat} {L : Nat → Lev} {v : SV} {s : Sx} (h : Stt w4 g (.slice (some ⟨b, o, none⟩) (d + 1) co) L (d + 1)) (hr : RdI (okT g (.slice (some ⟨b, o, none⟩) (d + 1) co) L (d + 1)) w4 v s)
    (hg5 : w4.grownBy w5 (L d).val.ownBlock) (hw5 : ∀ k, (Value.slice (some ⟨bk, ok, none⟩) ((L d).ks.length + 1) tc').ownBlock = some k → (L d).val.ownBlock = some k ∨ w4.heap.size ≤ k)
    (ho5 : OwnG w5 (g + 1) 5 (.slice (some ⟨bk, ok, none⟩) ((L d).ks.length + 1) tc') ((L d).ks.length + 1) (newsK (fun i => if i = (L d).ks.length then SV.nil else (L d).K i) ((L d).ks.length + 1)))
    (b6 : Below w5.heap.size w5 w6) (b7 : Below (w6.setCell ⟨b, o + d * 5 + 4, none⟩ (.slice (some ⟨bk, ok, none⟩) ((L d).ks.length + 1) tc')).heap.size (w6.setCell ⟨b, o + d * 5 + 4, none⟩ (.slice (some ⟨bk, ok, none⟩) ((L d).ks.length + 1) tc')) w7)
    (b8 : Below (w7.setCells bk (ok + (L d).ks.length * 5) v.cells.toList).heap.size (w7.setCells bk (ok + (L d).ks.length * 5) v.cells.toList) w8) :
    (∃ u, w6.cell? ⟨b, o + d * 5 + 4, none⟩ = some u) ∧ w6.frozen? ⟨b, o + d * 5 + 4, none⟩ = false ∧ w7.there bk (ok + (L d).ks.length * 5) 5 ∧ But (fun k => k = b ∨ (L d).val.ownBlock = some k) w4 w8 ∧
    Stt w8 g (.slice (some ⟨b, o, none⟩) (d + 1) co) (updL L d ⟨(L d).ks ++ [s], some ⟨bk, ok, none⟩, tc', fun i => if i = (L d).ks.length then v else (L d).K i⟩) (d + 1) := by
  have hbo : (Value.slice (some (⟨b, o, none⟩ : Addr)) (d + 1) co).ownBlock = some b := by simp [Value.ownBlock]
  have hbk : (Value.slice (some (⟨bk, ok, none⟩ : Addr)) ((L d).ks.length + 1) tc').ownBlock = some bk := by simp [Value.ownBlock]
  have hbl := h.own.lt b hbo
  have hbkl := ho5.lt bk hbk
  have hne : bk ≠ b := fun e => by
    rcases hw5 bk hbk with e2 | e2
    · exact h.sep d (by omega) bk e2 (by rw [e]; exact hbo)
    · omega
  have B5 : But (fun k => k = b ∨ (L d).val.ownBlock = some k) w4 w5 := But.ofGrown hg5 (fun k e => .inr e)
  have B6 := B5.trans (But.ofBelow (S := fun _ => False) b6) (fun k hk => hk.elim)
  have B6' := B6.trans (but_cell w6 ⟨b, o + d * 5 + 4, none⟩ (.slice (some ⟨bk, ok, none⟩) ((L d).ks.length + 1) tc')) (fun k hk => .inl (.inl hk))
  have B7 := B6'.trans (But.ofBelow (S := fun _ => False) b7) (fun k hk => hk.elim)
  have B7' := B7.trans (but_cells w7 bk (ok + (L d).ks.length * 5) v.cells.toList) (fun k hk => by
    subst hk
    rcases hw5 k hbk with e | e
    · exact .inl (.inr e)
    · exact .inr e)
  have B8 := B7'.trans (But.ofBelow (S := fun _ => False) b8) (fun k hk => hk.elim)
  have h46 : w6.heap[b]? = w4.heap[b]? := by
    rw [b6.block b (by have := B5.size; omega), hg5.block b hbl.2 (fun e => h.sep d (by omega) b e.symm hbo)]
  have ho46 : OwnG w6 (g + 1) 5 (.slice (some ⟨b, o, none⟩) (d + 1) co) (d + 1) (newsK (fun i => (L i).sv) (d + 1)) := h.own.keep B6.size (fun k e => by rw [hbo] at e; cases e; exact h46)
  obtain ⟨c6, f6, ho6⟩ := ho46.setKids d (by omega) (some ⟨bk, ok, none⟩) ((L d).ks.length + 1) tc'
  have hk6 := ((ho5.after b6).but (but_cell w6 ⟨b, o + d * 5 + 4, none⟩ (.slice (some ⟨bk, ok, none⟩) ((L d).ks.length + 1) tc')) (fun k e hk => by rw [hbk] at e; cases e; exact hne hk)).after b7
  obtain ⟨hth, hk7⟩ := hk6.setElem (L d).ks.length (by omega) v
  have ho8 := ((ho6.after b7).but (but_cells w7 bk (ok + (L d).ks.length * 5) v.cells.toList) (fun k e hk => by rw [hbo] at e; cases e; exact hne hk.symm)).after b8
  refine ⟨⟨_, c6⟩, f6, hth, B8, ?_⟩
  refine h.add hr B8.size (fun k hk hgk hvo hkd => B8.block k hk (fun e => e.elim (fun e => hvo (by rw [e]; exact hbo)) hkd)) hw5 ((hk7.after b8).congr fun i hi => ?_) (ho8.congr fun i hi => ?_)
  · by_cases hid : i = (L d).ks.length
    · rw [if_pos hid, if_pos hid]
    · rw [if_neg hid, if_neg hid, if_neg hid]
  · by_cases hid : i = d
    · subst hid; rw [if_pos rfl, updL_same]; simp [Lev.sv]
    · rw [if_neg hid, updL_other L _ hid]
end Go.Proofs.YtkbblhioncecmaaGreatDoor
namespace Go.Proofs.YtkbblhioncecmaaGreatDoor
open Go.RowKit
set_option linter.unusedSimpArgs false
set_option linter.unusedVariables false

/-- a value that has been read is delivered -/
def Del (l : List UInt8) : List (List Sx) → Sx → Nat → Nat → RV → Prop
  | [], s, p, m, r => r = ⟨s, p, m, 0⟩
  | ks :: st, s, p, m, r => Mach l ((ks ++ [s]) :: st) p m r
theorem del_atom {l : List UInt8} {st : List (List Sx)} {p m rp : Nat} {rv : Sx} {r : RV} (k1 : p < l.length) (k2 : starts (l.getD p 0)) (k3 : l.getD p 0 ≠ 40) (hm1 : m + 1 ≤ 512) (e1 : (rAtom l p (m + 1)).e = 0) (e2 : (rAtom l p (m + 1)).v = rv) (e3 : (rAtom l p (m + 1)).p = rp)
    (h : Del l st rv rp (m + 1) r) : Mach l st p m r := by
  cases st with
  | nil =>
    have e4 := rAtom_n e1
    have h0 : r = rAtom l p (m + 1) := by
      unfold Del at h
      rw [h, ← e2, ← e3]
      generalize rAtom l p (m + 1) = R at *
      cases R
      simp only at e1 e4 ⊢
      rw [e1, e4]
    rw [h0]
    exact Mach.atom k1 k2 k3 hm1 e1
  | cons ks st =>
    refine Mach.more k1 k2 k3 hm1 e1 ?_
    rw [e2, e3]
    exact h
theorem del_close {l : List UInt8} {st : List (List Sx)} {p m : Nat} {ks : List Sx} {r : RV} (k1 : p < l.length) (k2 : l.getD p 0 = 41) (h : Del l st (.mk true false [] [] ks) (p + 1) m r) : Mach l (ks :: st) p m r := by
  cases st with
  | nil =>
    unfold Del at h
    rw [h]
    exact Mach.close k1 k2
  | cons kt st => exact Mach.closes k1 k2 h
/-- next: a fault, a list that begins, or a value -/
def NextP (g q : Nat) (a : Option Addr) (n c : Nat) (l : List UInt8) (p m : Nat) (L : Nat → Lev) (d : Nat) (w : World) (e : Ending) (w' : World) : Prop :=
  But (fun k => k = g ∨ q < k) w w' ∧ ((∃ r : RV, r.e ≠ 0 ∧ e = FaultE r.p r.e ∧ Mach l (stk L d) p m r) ∨
    (∃ ao co, e = .returned (.tuple #[.agg #[.bool false, .bool false, .slice none 0 0, .slice none 0 0, .slice none 0 0], .bool false]) ∧ p + 1 ≤ n ∧ m + 1 ≤ 512 ∧ d + 1 ≤ 16 ∧ Box w' g 88 (RdC a n c (p + 1) (m + 1) (.slice ao (d + 1) co)) ∧ Stt w' q (.slice ao (d + 1) co) (updL L d Lev.new) (d + 1) ∧
      ∀ r, Mach l (stk (updL L d Lev.new) (d + 1)) (p + 1) (m + 1) r → Mach l (stk L d) p m r) ∨
    (∃ (v : SV) (s : Sx) (p' m' d' : Nat) (ao : Option Addr) (co : Nat), e = .returned (.tuple #[v.val, .bool true]) ∧ p < p' ∧ p' ≤ n ∧ m' ≤ 512 ∧ d' ≤ d ∧ Box w' g 88 (RdC a n c p' m' (.slice ao d' co)) ∧ Stt w' q (.slice ao d' co) L d' ∧
      RdI (okT q (.slice ao d' co) L d') w' v s ∧ ∀ r, Del l (stk L d') s p' m' r → Mach l (stk L d) p m r))

/-- the state while next runs -/
structure Nx (w u : World) (g q : Nat) (a : Option Addr) (n c : Nat) (l : List UInt8) (p m : Nat) (vo : Value) (L : Nat → Lev) (d : Nat) : Prop where
  X : Box u w.heap.size 26 #[.bool false, .bool false, .slice none 0 0, .slice none 0 0, .slice none 0 0]
  R : Box u g 88 (RdC a n c p m vo)
  S : Stt u q vo L d
  sl : Sl u a n c l
  nb : But (fun k => k = g) w u
  hg : g < w.heap.size
  hq : g ≤ q
  hv : ∀ k, vo.ownBlock = some k → k < w.heap.size
section
variable {w u u' : World} {g q : Nat} {a : Option Addr} {n c : Nat} {l : List UInt8} {p m : Nat} {vo : Value} {L : Nat → Lev} {d : Nat}
theorem Nx.drewN (h : Nx w u g q a n c l p m vo L d) (k : Nat) : Nx w (u.drewN k) g q a n c l p m vo L d :=
  ⟨h.X, h.R, h.S.keep (Nat.le_refl _) (fun _ _ _ => rfl), h.sl.keep (.inr fun _ _ _ _ => rfl), h.nb.drewN k, h.hg, h.hq, h.hv⟩
theorem Nx.after (h : Nx w u g q a n c l p m vo L d) (hb : Below u.heap.size u u') : Nx w u' g q a n c l p m vo L d :=
  ⟨h.X.after hb, h.R.after hb, h.S.after hb, h.sl.after hb, h.nb.trans (But.ofBelow (S := fun _ => False) hb) (fun k hk => hk.elim), h.hg, h.hq, h.hv⟩
/-- the reader's block has changed -/
theorem Nx.but (h : Nx w u g q a n c l p m vo L d) (hi : InB (fun k => ¬ k = g) a n) (hb : But (fun k => k = g) u u') {p' m' : Nat} (hR : Box u' g 88 (RdC a n c p' m' vo)) : Nx w u' g q a n c l p' m' vo L d :=
  ⟨hb.box h.X (by have := h.hg; omega), hR, h.S.but hb (fun k hk => by have := h.hq; omega), h.sl.but hb hi (fun k hk => hk), h.nb.trans hb (fun k hk => .inl hk), h.hg, h.hq, h.hv⟩
theorem Nx.bel (h : Nx w u g q a n c l p m vo L d) : But (fun k => k = g ∨ q < k) w u := h.nb.mono fun k hk => .inl hk
/-- another new block has been written -/
theorem Nx.wrote (h : Nx w u g q a n c l p m vo L d) (hS : Stt w q vo L d) (hi : InB (fun k => ¬ k = g) a n) (ha : InB (fun k => k < w.heap.size) a n) {y : Nat} (hb : But (fun k => k = y) u u') (hy : w.heap.size < y) : Nx w u' g q a n c l p m vo L d :=
  have hnb : But (fun k => k = g) w u' := h.nb.trans hb (fun k hk => .inr (by omega))
  ⟨hb.box h.X (by omega), hb.box h.R (by have := h.hg; omega), hS.but hnb (fun k hk => by have := h.hq; omega), h.sl.but hb ha (fun k hk => by omega), hnb, h.hg, h.hq, h.hv⟩
theorem Nx.x0 (h : Nx w u g q a n c l p m vo L d) : u.cell? ⟨g, 0, none⟩ = some (.slice a n c) := h.R.cell 0 rfl
theorem Nx.x1 (h : Nx w u g q a n c l p m vo L d) : u.cell? ⟨g, 1, none⟩ = some (.int .i64 p) := h.R.cell 1 rfl
theorem Nx.x3 (h : Nx w u g q a n c l p m vo L d) : u.cell? ⟨g, 3, none⟩ = some vo := h.R.cell 3 rfl
theorem Nx.byte (h : Nx w u g q a n c l p m vo L d) {b o : Nat} (ha : a = some ⟨b, o, none⟩) (hp : p < n) : u.cell? ⟨b, o + p, none⟩ = some (.int .u8 ((l.getD p 0).toNat : Int)) := by
  subst ha
  rcases h.sl.2.2.2.2 with h0 | ⟨b', o', e, h4⟩
  · omega
  · cases e
    exact h4 p hp
theorem Nx.start {w : World} {g q : Nat} (hq : g ≤ q) (hX : Box w g 88 (RdC a n c p m vo)) (hS : Stt w q vo L d) (hs : Sl w a n c l) : Nx w (w.alloc (.cells #[.bool false, .bool false, .slice none 0 0, .slice none 0 0, .slice none 0 0] 26)) g q a n c l p m vo L d :=
  have B0 : Below w.heap.size w (w.alloc (.cells #[.bool false, .bool false, .slice none 0 0, .slice none 0 0, .slice none 0 0] 26)) := (Below.refl _ _).alloc (Nat.le_refl _) _
  ⟨Box.new w 26 #[.bool false, .bool false, .slice none 0 0, .slice none 0 0, .slice none 0 0], hX.after B0, hS.after B0, hs.after B0, But.ofBelow B0, hX.lt, hq, fun k e => (hS.own.lt k e).2⟩
end

set_option maxHeartbeats 8000000 in
set_option maxRecDepth 100000 in
theorem next_short (g q : Nat) (hq : g ≤ q) (a : Option Addr) (n c : Nat) (l : List UInt8) (p m : Nat) (ao : Option Addr) (d co : Nat) (L : Nat → Lev) (w : World) (hqw : q < w.heap.size) (hX : Box w g 88 (RdC a n c p m (.slice ao d co))) (hS : Stt w q (.slice ao d co) L d) (hs : Sl w a n c l)
    (hi : InB (fun k => ¬ k = g) a n) (hn : n ≤ 100000) (hp : p ≤ n) (hm : m ≤ 512) (hd : d ≤ 16) (hpn : n ≤ p) :
    Calls Tryz.prog 68 #[.pointer (some ⟨g, 0, none⟩)] w (NextP g q a n c l p m L d w) := by
  have HL := Lib.hid hs.1
  have hlen : n = l.length := hs.1
  have HI := Lib.hid hi
  have NX0 := Nx.start hq hX hS hs
  have HSW := Lib.hid hS
  have HA0 : Hid (InB (fun k => k < w.heap.size) a n) := Lib.hid hs.inB
  have HLE := Lib.hid hlen
  have hpI : (n : Int) ≤ (p : Int) := by omega
  clear hs hX hS hlen
  have x0 := NX0.x0
  have x1 := NX0.x1
  go_enter Tryz.func68, Tryz.ntmps68
  go_upto_region 1 with fail
  change Code.wp _ _ _ _ (w.alloc (.cells #[.bool false, .bool false, .slice none 0 0, .slice none 0 0, .slice none 0 0] 26))
  replace NX0 := Lib.hid NX0
  generalize (w.alloc (.cells #[.bool false, .bool false, .slice none 0 0, .slice none 0 0, .slice none 0 0] 26)) = u0 at *
  go_quiet (fail)
  go_wp2_with fail
  exact ⟨rfl, (NX0.out.drewN nq).bel, .inl ⟨RV.err l.length 2, by simp [RV.err], by rw [← HLE.out]; rfl, Mach.short (by have := HLE.out; omega)⟩⟩

set_option maxHeartbeats 8000000 in
set_option maxRecDepth 100000 in
theorem next_bad (g q : Nat) (hq : g ≤ q) (a : Option Addr) (n c : Nat) (l : List UInt8) (p m : Nat) (ao : Option Addr) (d co : Nat) (L : Nat → Lev) (w : World) (hqw : q < w.heap.size) (hX : Box w g 88 (RdC a n c p m (.slice ao d co))) (hS : Stt w q (.slice ao d co) L d) (hs : Sl w a n c l)
    (hi : InB (fun k => ¬ k = g) a n) (hn : n ≤ 100000) (hp : p ≤ n) (hm : m ≤ 512) (hd : d ≤ 16) (hpn : p < n) (hbyte : ¬ starts (l.getD p 0) ∧ (l.getD p 0 = 41 → d = 0)) :
    Calls Tryz.prog 68 #[.pointer (some ⟨g, 0, none⟩)] w (NextP g q a n c l p m L d w) := by
  have HL := Lib.hid hs.1
  have hlen : n = l.length := hs.1
  have HI := Lib.hid hi
  have NX0 := Nx.start hq hX hS hs
  have HSW := Lib.hid hS
  have HA0 : Hid (InB (fun k => k < w.heap.size) a n) := Lib.hid hs.inB
  obtain ⟨b, o, ha⟩ : ∃ b o, a = some ⟨b, o, none⟩ := by
    rcases hs.2.2.2.2 with h0 | ⟨b, o, e, _⟩
    · omega
    · exact ⟨b, o, e⟩
  have hpI : (p : Int) < (n : Int) := by omega
  have q0 := NX0.byte ha hpn
  obtain ⟨ch, hch⟩ : ∃ ch, ch = l.getD p 0 := ⟨_, rfl⟩
  rw [← hch] at q0
  rw [← hch] at hbyte
  have HCH := Lib.hid hch
  have HB := Lib.hid hbyte
  have HLE := Lib.hid hlen
  clear hs hX hS hch hlen hi
  subst ha
  have x0 := NX0.x0
  have x1 := NX0.x1
  replace NX0 := Lib.hid NX0
  have n40 : ch.toNat ≠ 40 := fun e => hbyte.1 (.inl (UInt8.toNat_inj.1 e))
  have n91 : ch.toNat ≠ 91 := fun e => hbyte.1 (.inr (.inl (UInt8.toNat_inj.1 e)))
  obtain ⟨z1, z2, z3⟩ := bNe (a := ch) 40 40 rfl n40
  obtain ⟨z4, z5, z6⟩ := bNe (a := ch) 91 91 rfl n91
  have nd : ¬ isD ch := fun e => hbyte.1 (.inr (.inr e))
  unfold isD at nd
  by_cases h41 : ch.toNat = 41
  case pos =>
    have hd0 : d = 0 := hbyte.2 (UInt8.toNat_inj.1 h41)
    have HD0 := Lib.hid hd0
    obtain ⟨y1, y2, y3⟩ := bEq (a := ch) 41 41 rfl h41
    have y4 : (ch.toNat : Int) < 48 := by omega
    subst hd0
    clear n40 n91 nd h41 hbyte
    go_enter Tryz.func68, Tryz.ntmps68
    go_upto_region 1 with fail
    change Code.wp _ _ _ _ (w.alloc (.cells #[.bool false, .bool false, .slice none 0 0, .slice none 0 0, .slice none 0 0] 26))
    generalize (w.alloc (.cells #[.bool false, .bool false, .slice none 0 0, .slice none 0 0, .slice none 0 0] 26)) = u0 at *
    go_quiet (fail)
    have NX1 := Lib.hid (NX0.out.drewN nq)
    have y0 := NX1.out.x0
    have y1 := NX1.out.x1
    have q1 : (u0.drewN nq).cell? ⟨b, o + p, none⟩ = some (.int .u8 (ch.toNat : Int)) := q0
    generalize u0.drewN nq = u1 at *
    clear NX0 x0 x1 q0
    go_upto_region 3 with fail
    go_quiet (fail)
    have NX2 := Lib.hid (NX1.out.drewN nq)
    have x1 := NX2.out.x1
    have x3 := NX2.out.x3
    generalize u1.drewN nq = u2 at *
    clear NX1 y0 y1 q1
    go_wp2_with fail
    exact ⟨rfl, NX2.out.bel, .inl ⟨RV.err p 3, by simp [RV.err], rfl, Mach.bad (by have := HLE.out; omega) (by rw [← HCH.out]; exact HB.out.1) (fun _ => rfl)⟩⟩
  obtain ⟨y1, y2, y3⟩ := bNe (a := ch) 41 41 rfl h41
  have ynd : (ch.toNat : Int) < 48 ∨ (57 : Int) < ch.toNat := by omega
  clear n40 n91 nd h41
  clear hbyte
  go_enter Tryz.func68, Tryz.ntmps68
  go_upto_region 1 with fail
  change Code.wp _ _ _ _ (w.alloc (.cells #[.bool false, .bool false, .slice none 0 0, .slice none 0 0, .slice none 0 0] 26))
  generalize (w.alloc (.cells #[.bool false, .bool false, .slice none 0 0, .slice none 0 0, .slice none 0 0] 26)) = u0 at *
  go_quiet (fail)
  have NX1 := Lib.hid (NX0.out.drewN nq)
  have y0 := NX1.out.x0
  have y1 := NX1.out.x1
  have q1 : (u0.drewN nq).cell? ⟨b, o + p, none⟩ = some (.int .u8 (ch.toNat : Int)) := q0
  generalize u0.drewN nq = u1 at *
  clear NX0 x0 x1 q0
  go_upto_region 3 with fail
  go_quiet (fail)
  have NX2 := Lib.hid (NX1.out.drewN nq)
  have x1 := NX2.out.x1
  have x3 := NX2.out.x3
  generalize u1.drewN nq = u2 at *
  clear NX1 y0 y1 q1
  rcases ynd with ynd | ynd
  · go_wp2_with fail
    exact ⟨rfl, NX2.out.bel, .inl ⟨RV.err p 3, by simp [RV.err], rfl, Mach.bad (by have := HLE.out; omega) (by rw [← HCH.out]; exact HB.out.1) (fun h => by
      have hd0 : d = 0 := HB.out.2 (by rw [HCH.out]; exact h)
      rw [hd0]
      rfl)⟩⟩
  · have ynd2 : ¬ (ch.toNat : Int) < 48 := by omega
    go_wp2_with fail
    exact ⟨rfl, NX2.out.bel, .inl ⟨RV.err p 3, by simp [RV.err], rfl, Mach.bad (by have := HLE.out; omega) (by rw [← HCH.out]; exact HB.out.1) (fun h => by
      have hd0 : d = 0 := HB.out.2 (by rw [HCH.out]; exact h)
      rw [hd0]
      rfl)⟩⟩

set_option maxHeartbeats 8000000 in
set_option maxRecDepth 100000 in
theorem next_atom (g q : Nat) (hq : g ≤ q) (a : Option Addr) (n c : Nat) (l : List UInt8) (p m : Nat) (ao : Option Addr) (d co : Nat) (L : Nat → Lev) (w : World) (hqw : q < w.heap.size) (hX : Box w g 88 (RdC a n c p m (.slice ao d co))) (hS : Stt w q (.slice ao d co) L d) (hs : Sl w a n c l)
    (hi : InB (fun k => ¬ k = g) a n) (hn : n ≤ 100000) (hp : p ≤ n) (hm : m ≤ 512) (hd : d ≤ 16) (hpn : p < n) (hbyte : starts (l.getD p 0) ∧ l.getD p 0 ≠ 40) :
    Calls Tryz.prog 68 #[.pointer (some ⟨g, 0, none⟩)] w (NextP g q a n c l p m L d w) := by
  have HL := Lib.hid hs.1
  have hlen : n = l.length := hs.1
  have HI := Lib.hid hi
  have NX0 := Nx.start hq hX hS hs
  have HSW := Lib.hid hS
  have HA0 : Hid (InB (fun k => k < w.heap.size) a n) := Lib.hid hs.inB
  obtain ⟨b, o, ha⟩ : ∃ b o, a = some ⟨b, o, none⟩ := by
    rcases hs.2.2.2.2 with h0 | ⟨b, o, e, _⟩
    · omega
    · exact ⟨b, o, e⟩
  have hpI : (p : Int) < (n : Int) := by omega
  have q0 := NX0.byte ha hpn
  obtain ⟨ch, hch⟩ : ∃ ch, ch = l.getD p 0 := ⟨_, rfl⟩
  rw [← hch] at q0
  rw [← hch] at hbyte
  have HCH := Lib.hid hch
  have HB := Lib.hid hbyte
  have HLE := Lib.hid hlen
  clear hs hX hS hch hlen hi
  subst ha
  have x0 := NX0.x0
  have x1 := NX0.x1
  replace NX0 := Lib.hid NX0
  have NLO := Lib.hid hbyte.2
  have HST : Hid (starts ch) := Lib.hid hbyte.1
  have HNL : Hid (ch ≠ 40) := Lib.hid hbyte.2
  have n40 : ch.toNat ≠ 40 := fun e => hbyte.2 (UInt8.toNat_inj.1 e)
  have n41 : ch.toNat ≠ 41 := fun e => starts_not41 hbyte.1 (UInt8.toNat_inj.1 e)
  obtain ⟨z1, z2, z3⟩ := bNe (a := ch) 40 40 rfl n40
  obtain ⟨z4, z5, z6⟩ := bNe (a := ch) 41 41 rfl n41
  have hcase : ch.toNat = 91 ∨ (ch.toNat ≠ 91 ∧ 48 ≤ ch.toNat ∧ ch.toNat ≤ 57) := by
    rcases hbyte.1 with h | h | h
    · exact absurd h hbyte.2
    · exact .inl (by rw [h]; rfl)
    · unfold isD at h; exact .inr ⟨by omega, h.1, h.2⟩
  clear n40 n41
  clear hbyte
  go_enter Tryz.func68, Tryz.ntmps68
  go_upto_region 1 with fail
  change Code.wp _ _ _ _ (w.alloc (.cells #[.bool false, .bool false, .slice none 0 0, .slice none 0 0, .slice none 0 0] 26))
  generalize (w.alloc (.cells #[.bool false, .bool false, .slice none 0 0, .slice none 0 0, .slice none 0 0] 26)) = u0 at *
  go_quiet (fail)
  have NX1 := Lib.hid (NX0.out.drewN nq)
  have y0 := NX1.out.x0
  have y1 := NX1.out.x1
  have q1 : (u0.drewN nq).cell? ⟨b, o + p, none⟩ = some (.int .u8 (ch.toNat : Int)) := q0
  generalize u0.drewN nq = u1 at *
  clear NX0 x0 x1 q0
  go_upto_region 3 with fail
  go_quiet (fail)
  have NX2 := Lib.hid (NX1.out.drewN nq)
  have x1 := NX2.out.x1
  have x3 := NX2.out.x3
  generalize u1.drewN nq = u2 at *
  clear NX1 y0 y1 q1
  rcases hcase with h91 | ⟨h91, hd1, hd2⟩
  · obtain ⟨k1, k2, k3⟩ := bEq (a := ch) 91 91 rfl h91
    go_wp2_with fail
    refine (begins_any g (some ⟨b, o, none⟩) n c p m ao d co false u2 NX2.out.R (by omega) (by omega)).mono ?_
    rintro e w3 ⟨b3, ⟨hov, rfl⟩ | ⟨hov, rfl, R3⟩⟩
    · unfold FaultE
      exact ⟨rfl, NX2.out.bel.trans b3 (fun k hk => .inl (.inl hk)), .inl ⟨RV.err p 4, by simp [RV.err], rfl, Mach.long (by have := HLE.out; omega) (by rw [← HCH.out]; exact HST.out) (.inl (hov.elim id (fun h => by cases h.1)))⟩⟩
    have NX3 := Lib.hid (NX2.out.but HI.out b3 R3)
    have hm1 : m + 1 ≤ 512 := by
      rcases Nat.lt_or_ge 512 (m + 1) with h | h
      · exact absurd (.inl h) hov
      · exact h
    clear b3 R3 hov NX2 x1 x3
    go_wp2_with fail
    refine (atomR_any g (some ⟨b, o, none⟩) n c l p (m + 1) (m + 1) (.slice ao d co) w3 NX3.out.R NX3.out.sl HI.out hn hpn).mono ?_
    rintro e w4 ⟨b4, ⟨h4, rfl⟩ | ⟨h4, v, rfl, rd4, R4⟩⟩
    · unfold FaultE
      exact ⟨rfl, NX3.out.bel.trans b4 (fun k hk => .inl (.inl hk)), .inl ⟨rAtom l p (m + 1), h4, rfl, Mach.fail (by have := HLE.out; omega) (by rw [← HCH.out]; exact HST.out) (by rw [← HCH.out]; exact HNL.out) hm1 h4⟩⟩
    obtain ⟨r, hr⟩ : ∃ r, r = rAtom l p (m + 1) := ⟨_, rfl⟩
    have HRA := Lib.hid hr
    rw [← hr] at h4 rd4 R4
    have NX4 := NX3.out.but HI.out b4 R4
    have hpl := St_place (l := l) (p := p) (lv := 1) (n := m) (r := r) (by rw [hr]; exact St.atom (by have := HLE.out; omega) (by rw [← HCH.out]; exact HST.out) (by rw [← HCH.out]; exact HNL.out) hm1) h4 (by omega) hm
    have HPL := Lib.hid hpl
    have hz4 := b4.size
    have hz3 := NX3.out.X.lt
    have HRR := Lib.hid rd4
    have H4 := Lib.hid h4
    replace NX4 := Lib.hid NX4
    clear rd4 hr R4 b4 NX3 hpl h4
    obtain ⟨rv, rp, rn, re⟩ := r
    dsimp only at HRR NX4 HPL H4
    obtain ⟨vl, vh, a1, n1, c1, a2, n2, c2, a3, n3, c3⟩ := v
    unfold SV.val
    have hgl := NX4.out.hg
    have hql := hqw
    go_wp2_with (refine wpList_store_box (cells := #[.bool vl, .bool vh, .slice a1 n1 c1, .slice a2 n2 c2, .slice a3 n3 c3]) rfl 26 _ _ rfl NX4.out.X (by rfl) (by rfl) rfl (by kernel_rfl) (by simp [Value.oneCell']) ?_; intro u9 X9 st9)
    have b9 : But (fun k => k = w.heap.size) w4 u9 := But.ofStored st9 (st9.below 0 w4 (Nat.zero_le _) (Below.refl _ _))
    have nb9 : But (fun k => k = g) w u9 := NX4.out.nb.trans b9 (fun k hk => .inr (by omega))
    have R9 := b9.box NX4.out.R (by omega)
    refine bodyPost_ret (v := .tuple #[.agg #[.bool vl, .bool vh, .slice a1 n1 c1, .slice a2 n2 c2, .slice a3 n3 c3], .bool true]) (box_result2 (p := 2) (q := 3) rfl _ _ (by rfl) X9 Tryz.underlying26 rfl (by kernel_rfl)) rfl ⟨nb9.mono (fun k hk => .inl hk), .inr (.inr ⟨⟨vl, vh, a1, n1, c1, a2, n2, c2, a3, n3, c3⟩, rv, rp, m + 1, d, ao, co, rfl, HPL.out.1, by have := HLE.out; have := HPL.out.2.1; omega, hm1, Nat.le_refl _, R9, HSW.out.but nb9 (fun k hk => by omega), (HRR.out.but b9 (fun k hk e => by omega)).mono (fun k hk => okT_new HSW.out hql (by omega)), fun r hdel => ?_⟩)⟩
    have e1 : (rAtom l p (m + 1)).e = 0 := by rw [← HRA.out]; exact H4.out
    have e2 : (rAtom l p (m + 1)).v = rv := by rw [← HRA.out]
    have e3 : (rAtom l p (m + 1)).p = rp := by rw [← HRA.out]
    have e4 : (rAtom l p (m + 1)).n = m + 1 := rAtom_n e1
    have k1 : p < l.length := by have := HLE.out; omega
    have k2 : starts (l.getD p 0) := by rw [← HCH.out]; exact HST.out
    have k3 : l.getD p 0 ≠ 40 := by rw [← HCH.out]; exact HNL.out
    exact del_atom k1 k2 k3 hm1 e1 e2 e3 hdel
  · obtain ⟨k1, k2, k3⟩ := bNe (a := ch) 91 91 rfl h91
    have k4 : (48 : Int) ≤ ch.toNat := by omega
    have k5 : (ch.toNat : Int) ≤ 57 := by omega
    go_wp2_with fail
    refine (begins_any g (some ⟨b, o, none⟩) n c p m ao d co false u2 NX2.out.R (by omega) (by omega)).mono ?_
    rintro e w3 ⟨b3, ⟨hov, rfl⟩ | ⟨hov, rfl, R3⟩⟩
    · unfold FaultE
      exact ⟨rfl, NX2.out.bel.trans b3 (fun k hk => .inl (.inl hk)), .inl ⟨RV.err p 4, by simp [RV.err], rfl, Mach.long (by have := HLE.out; omega) (by rw [← HCH.out]; exact HST.out) (.inl (hov.elim id (fun h => by cases h.1)))⟩⟩
    have NX3 := Lib.hid (NX2.out.but HI.out b3 R3)
    have hm1 : m + 1 ≤ 512 := by
      rcases Nat.lt_or_ge 512 (m + 1) with h | h
      · exact absurd (.inl h) hov
      · exact h
    clear b3 R3 hov NX2 x1 x3
    go_wp2_with fail
    refine (atomR_any g (some ⟨b, o, none⟩) n c l p (m + 1) (m + 1) (.slice ao d co) w3 NX3.out.R NX3.out.sl HI.out hn hpn).mono ?_
    rintro e w4 ⟨b4, ⟨h4, rfl⟩ | ⟨h4, v, rfl, rd4, R4⟩⟩
    · unfold FaultE
      exact ⟨rfl, NX3.out.bel.trans b4 (fun k hk => .inl (.inl hk)), .inl ⟨rAtom l p (m + 1), h4, rfl, Mach.fail (by have := HLE.out; omega) (by rw [← HCH.out]; exact HST.out) (by rw [← HCH.out]; exact HNL.out) hm1 h4⟩⟩
    obtain ⟨r, hr⟩ : ∃ r, r = rAtom l p (m + 1) := ⟨_, rfl⟩
    have HRA := Lib.hid hr
    rw [← hr] at h4 rd4 R4
    have NX4 := NX3.out.but HI.out b4 R4
    have hpl := St_place (l := l) (p := p) (lv := 1) (n := m) (r := r) (by rw [hr]; exact St.atom (by have := HLE.out; omega) (by rw [← HCH.out]; exact HST.out) (by rw [← HCH.out]; exact HNL.out) hm1) h4 (by omega) hm
    have HPL := Lib.hid hpl
    have hz4 := b4.size
    have hz3 := NX3.out.X.lt
    have HRR := Lib.hid rd4
    have H4 := Lib.hid h4
    replace NX4 := Lib.hid NX4
    clear rd4 hr R4 b4 NX3 hpl h4
    obtain ⟨rv, rp, rn, re⟩ := r
    dsimp only at HRR NX4 HPL H4
    obtain ⟨vl, vh, a1, n1, c1, a2, n2, c2, a3, n3, c3⟩ := v
    unfold SV.val
    have hgl := NX4.out.hg
    have hql := hqw
    go_wp2_with (refine wpList_store_box (cells := #[.bool vl, .bool vh, .slice a1 n1 c1, .slice a2 n2 c2, .slice a3 n3 c3]) rfl 26 _ _ rfl NX4.out.X (by rfl) (by rfl) rfl (by kernel_rfl) (by simp [Value.oneCell']) ?_; intro u9 X9 st9)
    have b9 : But (fun k => k = w.heap.size) w4 u9 := But.ofStored st9 (st9.below 0 w4 (Nat.zero_le _) (Below.refl _ _))
    have nb9 : But (fun k => k = g) w u9 := NX4.out.nb.trans b9 (fun k hk => .inr (by omega))
    have R9 := b9.box NX4.out.R (by omega)
    refine bodyPost_ret (v := .tuple #[.agg #[.bool vl, .bool vh, .slice a1 n1 c1, .slice a2 n2 c2, .slice a3 n3 c3], .bool true]) (box_result2 (p := 2) (q := 3) rfl _ _ (by rfl) X9 Tryz.underlying26 rfl (by kernel_rfl)) rfl ⟨nb9.mono (fun k hk => .inl hk), .inr (.inr ⟨⟨vl, vh, a1, n1, c1, a2, n2, c2, a3, n3, c3⟩, rv, rp, m + 1, d, ao, co, rfl, HPL.out.1, by have := HLE.out; have := HPL.out.2.1; omega, hm1, Nat.le_refl _, R9, HSW.out.but nb9 (fun k hk => by omega), (HRR.out.but b9 (fun k hk e => by omega)).mono (fun k hk => okT_new HSW.out hql (by omega)), fun r hdel => ?_⟩)⟩
    have e1 : (rAtom l p (m + 1)).e = 0 := by rw [← HRA.out]; exact H4.out
    have e2 : (rAtom l p (m + 1)).v = rv := by rw [← HRA.out]
    have e3 : (rAtom l p (m + 1)).p = rp := by rw [← HRA.out]
    have e4 : (rAtom l p (m + 1)).n = m + 1 := rAtom_n e1
    have k1 : p < l.length := by have := HLE.out; omega
    have k2 : starts (l.getD p 0) := by rw [← HCH.out]; exact HST.out
    have k3 : l.getD p 0 ≠ 40 := by rw [← HCH.out]; exact HNL.out
    exact del_atom k1 k2 k3 hm1 e1 e2 e3 hdel

end Go.Proofs.YtkbblhioncecmaaGreatDoor
namespace Go.Proofs.YtkbblhioncecmaaGreatDoor
open Go.RowKit
set_option linter.unusedSimpArgs false
set_option linter.unusedVariables false

/-- behind push -/
structure PF (w w' : World) (g q : Nat) (a : Option Addr) (n c p m : Nat) (vo v' : Value) (L : Nat → Lev) (d : Nat) : Prop where
  X : Box w' w.heap.size 26 #[.bool false, .bool false, .slice none 0 0, .slice none 0 0, .slice none 0 0]
  R : Box w' g 88 (RdC a n c p m v')
  S : Stt w' q v' L d
  B : But (fun k => k = g ∨ vo.ownBlock = some k) w w'
  v1 : ∀ k, v'.ownBlock = some k → vo.ownBlock = some k ∨ w.heap.size ≤ k
  v2 : ∀ k, v'.ownBlock = some k → k ≠ w.heap.size
  hg : g < w.heap.size

set_option maxHeartbeats 8000000 in
set_option maxRecDepth 100000 in
theorem next_opens (g q : Nat) (hq : g ≤ q) (a : Option Addr) (n c : Nat) (l : List UInt8) (p m : Nat) (ao : Option Addr) (d co : Nat) (L : Nat → Lev) (w : World) (hqw : q < w.heap.size) (hX : Box w g 88 (RdC a n c p m (.slice ao d co))) (hS : Stt w q (.slice ao d co) L d) (hs : Sl w a n c l)
    (hi : InB (fun k => ¬ k = g) a n) (hn : n ≤ 100000) (hp : p ≤ n) (hm : m ≤ 512) (hd : d ≤ 16) (hpn : p < n) (hbyte : l.getD p 0 = 40) :
    Calls Tryz.prog 68 #[.pointer (some ⟨g, 0, none⟩)] w (NextP g q a n c l p m L d w) := by
  have HL := Lib.hid hs.1
  have hlen : n = l.length := hs.1
  have HI := Lib.hid hi
  have NX0 := Nx.start hq hX hS hs
  have HSW := Lib.hid hS
  have HA0 : Hid (InB (fun k => k < w.heap.size) a n) := Lib.hid hs.inB
  obtain ⟨b, o, ha⟩ : ∃ b o, a = some ⟨b, o, none⟩ := by
    rcases hs.2.2.2.2 with h0 | ⟨b, o, e, _⟩
    · omega
    · exact ⟨b, o, e⟩
  have hpI : (p : Int) < (n : Int) := by omega
  have q0 := NX0.byte ha hpn
  obtain ⟨ch, hch⟩ : ∃ ch, ch = l.getD p 0 := ⟨_, rfl⟩
  rw [← hch] at q0
  rw [← hch] at hbyte
  have HCH := Lib.hid hch
  have HB := Lib.hid hbyte
  have HLE := Lib.hid hlen
  clear hs hX hS hch hlen hi
  subst ha
  have x0 := NX0.x0
  have x1 := NX0.x1
  replace NX0 := Lib.hid NX0
  have H40 : Hid (ch = 40) := Lib.hid hbyte
  obtain ⟨z1, z2, z3⟩ := bEq (a := ch) 40 40 rfl (by rw [hbyte]; rfl)
  clear hbyte
  go_enter Tryz.func68, Tryz.ntmps68
  go_upto_region 1 with fail
  change Code.wp _ _ _ _ (w.alloc (.cells #[.bool false, .bool false, .slice none 0 0, .slice none 0 0, .slice none 0 0] 26))
  generalize (w.alloc (.cells #[.bool false, .bool false, .slice none 0 0, .slice none 0 0, .slice none 0 0] 26)) = u0 at *
  go_quiet (fail)
  have NX1 := Lib.hid (NX0.out.drewN nq)
  have y0 := NX1.out.x0
  have y1 := NX1.out.x1
  have q1 : (u0.drewN nq).cell? ⟨b, o + p, none⟩ = some (.int .u8 (ch.toNat : Int)) := q0
  generalize u0.drewN nq = u1 at *
  clear NX0 x0 x1 q0
  go_upto_region 3 with fail
  go_quiet (fail)
  have NX2 := Lib.hid (NX1.out.drewN nq)
  have x1 := NX2.out.x1
  have x3 := NX2.out.x3
  generalize u1.drewN nq = u2 at *
  clear NX1 y0 y1 q1
  go_wp2_with fail
  refine (begins_any g (some ⟨b, o, none⟩) n c p m ao d co true u2 NX2.out.R (by omega) (by omega)).mono ?_
  rintro e w3 ⟨b3, ⟨hov, rfl⟩ | ⟨hov, rfl, R3⟩⟩
  · unfold FaultE
    exact ⟨rfl, NX2.out.bel.trans b3 (fun k hk => .inl (.inl hk)), .inl ⟨RV.err p 4, by simp [RV.err], rfl, Mach.long (by have := HLE.out; omega) (by rw [← HCH.out, H40.out]; exact .inl rfl) (hov.imp id (fun h => ⟨by rw [← HCH.out]; exact H40.out, by rw [stk_length]; exact h.2⟩))⟩⟩
  have NX3 := Lib.hid (NX2.out.but HI.out b3 R3)
  have hm1 : m + 1 ≤ 512 := by
    rcases Nat.lt_or_ge 512 (m + 1) with h | h
    · exact absurd (.inl h) hov
    · exact h
  have hd1 : d + 1 ≤ 16 := by
    rcases Nat.lt_or_ge d 16 with h | h
    · omega
    · exact absurd (.inr ⟨rfl, h⟩) hov
  clear b3 R3 hov NX2 x1 x3
  have y1 := NX3.out.x1
  have f1 := NX3.out.R.frozen 1
  go_upto_region 7 with fail
  have NX4 := Lib.hid (NX3.out.but HI.out (but_set 1 (.int .i64 ((p : Int) + 1))) (NX3.out.R.set 1 _) : Nx w (w3.setCell ⟨g, 1, none⟩ (.int .i64 ((p : Int) + 1))) g q (some ⟨b, o, none⟩) n c l (p + 1) (m + 1) (.slice ao d co) L d)
  have IDX : Hid (∀ x : Nat, x = x) := Lib.hid fun x => rfl
  change Code.wp _ _ _ _ (w3.setCell ⟨g, 1, none⟩ (.int .i64 ((p : Int) + 1)))
  generalize w3.setCell ⟨g, 1, none⟩ (.int .i64 ((p : Int) + 1)) = u4 at *
  clear NX3 y1 f1
  have hKS : Keeps (fun w' => Nx w w' g q (some ⟨b, o, none⟩) n c l (p + 1) (m + 1) (.slice ao d co) L d) := fun w1 w2 h b => h.after b
  refine wp_region_W (w := u4) [7, 9, 12] (fun w' => Nx w w' g q (some ⟨b, o, none⟩) n c l (p + 1) (m + 1) (.slice ao d co) L d) rfl (NX4.out.after (Below.refl _ _).drew) ?_
  refine wpW_val 0 hKS rfl (by kernel_rfl) (by kernel_rfl) (by kernel_rfl) (by kernel_rfl) rfl (fun _ _ _ _ h => h) (.pointer (some ⟨g, 0, none⟩)) (fun w' h => by simp [go_sem]) ?_
  simp only [Act.put, List.setIfInBounds_toArray, List.set_cons_zero, List.set_cons_succ]
  refine wpW_val 1 hKS rfl (by kernel_rfl) (by kernel_rfl) (by kernel_rfl) (by kernel_rfl) rfl (fun _ _ _ _ h => h) (.pointer (some ⟨g, 0, none⟩)) (fun w' h => by simp [go_sem]) ?_
  simp only [Act.put, List.setIfInBounds_toArray, List.set_cons_zero, List.set_cons_succ]
  refine wpW_val 2 hKS rfl (by kernel_rfl) (by kernel_rfl) (by kernel_rfl) (by kernel_rfl) rfl (fun _ _ _ _ h => h) (.pointer (some ⟨g, 3, none⟩)) (fun w' h => by simp [go_sem]) ?_
  simp only [Act.put, List.setIfInBounds_toArray, List.set_cons_zero, List.set_cons_succ]
  refine wpW_val 3 hKS rfl (by kernel_rfl) (by kernel_rfl) (by kernel_rfl) (by kernel_rfl) rfl (fun _ _ _ _ h => h) (.slice ao d co) (fun w' h => by simp [go_sem, h.x3]) ?_
  simp only [Act.put, List.setIfInBounds_toArray, List.set_cons_zero, List.set_cons_succ]
  refine wpW_free 4 hKS rfl (by kernel_rfl) (by kernel_rfl) (by kernel_rfl) (by kernel_rfl) rfl (fun _ _ _ _ h => h) (.agg #[.bool true, .bool false, .slice none 0 0, .slice none 0 0, .slice none 0 0]) (fun w' => by simp [go_sem]) ?_
  simp only [Act.put, List.setIfInBounds_toArray, List.set_cons_zero, List.set_cons_succ]
  refine wpW_free 5 hKS rfl (by kernel_rfl) (by kernel_rfl) (by kernel_rfl) (by kernel_rfl) rfl (fun _ _ _ _ h => h) (.int .i64 d) (fun w' => by simp [go_sem]) ?_
  simp only [Act.put, List.setIfInBounds_toArray, List.set_cons_zero, List.set_cons_succ]
  refine wpW_one 6 rfl (by kernel_rfl) (by kernel_rfl) rfl ?_
  intro w5 b5 s5
  refine wp_of_run (.slice (some ⟨w5.heap.size, 0, none⟩) 1 1) (w5.alloc (.cells SV.nil.cells 26)) (by simp [go_sem]; rfl) ?_
  refine ⟨hKS _ _ s5 ((Below.refl _ _).alloc (Nat.le_refl _) _), ?_⟩
  simp only [Act.put, List.setIfInBounds_toArray, List.set_cons_zero, List.set_cons_succ]
  refine wpW_write 7 rfl (by kernel_rfl) (by kernel_rfl) rfl ?_
  intro w6 b6 s6
  have hsrc := src_box SV.nil ((Box.new w5 26 SV.nil.cells).after b6)
  refine wp_append_K _ _ rfl rfl s6.S.own rfl hsrc (by omega) (by have := s6.X.lt; omega) ?_
  intro v7 w7 ho7 hg7 hw7
  rw [newsK_snoc] at ho7
  obtain ⟨ao7, co7, rfl, _⟩ := ho7.row
  obtain ⟨b7, o7, rfl, hle7, hmx7⟩ := ho7.at_ (by omega)
  simp only [Act.put, List.setIfInBounds_toArray, List.set_cons_zero, List.set_cons_succ]
  refine wpU_val 8 keeps_true rfl (by kernel_rfl) (by kernel_rfl) (by kernel_rfl) rfl (fun _ _ _ _ h => h) (.pointer (some ⟨b7, o7 + d * 5, none⟩)) (fun w' h => by simp [go_sem]; intro hh; omega) ?_
  simp only [Act.put, List.setIfInBounds_toArray, List.set_cons_zero, List.set_cons_succ]
  refine wpU_val 10 keeps_true rfl (by kernel_rfl) (by kernel_rfl) (by kernel_rfl) rfl (fun _ _ _ _ h => h) (.pointer (some ⟨g, 0, none⟩)) (fun w' h => by simp [go_sem]) ?_
  simp only [Act.put, List.setIfInBounds_toArray, List.set_cons_zero, List.set_cons_succ]
  refine wpU_val 11 keeps_true rfl (by kernel_rfl) (by kernel_rfl) (by kernel_rfl) rfl (fun _ _ _ _ h => h) (.pointer (some ⟨g, 3, none⟩)) (fun w' h => by simp [go_sem]) ?_
  simp only [Act.put, List.setIfInBounds_toArray, List.set_cons_zero, List.set_cons_succ]
  have hB7 : ∀ W, Below w7.heap.size w7 W → Box W g 88 (RdC (some ⟨b, o, none⟩) n c (p + 1) (m + 1) (.slice ao d co)) := fun W hW => (push_end' hq s6.S s6.R hg7 hw7 ho7 hW (Below.refl _ _) (Below.refl _ _)).1
  have FIN : ∀ w10, But (fun k => k = g ∨ (Value.slice ao d co).ownBlock = some k) w6 w10 → Stt w10 q (.slice (some ⟨b7, o7, none⟩) (d + 1) co7) (updL L d Lev.new) (d + 1) → Box w10 g 88 (RdC (some ⟨b, o, none⟩) n c (p + 1) (m + 1) (.slice (some ⟨b7, o7, none⟩) (d + 1) co7)) → PF w w10 g q (some ⟨b, o, none⟩) n c (p + 1) (m + 1) (.slice ao d co) (.slice (some ⟨b7, o7, none⟩) (d + 1) co7) (updL L d Lev.new) (d + 1) := fun w10 B10 S10 R10 =>
    ⟨B10.box s6.X (by
      intro e
      rcases e with e | e
      · have := s6.hg; omega
      · have := s6.hv _ e; omega), R10, S10, (s6.nb.mono (fun k hk => .inl hk)).trans B10 (fun k hk => .inl hk), fun k e => (hw7 k e).imp id (fun h => Nat.le_trans s6.nb.size h), fun k e => (hw7 k e).elim (fun e => by have := s6.hv k e; omega) (fun h => by have := s6.X.lt; omega), s6.hg⟩
  refine wpU_two 9 12 rfl rfl (by kernel_rfl) rfl rfl ?_ ?_
  · intro w8 b8 _
    obtain ⟨hth, ho8⟩ := (ho7.after b8).setElem d (by omega) Lev.new.sv
    refine wp_store_elem 26 _ _ rfl b7 (o7 + d * 5) Lev.new.sv rfl rfl hth (by kernel_rfl) ?_
    refine ⟨trivial, ?_⟩
    simp only [Act.put, List.setIfInBounds_toArray, List.set_cons_zero, List.set_cons_succ]
    refine wpU_one 12 rfl (by kernel_rfl) rfl ?_
    intro w9 b9 _
    have R9 := (push_end hq s6.S s6.R hg7 hw7 ho7 b8 b9 (Below.refl _ _)).1
    refine wp_store_slice 24 _ _ rfl rfl rfl (R9.cell 3 rfl) (R9.frozen 3) (fun w => by simp [go_sem]) ?_
    refine ⟨trivial, ?_⟩
    simp only [Act.put, List.setIfInBounds_toArray, List.set_cons_zero, List.set_cons_succ]
    refine wpU_done (by kernel_rfl) ?_
    intro w10 b10 _
    obtain ⟨_, B10, S10, R10⟩ := push_end hq s6.S s6.R hg7 hw7 ho7 b8 b9 b10
    have HF := Lib.hid (FIN w10 B10 S10 R10)
    clear hKS b5 s5 b6 s6 hsrc ho7 hg7 hw7 hle7 hmx7 b8 hth ho8 b9 R9 b10 B10 S10 R10 FIN hB7 NX4
    have hgw := HF.out.hg
    go_wp2_with (refine wpList_store_box (cells := #[.bool false, .bool false, .slice none 0 0, .slice none 0 0, .slice none 0 0]) rfl 26 _ _ rfl HF.out.X (by rfl) (by rfl) rfl (by kernel_rfl) (by simp [Value.oneCell']) ?_; intro u9 X9 st9)
    have b9 : But (fun k => k = w.heap.size) w10 u9 := But.ofStored st9 (st9.below 0 w10 (Nat.zero_le _) (Below.refl _ _))
    have B9 : But (fun k => k = g ∨ (Value.slice ao d co).ownBlock = some k) w u9 := HF.out.B.trans b9 (fun k hk => .inr (by omega))
    have R9 := b9.box HF.out.R (by omega)
    have S9 := HSW.out.push B9.size (fun k hk hgk hvo => B9.block k hk (fun e => e.elim (fun e => by omega) hvo)) HF.out.v1 (HF.out.S.own.but b9 (fun k e hk => HF.out.v2 k e hk))
    exact bodyPost_ret (v := .tuple #[.agg #[.bool false, .bool false, .slice none 0 0, .slice none 0 0, .slice none 0 0], .bool false]) (box_result2 (p := 2) (q := 3) rfl _ _ (by rfl) X9 Tryz.underlying26 rfl (by kernel_rfl)) rfl ⟨B9.mono (fun k hk => hk.imp id (fun e => by have := HSW.out.own.lt k e; omega)), .inr (.inl ⟨_, _, rfl, by omega, hm1, hd1, R9, S9, fun r h => Mach.opens (by have := HLE.out; omega) (by rw [← HCH.out]; exact H40.out) hm1 (by rw [stk_length]; omega) (by rw [stk_upd] at h; exact h)⟩)⟩
  · intro w8 b8 _
    have R8 := hB7 w8 b8
    refine wp_store_slice 24 _ _ rfl rfl rfl (R8.cell 3 rfl) (R8.frozen 3) (fun w => by simp [go_sem]) ?_
    refine ⟨trivial, ?_⟩
    simp only [Act.put, List.setIfInBounds_toArray, List.set_cons_zero, List.set_cons_succ]
    refine wpU_one 9 rfl (by kernel_rfl) rfl ?_
    intro w9 b9 _
    obtain ⟨_, hth, _⟩ := push_end' hq s6.S s6.R hg7 hw7 ho7 b8 b9 (Below.refl _ _)
    refine wp_store_elem 26 _ _ rfl b7 (o7 + d * 5) Lev.new.sv rfl rfl hth (by kernel_rfl) ?_
    refine ⟨trivial, ?_⟩
    simp only [Act.put, List.setIfInBounds_toArray, List.set_cons_zero, List.set_cons_succ]
    refine wpU_done (by kernel_rfl) ?_
    intro w10 b10 _
    obtain ⟨_, _, B10, S10, R10⟩ := push_end' hq s6.S s6.R hg7 hw7 ho7 b8 b9 b10
    have HF := Lib.hid (FIN w10 B10 S10 R10)
    clear hKS b5 s5 b6 s6 hsrc ho7 hg7 hw7 hle7 hmx7 b8 hth b9 R8 b10 B10 S10 R10 FIN hB7 NX4
    have hgw := HF.out.hg
    go_wp2_with (refine wpList_store_box (cells := #[.bool false, .bool false, .slice none 0 0, .slice none 0 0, .slice none 0 0]) rfl 26 _ _ rfl HF.out.X (by rfl) (by rfl) rfl (by kernel_rfl) (by simp [Value.oneCell']) ?_; intro u9 X9 st9)
    have b9 : But (fun k => k = w.heap.size) w10 u9 := But.ofStored st9 (st9.below 0 w10 (Nat.zero_le _) (Below.refl _ _))
    have B9 : But (fun k => k = g ∨ (Value.slice ao d co).ownBlock = some k) w u9 := HF.out.B.trans b9 (fun k hk => .inr (by omega))
    have R9 := b9.box HF.out.R (by omega)
    have S9 := HSW.out.push B9.size (fun k hk hgk hvo => B9.block k hk (fun e => e.elim (fun e => by omega) hvo)) HF.out.v1 (HF.out.S.own.but b9 (fun k e hk => HF.out.v2 k e hk))
    exact bodyPost_ret (v := .tuple #[.agg #[.bool false, .bool false, .slice none 0 0, .slice none 0 0, .slice none 0 0], .bool false]) (box_result2 (p := 2) (q := 3) rfl _ _ (by rfl) X9 Tryz.underlying26 rfl (by kernel_rfl)) rfl ⟨B9.mono (fun k hk => hk.imp id (fun e => by have := HSW.out.own.lt k e; omega)), .inr (.inl ⟨_, _, rfl, by omega, hm1, hd1, R9, S9, fun r h => Mach.opens (by have := HLE.out; omega) (by rw [← HCH.out]; exact H40.out) hm1 (by rw [stk_length]; omega) (by rw [stk_upd] at h; exact h)⟩)⟩

set_option maxHeartbeats 8000000 in
set_option maxRecDepth 100000 in
theorem next_close (g q : Nat) (hq : g ≤ q) (a : Option Addr) (n c : Nat) (l : List UInt8) (p m : Nat) (ao : Option Addr) (d co : Nat) (L : Nat → Lev) (w : World) (hqw : q < w.heap.size) (hX : Box w g 88 (RdC a n c p m (.slice ao (d + 1) co))) (hS : Stt w q (.slice ao (d + 1) co) L (d + 1)) (hs : Sl w a n c l)
    (hi : InB (fun k => ¬ k = g) a n) (hn : n ≤ 100000) (hp : p ≤ n) (hm : m ≤ 512) (hd : d + 1 ≤ 16) (hpn : p < n) (hbyte : l.getD p 0 = 41) :
    Calls Tryz.prog 68 #[.pointer (some ⟨g, 0, none⟩)] w (NextP g q a n c l p m L (d + 1) w) := by
  have HL := Lib.hid hs.1
  have hlen : n = l.length := hs.1
  have HI := Lib.hid hi
  have NX0 := Nx.start hq hX hS hs
  have HSW := Lib.hid hS
  have HA0 : Hid (InB (fun k => k < w.heap.size) a n) := Lib.hid hs.inB
  obtain ⟨b, o, ha⟩ : ∃ b o, a = some ⟨b, o, none⟩ := by
    rcases hs.2.2.2.2 with h0 | ⟨b, o, e, _⟩
    · omega
    · exact ⟨b, o, e⟩
  have hpI : (p : Int) < (n : Int) := by omega
  have q0 := NX0.byte ha hpn
  obtain ⟨ch, hch⟩ : ∃ ch, ch = l.getD p 0 := ⟨_, rfl⟩
  rw [← hch] at q0
  rw [← hch] at hbyte
  have HCH := Lib.hid hch
  have HB := Lib.hid hbyte
  have HLE := Lib.hid hlen
  clear hs hX hS hch hlen hi
  subst ha
  have x0 := NX0.x0
  have x1 := NX0.x1
  replace NX0 := Lib.hid NX0
  have H41 : Hid (ch = 41) := Lib.hid hbyte
  obtain ⟨z1, z2, z3⟩ := bNe (a := ch) 40 40 rfl (by rw [hbyte]; decide)
  obtain ⟨z4, z5, z6⟩ := bEq (a := ch) 41 41 rfl (by rw [hbyte]; rfl)
  have hdI : (0 : Int) < (d : Int) + 1 := by omega
  clear hbyte
  go_enter Tryz.func68, Tryz.ntmps68
  go_upto_region 1 with fail
  change Code.wp _ _ _ _ (w.alloc (.cells #[.bool false, .bool false, .slice none 0 0, .slice none 0 0, .slice none 0 0] 26))
  generalize (w.alloc (.cells #[.bool false, .bool false, .slice none 0 0, .slice none 0 0, .slice none 0 0] 26)) = u0 at *
  go_quiet (fail)
  have NX1 := Lib.hid (NX0.out.drewN nq)
  have y0 := NX1.out.x0
  have y1 := NX1.out.x1
  have q1 : (u0.drewN nq).cell? ⟨b, o + p, none⟩ = some (.int .u8 (ch.toNat : Int)) := q0
  generalize u0.drewN nq = u1 at *
  clear NX0 x0 x1 q0
  go_upto_region 3 with fail
  go_quiet (fail)
  have NX2 := Lib.hid (NX1.out.drewN nq)
  have x1 := NX2.out.x1
  have x3 := NX2.out.x3
  generalize u1.drewN nq = u2 at *
  clear NX1 y0 y1 q1
  have f1 := NX2.out.R.frozen 1
  go_upto_region 11 with fail
  have NX4 := Lib.hid (NX2.out.but HI.out (but_set 1 (.int .i64 ((p : Int) + 1))) (NX2.out.R.set 1 _) : Nx w (u2.setCell ⟨g, 1, none⟩ (.int .i64 ((p : Int) + 1))) g q (some ⟨b, o, none⟩) n c l (p + 1) m (.slice ao (d + 1) co) L (d + 1))
  change Code.wp _ _ _ _ (u2.setCell ⟨g, 1, none⟩ (.int .i64 ((p : Int) + 1)))
  generalize u2.setCell ⟨g, 1, none⟩ (.int .i64 ((p : Int) + 1)) = u4 at *
  clear NX2 x1 x3 f1
  obtain ⟨bo, oo, rfl, hoc, hom⟩ := OwnG.at_ NX4.out.S.own (by omega)
  have hKS : Keeps (fun w' => Nx w w' g q (some ⟨b, o, none⟩) n c l (p + 1) m (.slice (some ⟨bo, oo, none⟩) (d + 1) co) L (d + 1)) := fun w1 w2 h b => h.after b
  have HLD : Hid (∀ w', Nx w w' g q (some ⟨b, o, none⟩) n c l (p + 1) m (.slice (some ⟨bo, oo, none⟩) (d + 1) co) L (d + 1) → w'.rangeAt bo (oo + d * 5) (L d).sv.cells.toList) := Lib.hid fun w' h => by
    obtain ⟨a', c', e', hrow, _⟩ := h.S.own.row
    cases e'
    exact hrow.rangeA (i := d) (by omega)
  refine wp_region_U (w := u4) (fun w' => Nx w w' g q (some ⟨b, o, none⟩) n c l (p + 1) m (.slice (some ⟨bo, oo, none⟩) (d + 1) co) L (d + 1)) rfl (NX4.out.after (Below.refl _ _).drew) ?_
  refine wpU_val 0 hKS rfl (by kernel_rfl) (by kernel_rfl) (by kernel_rfl) rfl (fun _ _ _ _ h => h) (.pointer (some ⟨g, 0, none⟩)) (fun w' h => by simp [go_sem]) ?_
  simp only [Act.put, List.setIfInBounds_toArray, List.set_cons_zero, List.set_cons_succ]
  refine wpU_val 1 hKS rfl (by kernel_rfl) (by kernel_rfl) (by kernel_rfl) rfl (fun _ _ _ _ h => h) (.pointer (some ⟨g, 0, none⟩)) (fun w' h => by simp [go_sem]) ?_
  simp only [Act.put, List.setIfInBounds_toArray, List.set_cons_zero, List.set_cons_succ]
  refine wpU_val 2 hKS rfl (by kernel_rfl) (by kernel_rfl) (by kernel_rfl) rfl (fun _ _ _ _ h => h) (.pointer (some ⟨g, 3, none⟩)) (fun w' h => by simp [go_sem]) ?_
  simp only [Act.put, List.setIfInBounds_toArray, List.set_cons_zero, List.set_cons_succ]
  refine wpU_val 3 hKS rfl (by kernel_rfl) (by kernel_rfl) (by kernel_rfl) rfl (fun _ _ _ _ h => h) (.slice (some ⟨bo, oo, none⟩) (d + 1) co) (fun w' h => by simp [go_sem, h.x3]) ?_
  simp only [Act.put, List.setIfInBounds_toArray, List.set_cons_zero, List.set_cons_succ]
  refine wpU_val 4 hKS rfl (by kernel_rfl) (by kernel_rfl) (by kernel_rfl) rfl (fun _ _ _ _ h => h) (.pointer (some ⟨g, 0, none⟩)) (fun w' h => by simp [go_sem]) ?_
  simp only [Act.put, List.setIfInBounds_toArray, List.set_cons_zero, List.set_cons_succ]
  refine wpU_val 5 hKS rfl (by kernel_rfl) (by kernel_rfl) (by kernel_rfl) rfl (fun _ _ _ _ h => h) (.pointer (some ⟨g, 0, none⟩)) (fun w' h => by simp [go_sem]) ?_
  simp only [Act.put, List.setIfInBounds_toArray, List.set_cons_zero, List.set_cons_succ]
  refine wpU_val 6 hKS rfl (by kernel_rfl) (by kernel_rfl) (by kernel_rfl) rfl (fun _ _ _ _ h => h) (.pointer (some ⟨g, 3, none⟩)) (fun w' h => by simp [go_sem]) ?_
  simp only [Act.put, List.setIfInBounds_toArray, List.set_cons_zero, List.set_cons_succ]
  refine wpU_val 7 hKS rfl (by kernel_rfl) (by kernel_rfl) (by kernel_rfl) rfl (fun _ _ _ _ h => h) (.slice (some ⟨bo, oo, none⟩) (d + 1) co) (fun w' h => by simp [go_sem, h.x3]) ?_
  simp only [Act.put, List.setIfInBounds_toArray, List.set_cons_zero, List.set_cons_succ]
  refine wpU_val 8 hKS rfl (by kernel_rfl) (by kernel_rfl) (by kernel_rfl) rfl (fun _ _ _ _ h => h) (.int .i64 ((d : Int) + 1)) (fun w' h => by simp [go_sem]) ?_
  simp only [Act.put, List.setIfInBounds_toArray, List.set_cons_zero, List.set_cons_succ]
  refine wpU_val 9 hKS rfl (by kernel_rfl) (by kernel_rfl) (by kernel_rfl) rfl (fun _ _ _ _ h => h) (.int .i64 d) (fun w' h => by simp [go_sem]; rw [IntKind.wrap_i64]; omega) ?_
  simp only [Act.put, List.setIfInBounds_toArray, List.set_cons_zero, List.set_cons_succ]
  refine wpU_val 10 hKS rfl (by kernel_rfl) (by kernel_rfl) (by kernel_rfl) rfl (fun _ _ _ _ h => h) (.pointer (some ⟨bo, oo + d * 5, none⟩)) (fun w' h => by simp [go_sem]; intro hh; omega) ?_
  simp only [Act.put, List.setIfInBounds_toArray, List.set_cons_zero, List.set_cons_succ]
  refine wpU_val 11 hKS rfl (by kernel_rfl) (by kernel_rfl) (by kernel_rfl) rfl (fun _ _ _ _ h => h) ((L d).sv.val) (fun w' h => run_load_sv _ rfl bo (oo + d * 5) rfl _ (HLD.out w' h)) ?_
  simp only [Act.put, List.setIfInBounds_toArray, List.set_cons_zero, List.set_cons_succ]
  refine wpU_one 12 rfl (by kernel_rfl) rfl ?_
  intro w5 b5 s5
  refine wp_alloc_new 26 rfl #[.bool false, .bool false, .slice none 0 0, .slice none 0 0, .slice none 0 0] (fun w => by simp [go_sem]) ?_
  intro y w6 Y6 hy6 b6
  refine ⟨hKS _ _ s5 b6, ?_⟩
  simp only [Act.put, List.setIfInBounds_toArray, List.set_cons_zero, List.set_cons_succ]
  have hyw : w.heap.size < y := Nat.lt_of_lt_of_le s5.X.lt hy6
  refine wpU_store_box (cells := #[.bool true, .bool false, .slice none 0 0, .slice none 0 0, .slice (L d).ta (L d).ks.length (L d).tc]) 13 rfl (by kernel_rfl) rfl 26 _ _ rfl Y6 (by rfl) (by rfl) rfl (by kernel_rfl) (by simp [Value.oneCell']) ?_
  intro w7 w8 b7 s7 Y8 st8
  have b78 : But (fun k => k = y) w7 w8 := But.ofStored st8 (st8.below 0 w7 (Nat.zero_le _) (Below.refl _ _))
  have s8 : Nx w w8 g q (some ⟨b, o, none⟩) n c l (p + 1) m (.slice (some ⟨bo, oo, none⟩) (d + 1) co) L (d + 1) := s7.wrote HSW.out HI.out HA0.out b78 hyw
  refine ⟨s8, ?_⟩
  simp only [Act.put, List.setIfInBounds_toArray, List.set_cons_zero, List.set_cons_succ]
  refine wpU_done (by kernel_rfl) ?_
  intro w9 b9 s9
  have NX9 := Lib.hid s9
  have HY9 := Lib.hid (Y8.after b9)
  clear hKS HLD b5 s5 Y6 hy6 b6 b7 s7 Y8 st8 b78 s8 b9 s9 NX4
  go_upto_region 12 with fail
  have hKS : Keeps (fun w' => Nx w w' g q (some ⟨b, o, none⟩) n c l (p + 1) m (.slice (some ⟨bo, oo, none⟩) (d + 1) co) L (d + 1)) := fun w1 w2 h b => h.after b
  refine wp_region_W (w := w9) [14] (fun w' => Nx w w' g q (some ⟨b, o, none⟩) n c l (p + 1) m (.slice (some ⟨bo, oo, none⟩) (d + 1) co) L (d + 1)) rfl (NX9.out.after (Below.refl _ _).drew) ?_
  refine wpW_val 0 hKS rfl (by kernel_rfl) (by kernel_rfl) (by kernel_rfl) (by kernel_rfl) rfl (fun _ _ _ _ h => h) (.pointer (some ⟨g, 0, none⟩)) (fun w' h => by simp [go_sem]) ?_
  simp only [Act.put, List.setIfInBounds_toArray, List.set_cons_zero, List.set_cons_succ]
  refine wpW_val 1 hKS rfl (by kernel_rfl) (by kernel_rfl) (by kernel_rfl) (by kernel_rfl) rfl (fun _ _ _ _ h => h) (.pointer (some ⟨g, 0, none⟩)) (fun w' h => by simp [go_sem]) ?_
  simp only [Act.put, List.setIfInBounds_toArray, List.set_cons_zero, List.set_cons_succ]
  refine wpW_val 2 hKS rfl (by kernel_rfl) (by kernel_rfl) (by kernel_rfl) (by kernel_rfl) rfl (fun _ _ _ _ h => h) (.pointer (some ⟨g, 0, none⟩)) (fun w' h => by simp [go_sem]) ?_
  simp only [Act.put, List.setIfInBounds_toArray, List.set_cons_zero, List.set_cons_succ]
  refine wpW_val 3 hKS rfl (by kernel_rfl) (by kernel_rfl) (by kernel_rfl) (by kernel_rfl) rfl (fun _ _ _ _ h => h) (.pointer (some ⟨g, 3, none⟩)) (fun w' h => by simp [go_sem]) ?_
  simp only [Act.put, List.setIfInBounds_toArray, List.set_cons_zero, List.set_cons_succ]
  refine wpW_val 4 hKS rfl (by kernel_rfl) (by kernel_rfl) (by kernel_rfl) (by kernel_rfl) rfl (fun _ _ _ _ h => h) (.slice (some ⟨bo, oo, none⟩) (d + 1) co) (fun w' h => by simp [go_sem, h.x3]) ?_
  simp only [Act.put, List.setIfInBounds_toArray, List.set_cons_zero, List.set_cons_succ]
  refine wpW_val 5 hKS rfl (by kernel_rfl) (by kernel_rfl) (by kernel_rfl) (by kernel_rfl) rfl (fun _ _ _ _ h => h) (.pointer (some ⟨g, 0, none⟩)) (fun w' h => by simp [go_sem]) ?_
  simp only [Act.put, List.setIfInBounds_toArray, List.set_cons_zero, List.set_cons_succ]
  refine wpW_val 6 hKS rfl (by kernel_rfl) (by kernel_rfl) (by kernel_rfl) (by kernel_rfl) rfl (fun _ _ _ _ h => h) (.pointer (some ⟨g, 0, none⟩)) (fun w' h => by simp [go_sem]) ?_
  simp only [Act.put, List.setIfInBounds_toArray, List.set_cons_zero, List.set_cons_succ]
  refine wpW_val 7 hKS rfl (by kernel_rfl) (by kernel_rfl) (by kernel_rfl) (by kernel_rfl) rfl (fun _ _ _ _ h => h) (.pointer (some ⟨g, 3, none⟩)) (fun w' h => by simp [go_sem]) ?_
  simp only [Act.put, List.setIfInBounds_toArray, List.set_cons_zero, List.set_cons_succ]
  refine wpW_val 8 hKS rfl (by kernel_rfl) (by kernel_rfl) (by kernel_rfl) (by kernel_rfl) rfl (fun _ _ _ _ h => h) (.slice (some ⟨bo, oo, none⟩) (d + 1) co) (fun w' h => by simp [go_sem, h.x3]) ?_
  simp only [Act.put, List.setIfInBounds_toArray, List.set_cons_zero, List.set_cons_succ]
  refine wpW_val 9 hKS rfl (by kernel_rfl) (by kernel_rfl) (by kernel_rfl) (by kernel_rfl) rfl (fun _ _ _ _ h => h) (.int .i64 ((d : Int) + 1)) (fun w' h => by simp [go_sem]) ?_
  simp only [Act.put, List.setIfInBounds_toArray, List.set_cons_zero, List.set_cons_succ]
  refine wpW_val 10 hKS rfl (by kernel_rfl) (by kernel_rfl) (by kernel_rfl) (by kernel_rfl) rfl (fun _ _ _ _ h => h) (.int .i64 d) (fun w' h => by simp [go_sem]; rw [IntKind.wrap_i64]; omega) ?_
  simp only [Act.put, List.setIfInBounds_toArray, List.set_cons_zero, List.set_cons_succ]
  refine wpW_val 11 hKS rfl (by kernel_rfl) (by kernel_rfl) (by kernel_rfl) (by kernel_rfl) rfl (fun _ _ _ _ h => h) (.slice (some ⟨bo, oo, none⟩) d co) (fun w' h => by simp [go_sem]; intro hh; omega) ?_
  simp only [Act.put, List.setIfInBounds_toArray, List.set_cons_zero, List.set_cons_succ]
  refine wpW_free 12 hKS rfl (by kernel_rfl) (by kernel_rfl) (by kernel_rfl) (by kernel_rfl) rfl (fun _ _ _ _ h => h) (.pointer (some ⟨g, 0, none⟩)) (fun w' => by simp [go_sem]) ?_
  simp only [Act.put, List.setIfInBounds_toArray, List.set_cons_zero, List.set_cons_succ]
  refine wpW_free 13 hKS rfl (by kernel_rfl) (by kernel_rfl) (by kernel_rfl) (by kernel_rfl) rfl (fun _ _ _ _ h => h) (.pointer (some ⟨g, 3, none⟩)) (fun w' => by simp [go_sem]) ?_
  simp only [Act.put, List.setIfInBounds_toArray, List.set_cons_zero, List.set_cons_succ]
  refine wpW_write 14 rfl (by kernel_rfl) (by kernel_rfl) rfl ?_
  intro w10 b10 s10
  refine wp_store_slice 24 _ _ rfl rfl rfl (s10.R.cell 3 rfl) (s10.R.frozen 3) (fun w => by simp [go_sem]) ?_
  simp only [Act.put, List.setIfInBounds_toArray, List.set_cons_zero, List.set_cons_succ]
  refine wpU_done (by kernel_rfl) ?_
  intro w11 b11 _
  have B10 : But (fun k => k = g) w10 w11 := (but_set 3 (.slice (some ⟨bo, oo, none⟩) d co)).trans (But.ofBelow (S := fun _ => False) b11) (fun k hk => hk.elim)
  have R11 : Box w11 g 88 (RdC (some ⟨b, o, none⟩) n c (p + 1) m (.slice (some ⟨bo, oo, none⟩) d co)) := (s10.R.set 3 (.slice (some ⟨bo, oo, none⟩) d co)).after b11
  have HR11 := Lib.hid R11
  have HX11 := Lib.hid (B10.box s10.X (by have := s10.hg; omega))
  have nb11 := s10.nb.trans B10 (fun k hk => .inl hk)
  have HNB := Lib.hid nb11
  have HY11 := Lib.hid (B10.box (HY9.out.after ((Below.refl _ _).drew.trans b10)) (by have := s10.hg; omega))
  have hgw := s10.hg
  clear hKS b10 s10 b11 B10 R11 nb11 NX9 HY9
  go_wp2_with first | (refine wpList_load_box rfl 26 _ rfl HY11.out (by rfl) Tryz.underlying26 rfl (by kernel_rfl) ?_) | (refine wpList_store_box (cells := #[.bool true, .bool false, .slice none 0 0, .slice none 0 0, .slice (L d).ta (L d).ks.length (L d).tc]) rfl 26 _ _ rfl HX11.out (by rfl) (by rfl) rfl (by kernel_rfl) (by simp [Value.oneCell']) ?_; intro u9 X9 st9)
  have b9 : But (fun k => k = w.heap.size) w11 u9 := But.ofStored st9 (st9.below 0 w11 (Nat.zero_le _) (Below.refl _ _))
  have nb9 : But (fun k => k = g) w u9 := HNB.out.trans b9 (fun k hk => .inr (by omega))
  have R9 := b9.box HR11.out (by omega)
  obtain ⟨S9, RD9⟩ := HSW.out.pop (v' := .slice (some ⟨bo, oo, none⟩) d co) nb9.size (fun k hk hgk => nb9.block k hk (by omega)) (fun k e => by simpa [Value.ownBlock] using e) ((HSW.out.own.popK).keep nb9.size (fun k e => nb9.block k ((HSW.out.own.lt k (by simpa [Value.ownBlock] using e)).2) (by have := (HSW.out.own.lt k (by simpa [Value.ownBlock] using e)).1; omega)))
  exact bodyPost_ret (v := .tuple #[.agg #[.bool true, .bool false, .slice none 0 0, .slice none 0 0, .slice (L d).ta (L d).ks.length (L d).tc], .bool true]) (box_result2 (p := 2) (q := 3) rfl _ _ (by rfl) X9 Tryz.underlying26 rfl (by kernel_rfl)) rfl ⟨nb9.mono (fun k hk => .inl hk), .inr (.inr ⟨(L d).sv, _, p + 1, m, d, _, _, rfl, by omega, by omega, hm, Nat.le_succ _, R9, S9, RD9, fun r hdel => del_close (by have := HLE.out; omega) (by rw [← HCH.out]; exact H41.out) hdel⟩)⟩

end Go.Proofs.YtkbblhioncecmaaGreatDoor

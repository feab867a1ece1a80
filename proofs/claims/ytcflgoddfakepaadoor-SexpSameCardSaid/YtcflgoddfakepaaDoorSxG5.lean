/- The document's bytes: what it computes. The document's atom: what it computes. The document's value: what it computes. The document's Get: what it answers. The reader as a machine with a stack of open lists: plain. What Get answers, for what is a form, cut off, or has more behind it: plain. Clones of bytes: what they compute. The program's reader: sign, begins: what they compute. -/
import Derived.Test.YtcflgoddfakepaaDoorSxG4
import Derived.Recover
namespace Go.Proofs.YtcflgoddfakepaaDoor
open Go.RowKit
set_option linter.unusedSimpArgs false
set_option linter.unusedVariables false

def BytesP (ok : Nat → Prop) (r : List UInt8 × Nat × Nat) (w : World) (e : Ending) (w' : World) : Prop :=
  ∃ a n c, e = .returned (.tuple #[.slice a n c, .int .i64 r.2.1, .int .i64 r.2.2]) ∧ Sl w' a n c r.1 ∧ InB ok a n ∧ Below w.heap.size w w'

theorem slCut {w : World} {b o n c : Nat} {l : List UInt8} (h : Sl w (some ⟨b, o, none⟩) n c l) (lo m : Nat) (hm : lo + m ≤ n) :
    (c ≠ lo → Sl w (some ⟨b, o + lo, none⟩) m (c - lo) ((l.drop lo).take m)) ∧ (c = lo → Sl w (some ⟨b, o, none⟩) m 0 ((l.drop lo).take m)) := by
  have h1 := (h.take (lo + m) hm).drop lo (by omega)
  rw [Nat.add_sub_cancel_left, show (l.take (lo + m)).drop lo = (l.drop lo).take m by rw [List.drop_take]; congr 1; omega] at h1
  refine ⟨fun e => by rwa [if_neg e] at h1, fun e => ?_⟩
  subst e
  rwa [if_pos rfl, Nat.sub_self] at h1
theorem Sl.keepB {w w2 u : World} {a : Option Addr} {n c : Nat} {l : List UInt8} (h : Sl w2 a n c l) (hi : InB (fun k => k < w.heap.size) a n) (b2 : Below w.heap.size w w2) (bu : Below w.heap.size w u) : Sl u a n c l :=
  h.keep (hi.imp id fun h b o s e => (bu.block b (h b o s e)).trans (b2.block b (h b o s e)).symm)
theorem bytesP_yes {ok : Nat → Prop} {R : List UInt8 × Nat × Nat} {L : List UInt8} {q : Nat} {z : Int} (h : R = (L, q, 0)) (hz : z = (q : Int)) {w w' : World} {a : Option Addr} {n c : Nat} (hs : Sl w' a n c L) (hi : InB ok a n) (hb : Below w.heap.size w w') : BytesP ok R w (.returned (.tuple #[.slice a n c, .int .i64 z, .int .i64 0])) w' := by
  subst h hz
  exact ⟨_, _, _, rfl, hs, hi, hb⟩
theorem bytesP_no {ok : Nat → Prop} {R : List UInt8 × Nat × Nat} {q e : Nat} (h : R = ([], q, e)) {w w' : World} (g : Nat) (hb : Below w.heap.size w w') : BytesP ok R w (.returned (.tuple #[.slice (some ⟨g, 0, none⟩) 0 0, .int .i64 q, .int .i64 e])) w' := by
  subst h
  exact ⟨_, _, _, rfl, ⟨rfl, Nat.le_refl _, Nat.zero_le _, (fun h => by cases h), .inl rfl⟩, .inl rfl, hb⟩

set_option maxHeartbeats 4000000 in
set_option maxRecDepth 100000 in
theorem refBytes_any (ok : Nat → Prop) (a : Option Addr) (n c : Nat) (l : List UInt8) (p : Nat) (w : World) (hs : Sl w a n c l) (hi : InB ok a n) (hn : n ≤ 1000000) (hp : p ≤ n) :
    Calls Tryd.prog 44 #[.slice a n c, .int .i64 p] w (BytesP ok (rBytes l p) w) := by
  have HS := Lib.hid hs
  have hl := hs.1
  have hm := hs.2.1
  have hx := hs.2.2.1
  have HL := Lib.hid (Nat.le_of_eq hl)
  have HL' := Lib.hid (Nat.le_of_eq hl.symm)
  have CALL := Lib.hid (refLen_any a n c l p 4096 4096 w hs hn (by omega) (by omega) rfl (by omega))
  obtain ⟨R, hR⟩ : ∃ R, R = rBytes l p := ⟨_, rfl⟩
  rw [← hR]
  have HR := Lib.hid hR
  unfold maxLen at hx
  clear hs hR
  rcases lenR_cases l p 4096 with ⟨h1, e1⟩ | ⟨h1, h2, e1⟩ | ⟨h1, e1⟩ | ⟨k, m, hk, hpk, hmk, ht, e1⟩
  · have HE : Hid (R = ([], n, 2)) := Lib.hid (by rw [HR.out]; unfold rBytes; simp [e1, hl])
    rw [e1] at CALL
    clear e1 hl
    go_enter Tryd.func44, Tryd.ntmps44
    go_wp2_with fail
    refine CALL.out.mono ?_
    rintro e w1 ⟨rfl, hb1⟩
    have hz := hb1.size
    go_wp2_with fail
    go_ret3
    exact bytesP_no HE.out _ (hb1.alloc hz _)
  · have HE : Hid (R = ([], p, 3)) := Lib.hid (by rw [HR.out]; unfold rBytes; simp only [e1]; rw [if_neg (by omega), if_pos (by omega)]; rfl)
    rw [e1] at CALL
    clear e1 hl
    go_enter Tryd.func44, Tryd.ntmps44
    go_wp2_with fail
    refine CALL.out.mono ?_
    rintro e w1 ⟨rfl, hb1⟩
    have hz := hb1.size
    go_wp2_with fail
    go_ret3
    exact bytesP_no HE.out _ (hb1.alloc hz _)
  · have HE : Hid (R = ([], p, 4)) := Lib.hid (by rw [HR.out]; unfold rBytes; simp only [e1]; rw [if_neg (by omega), if_pos (by omega)]; rfl)
    rw [e1] at CALL
    clear e1 hl
    go_enter Tryd.func44, Tryd.ntmps44
    go_wp2_with fail
    refine CALL.out.mono ?_
    rintro e w1 ⟨rfl, hb1⟩
    have hz := hb1.size
    go_wp2_with fail
    go_ret3
    exact bytesP_no HE.out _ (hb1.alloc hz _)
  · rw [e1] at CALL
    have hpk' : p + k ≤ n := by omega
    obtain ⟨q, hq⟩ : ∃ q, q = p + k := ⟨_, rfl⟩
    rw [← hq] at CALL e1 hpk'
    by_cases h1 : n ≤ q
    · have HE : Hid (R = ([], n, 2)) := Lib.hid (by rw [HR.out]; unfold rBytes; simp only [e1, Int.toNat_natCast]; rw [if_neg (by omega), if_neg (by omega), if_pos (by omega), hl])
      clear e1 hl ht hq
      have h1' : ((n : Int) ≤ (q : Int)) := by omega
      go_enter Tryd.func44, Tryd.ntmps44
      go_wp2_with fail
      refine CALL.out.mono ?_
      rintro e w1 ⟨rfl, hb1⟩
      have hz := hb1.size
      go_wp2_with fail
      go_ret3
      exact bytesP_no HE.out _ (hb1.alloc hz _)
    · replace h1 : q < n := by omega
      obtain ⟨b, o, rfl, hc⟩ : ∃ b o, a = some ⟨b, o, none⟩ ∧ ∀ i, i < n → w.cell? ⟨b, o + i, none⟩ = some (.int .u8 ((l.getD i 0).toNat : Int)) := by
        rcases HS.out.2.2.2.2 with h0 | h0
        · omega
        · exact h0
      obtain ⟨ch, hch⟩ : ∃ ch, ch = l.getD q 0 := ⟨_, rfl⟩
      have hcq := hc q h1
      rw [← hch] at hcq
      have HC : Hid (∀ w', Below w.heap.size w w' → w'.cell? ⟨b, o + q, none⟩ = some (.int .u8 (ch.toNat : Int))) := Lib.hid fun w' hb => (hb.cell (p := ⟨b, o + q, none⟩) (cell_lt hcq)).trans hcq
      have h1' : ¬ ((n : Int) ≤ (q : Int)) := by omega
      clear hc hcq
      by_cases h58 : ch = 58
      · subst h58
        by_cases h3 : n - q - 1 < m
        · have HE : Hid (R = ([], n, 2)) := Lib.hid (by rw [HR.out]; unfold rBytes; simp only [e1, Int.toNat_natCast]; rw [if_neg (by omega), if_neg (by omega), if_neg (by omega), if_neg (by rw [← hch]; simp), if_pos (by omega), hl])
          have h3' : (n : Int) - (q : Int) - 1 < (m : Int) := by omega
          clear e1 hl ht hq hch
          go_enter Tryd.func44, Tryd.ntmps44
          go_wp2_with fail
          refine CALL.out.mono ?_
          rintro e w1 ⟨rfl, hb1⟩
          have hz := hb1.size
          have hcw := HC.out w1 hb1
          go_wp2_with fail
          go_ret3
          exact bytesP_no HE.out _ (hb1.alloc hz _)
        · have HE : Hid (R = ((l.drop (q + 1)).take m, q + 1 + m, 0)) := Lib.hid (by rw [HR.out]; unfold rBytes; simp only [e1, Int.toNat_natCast]; rw [if_neg (by omega), if_neg (by omega), if_neg (by omega), if_neg (by rw [← hch]; simp), if_neg (by omega)])
          have h3' : ¬ (n : Int) - (q : Int) - 1 < (m : Int) := by omega
          have hqm : q + 1 + m ≤ n := by omega
          clear e1 hl ht hq hch
          have hcut := slCut HS.out (q + 1) m hqm
          have hin2 : ∀ o' k', InB ok (some ⟨b, o', none⟩) k' := fun o' k' => by
            rcases hi with h0 | h0
            · omega
            · exact .inr fun b' o'' s e => by cases e; exact h0 _ _ _ rfl
          have HIN := Lib.hid hin2
          clear hin2
          have HCUT := Lib.hid hcut
          clear hcut
          by_cases hcq : c = q + 1
          · have HCQ := Lib.hid hcq
            subst hcq
            go_enter Tryd.func44, Tryd.ntmps44
            go_wp2_with fail
            refine CALL.out.mono ?_
            rintro e w1 ⟨rfl, hb1⟩
            have hz := hb1.size
            have hcw := HC.out w1 hb1
            go_wp2_with fail
            go_ret3
            exact bytesP_yes HE.out (by omega) (by have := (HCUT.out.2 (by trivial)).after hb1; first | exact this | (rw [show q + 1 + m - (q + 1) = m by omega]; exact this)) (HIN.out _ _) hb1
          · go_enter Tryd.func44, Tryd.ntmps44
            go_wp2_with fail
            refine CALL.out.mono ?_
            rintro e w1 ⟨rfl, hb1⟩
            have hz := hb1.size
            have hcw := HC.out w1 hb1
            go_wp2_with fail
            go_ret3
            exact bytesP_yes HE.out (by omega) (by have := (HCUT.out.1 hcq).after hb1; rw [show q + 1 + m - (q + 1) = m by omega]; exact this) (HIN.out _ _) hb1
      · have HE : Hid (R = ([], q, 3)) := Lib.hid (by rw [HR.out]; unfold rBytes; simp only [e1, Int.toNat_natCast]; rw [if_neg (by omega), if_neg (by omega), if_neg (by omega), if_pos (by rw [← hch]; exact h58)])
        have hne : ((ch.toNat : Int) == 58) = false := by
          rw [beq_eq_false_iff_ne]
          intro e
          apply h58
          rw [← UInt8.toNat_inj]
          exact Int.ofNat.inj e
        have hne2 : ((ch.toNat : Int) != 58) = true := by rw [bne, hne]; rfl
        clear e1 hl ht hq hch h58
        go_enter Tryd.func44, Tryd.ntmps44
        go_wp2_with fail
        refine CALL.out.mono ?_
        rintro e w1 ⟨rfl, hb1⟩
        have hz := hb1.size
        have hcw := HC.out w1 hb1
        go_wp2_with fail
        go_ret3
        exact bytesP_no HE.out _ (hb1.alloc hz _)
end Go.Proofs.YtcflgoddfakepaaDoor
namespace Go.Proofs.YtcflgoddfakepaaDoor
open Go.RowKit
set_option linter.unusedSimpArgs false
set_option linter.unusedVariables false

/-- what was read is handed back -/
def RP (ok : Nat → Prop) (r : RV) (w : World) (e : Ending) (w' : World) : Prop :=
  ∃ v : SV, e = .returned (.agg #[.bool v.l, .bool v.h, .slice v.a1 v.n1 v.c1, .slice v.a2 v.n2 v.c2, .slice v.a3 v.n3 v.c3, .int .i64 r.p, .int .i64 r.n, .int .i64 r.e]) ∧ RdI (fun k => ok k ∨ w.heap.size ≤ k) w' v r.v ∧ Below w.heap.size w w'
theorem rp_err {ok : Nat → Prop} {r : RV} {p e : Nat} (h : r = RV.err p e) {w w' : World} (hb : Below w.heap.size w w') : RP ok r w (.returned (.agg #[.bool false, .bool false, .slice none 0 0, .slice none 0 0, .slice none 0 0, .int .i64 p, .int .i64 0, .int .i64 e])) w' := by
  subst h
  exact ⟨SV.nil, rfl, rd_nil _ _, hb⟩
theorem rp_ok {ok : Nat → Prop} {r : RV} {s : Sx} {p n : Nat} (h : r = ⟨s, p, n, 0⟩) {w w' : World} (v : SV) (hr : RdI (fun k => ok k ∨ w.heap.size ≤ k) w' v s) (hb : Below w.heap.size w w') :
    RP ok r w (.returned (.agg #[.bool v.l, .bool v.h, .slice v.a1 v.n1 v.c1, .slice v.a2 v.n2 v.c2, .slice v.a3 v.n3 v.c3, .int .i64 p, .int .i64 n, .int .i64 0])) w' := by
  subst h
  exact ⟨v, rfl, hr, hb⟩
theorem byte_ne {a : UInt8} {k : Nat} (h : a.toNat ≠ k) : ((a.toNat : Int) == (k : Int)) = false ∧ ((a.toNat : Int) != (k : Int)) = true := by
  have h1 : ((a.toNat : Int) == (k : Int)) = false := beq_eq_false_iff_ne.2 (fun e => h (Int.ofNat.inj e))
  exact ⟨h1, by rw [bne, h1]; rfl⟩
theorem byte_eq {a : UInt8} {k : Nat} (h : a.toNat = k) : ((a.toNat : Int) == (k : Int)) = true ∧ ((a.toNat : Int) != (k : Int)) = false := by
  have h1 : ((a.toNat : Int) == (k : Int)) = true := beq_iff_eq.2 (by rw [h])
  exact ⟨h1, by rw [bne, h1]; rfl⟩
theorem nat_ne {a : Nat} (h : a ≠ 0) : ((a : Int) == 0) = false ∧ ((a : Int) != 0) = true := by
  have h1 : ((a : Int) == 0) = false := beq_eq_false_iff_ne.2 (by omega)
  exact ⟨h1, by rw [bne, h1]; rfl⟩
theorem rBytes_place {l b : List UInt8} {p q e : Nat} (h : rBytes l p = (b, q, e)) (hp : p ≤ l.length) : q ≤ l.length := (rBytes_err h hp).1
theorem rd_atomI {ok : Nat → Prop} {w : World} {a : Option Addr} {n c : Nat} {l : List UInt8} (h : Sl w a n c l) (hi : InB ok a n) : RdI ok w ⟨false, false, none, 0, 0, a, n, c, none, 0, 0⟩ (.mk false false [] l []) :=
  .mk _ [] l [] (fun _ => SV.nil) (Sl.nil w) (.inl rfl) h hi ⟨Nat.le_refl _, Nat.zero_le _, fun _ => rfl, .inl rfl⟩ (.inl rfl) rfl (fun i hi => by cases hi)
theorem rd_hint {ok : Nat → Prop} {w : World} {a1 a2 : Option Addr} {n1 c1 n2 c2 : Nat} {l1 l2 : List UInt8} (h : Sl w a1 n1 c1 l1) (h2 : Sl w a2 n2 c2 l2) (hi : InB ok a1 n1) (hi2 : InB ok a2 n2) : RdI ok w ⟨false, true, a1, n1, c1, a2, n2, c2, none, 0, 0⟩ (.mk false true l1 l2 []) :=
  .mk _ l1 l2 [] (fun _ => SV.nil) h hi h2 hi2 ⟨Nat.le_refl _, Nat.zero_le _, fun _ => rfl, .inl rfl⟩ (.inl rfl) rfl (fun i hi => by cases hi)

set_option maxHeartbeats 8000000 in
set_option maxRecDepth 100000 in
theorem refAtom_any (ok : Nat → Prop) (a : Option Addr) (n c : Nat) (l : List UInt8) (p m : Nat) (w : World) (hs : Sl w a n c l) (hi : InB ok a n) (hok : ∀ k, ok k → k < w.heap.size) (hn : n ≤ 100000) (hp : p < n) (hm : m ≤ 100000) :
    Calls Tryd.prog 40 #[.slice a n c, .int .i64 p, .int .i64 m] w (RP ok (rAtom l p m) w) := by
  have HS := Lib.hid hs
  have hl := hs.1
  have HL := Lib.hid (Nat.le_of_eq hl)
  have HL' := Lib.hid (Nat.le_of_eq hl.symm)
  obtain ⟨b, o, rfl, hc⟩ : ∃ b o, a = some ⟨b, o, none⟩ ∧ ∀ i, i < n → w.cell? ⟨b, o + i, none⟩ = some (.int .u8 ((l.getD i 0).toNat : Int)) := by
    rcases hs.2.2.2.2 with h0 | h0
    · omega
    · exact h0
  have HC : Hid (∀ i, i < n → ∀ w', Below w.heap.size w w' → w'.cell? ⟨b, o + i, none⟩ = some (.int .u8 ((l.getD i 0).toNat : Int))) := Lib.hid fun i hi w' hb => (hb.cell (p := ⟨b, o + i, none⟩) (cell_lt (hc i hi))).trans (hc i hi)
  have CB := Lib.hid (fun w' (q : Nat) (hb : Below w.heap.size w w') (hq : q ≤ n) => refBytes_any ok (some ⟨b, o, none⟩) n c l q w' (HS.out.after hb) hi (by omega) hq)
  have HOK := Lib.hid hok
  obtain ⟨R, hR⟩ : ∃ R, R = rAtom l p m := ⟨_, rfl⟩
  rw [← hR]
  have HR := Lib.hid hR
  obtain ⟨ch, hch⟩ : ∃ ch, ch = l.getD p 0 := ⟨_, rfl⟩
  have HCH := Lib.hid hch
  have hcp := HC.out p hp
  rw [← hch] at hcp
  have HCP := Lib.hid hcp
  clear hs hl hc hR hch hcp hi hok
  have B0 : Below w.heap.size w (w.alloc (.cells #[.bool false, .bool false, .slice none 0 0, .slice none 0 0, .slice none 0 0, .int .i64 0, .int .i64 0, .int .i64 0] 62)) := (Below.refl _ _).alloc (Nat.le_refl _) _
  have X0 := Box.new w 62 #[.bool false, .bool false, .slice none 0 0, .slice none 0 0, .slice none 0 0, .int .i64 0, .int .i64 0, .int .i64 0]
  by_cases hyes : ch = 91
  · have HY := Lib.hid hyes
    obtain ⟨x1, x2⟩ := byte_eq (a := ch) (k := 91) (by rw [hyes]; rfl)
    replace hyes := HY.out
    have HYES := Lib.hid hyes
    clear hyes HY
    obtain ⟨⟨h2_, q2, e2⟩, hr2⟩ : ∃ x, x = rBytes l (p + 1) := ⟨_, rfl⟩
    have hq2 := rBytes_place hr2.symm (by have := HL.out; omega)
    have hq2' : q2 ≤ n := by have := HL'.out; omega
    have HR2 := Lib.hid hr2
    clear hr2 hq2
    go_enter Tryd.func40, Tryd.ntmps40
    go_upto_region 1 with fail
    change Code.wp _ _ _ _ (w.alloc (.cells #[.bool false, .bool false, .slice none 0 0, .slice none 0 0, .slice none 0 0, .int .i64 0, .int .i64 0, .int .i64 0] 62))
    generalize (w.alloc (.cells #[.bool false, .bool false, .slice none 0 0, .slice none 0 0, .slice none 0 0, .int .i64 0, .int .i64 0, .int .i64 0] 62)) = v0 at *
    go_upto_region 2 with (refine wpList_store_box (cells := #[.bool false, .bool false, .slice none 0 0, .slice none 0 0, .slice none 0 0]) rfl 25 _ _ rfl (Box.new _ _ _) (by rfl) (by rfl) rfl (by kernel_rfl) (by simp [Value.oneCell']) ?_; intro u1 Y1 st1)
    have B1 := st1.below w.heap.size w B0.size (B0.alloc B0.size _)
    have X1 := st1.box (X0.alloc (.cells #[.bool false, .bool false, .slice none 0 0, .slice none 0 0, .slice none 0 0] 25)) (Nat.ne_of_lt X0.lt)
    have hlt1 := X0.lt
    clear X0 B0 st1
    have q1 := HCP.out u1 B1
    generalize v0.heap.size = g at *
    have pq : ((p + 1 : Nat) : Int) = (p : Int) + 1 := by omega
    have CB1 := Lib.hid (CB.out u1 (p + 1) B1 (by omega))
    rw [pq] at CB1
    clear pq
    go_wp2_with fail
    refine CB1.out.mono ?_
    rintro e w2 ⟨a2, n2, c2, rfl, s2, i2, hb2⟩
    rw [← HR2.out] at s2 ⊢
    dsimp only at s2 ⊢
    have X2 := X1.after hb2
    have Y2 := Y1.after hb2
    have B2 := B1.trans (hb2.mono B1.size)
    have S2 := Lib.hid s2
    have I2 := Lib.hid i2
    clear X1 Y1 B1 hb2 s2 i2
    replace X2 := Lib.hid X2
    by_cases he2 : e2 = 0
    case neg =>
      obtain ⟨z1, z2⟩ := nat_ne he2
      go_wp2_with (refine wpList_store_box (cells := #[.bool false, .bool false, .slice none 0 0, .slice none 0 0, .slice none 0 0, .int .i64 q2, .int .i64 0, .int .i64 e2]) rfl 62 _ _ rfl X2.out (by rfl) (by rfl) rfl (by kernel_rfl) (by simp [Value.oneCell']) ?_; intro u9 X9 st9)
      have B9 := st9.below w.heap.size w (Nat.le_refl _) B2
      exact bodyPost_ret (v := .agg #[.bool false, .bool false, .slice none 0 0, .slice none 0 0, .slice none 0 0, .int .i64 q2, .int .i64 0, .int .i64 e2]) (box_result rfl _ _ (by rfl) X9 Tryd.underlying62 rfl (by kernel_rfl)) rfl (rp_err (by rw [HR.out]; unfold rAtom; rw [if_pos (by rw [← HCH.out]; exact HYES.out)]; simp only [← HR2.out]; rw [if_pos he2]) B9)
    subst he2
    by_cases hend : n ≤ q2
    case pos =>
      have hend' : (n : Int) ≤ (q2 : Int) := by omega
      go_wp2_with (refine wpList_store_box (cells := #[.bool false, .bool false, .slice none 0 0, .slice none 0 0, .slice none 0 0, .int .i64 n, .int .i64 0, .int .i64 2]) rfl 62 _ _ rfl X2.out (by rfl) (by rfl) rfl (by kernel_rfl) (by simp [Value.oneCell']) ?_; intro u9 X9 st9)
      have B9 := st9.below w.heap.size w (Nat.le_refl _) B2
      exact bodyPost_ret (v := .agg #[.bool false, .bool false, .slice none 0 0, .slice none 0 0, .slice none 0 0, .int .i64 n, .int .i64 0, .int .i64 2]) (box_result rfl _ _ (by rfl) X9 Tryd.underlying62 rfl (by kernel_rfl)) rfl (rp_err (by rw [HR.out]; unfold rAtom; rw [if_pos (by rw [← HCH.out]; exact HYES.out)]; simp only [← HR2.out]; rw [if_neg (by simp), if_pos (by have := HL.out; have := HL'.out; omega), show l.length = n by have := HL.out; have := HL'.out; omega]) B9)
    replace hend : q2 < n := by omega
    have hend' : ¬ (n : Int) ≤ (q2 : Int) := by omega
    obtain ⟨ch2, hch2⟩ : ∃ ch, ch = l.getD q2 0 := ⟨_, rfl⟩
    have HCH2 := Lib.hid hch2
    have hc2 := HC.out q2 hend w2 B2
    rw [← hch2] at hc2
    clear hch2
    by_cases h93 : ch2 = 93
    case neg =>
      obtain ⟨z1, z2⟩ := byte_ne (a := ch2) (k := 93) (fun e => h93 (by rw [← UInt8.toNat_inj]; exact e))
      go_wp2_with (refine wpList_store_box (cells := #[.bool false, .bool false, .slice none 0 0, .slice none 0 0, .slice none 0 0, .int .i64 q2, .int .i64 0, .int .i64 3]) rfl 62 _ _ rfl X2.out (by rfl) (by rfl) rfl (by kernel_rfl) (by simp [Value.oneCell']) ?_; intro u9 X9 st9)
      have B9 := st9.below w.heap.size w (Nat.le_refl _) B2
      exact bodyPost_ret (v := .agg #[.bool false, .bool false, .slice none 0 0, .slice none 0 0, .slice none 0 0, .int .i64 q2, .int .i64 0, .int .i64 3]) (box_result rfl _ _ (by rfl) X9 Tryd.underlying62 rfl (by kernel_rfl)) rfl (rp_err (by rw [HR.out]; unfold rAtom; rw [if_pos (by rw [← HCH.out]; exact HYES.out)]; simp only [← HR2.out]; rw [if_neg (by simp), if_neg (by have := HL.out; omega), if_pos (by rw [← HCH2.out]; exact h93)]) B9)
    have H93 := Lib.hid h93
    obtain ⟨z1, z2⟩ := byte_eq (a := ch2) (k := 93) (by rw [h93]; rfl)
    clear h93
    obtain ⟨⟨l3, q3, e3⟩, hr3⟩ : ∃ x, x = rBytes l (q2 + 1) := ⟨_, rfl⟩
    have HR3 := Lib.hid hr3
    clear hr3
    have f1 := Y2.frozen 1
    have d1 := Y2.cell 1 rfl
    have f2 := Y2.frozen 2
    have d2 := Y2.cell 2 rfl
    go_upto_region 13 with fail
    have Y5 := (Y2.set 1 (.bool true)).set 2 (.slice a2 n2 c2)
    have X5 := (X2.out.far ⟨g, 1, none⟩ (.bool true) (Nat.ne_of_lt hlt1)).far ⟨g, 2, none⟩ (.slice a2 n2 c2) (Nat.ne_of_lt hlt1)
    have B5 := (B2.setCell (p := ⟨g, 1, none⟩) (Nat.le_of_lt hlt1) (.bool true)).setCell (p := ⟨g, 2, none⟩) (Nat.le_of_lt hlt1) (.slice a2 n2 c2)
    change Code.wp _ _ _ _ ((w2.setCell ⟨g, 1, none⟩ (.bool true)).setCell ⟨g, 2, none⟩ (.slice a2 n2 c2))
    have HB2 := Lib.hid B2
    generalize ((w2.setCell ⟨g, 1, none⟩ (.bool true)).setCell ⟨g, 2, none⟩ (.slice a2 n2 c2)) = u5 at *
    clear Y2 X2 f1 d1 f2 d2 hc2 z1 z2
    replace Y5 : Box u5 g 25 #[.bool false, .bool true, .slice a2 n2 c2, .slice none 0 0, .slice none 0 0] := Y5
    have pq : ((q2 + 1 : Nat) : Int) = (q2 : Int) + 1 := by omega
    have CB2 := Lib.hid (CB.out u5 (q2 + 1) B5 (by omega))
    rw [pq] at CB2
    clear pq
    go_wp2_with fail
    refine CB2.out.mono ?_
    rintro e w3 ⟨a3, n3, c3, rfl, s3, i3, hb3⟩
    rw [← HR3.out] at s3 ⊢
    dsimp only at s3 ⊢
    have X3 := X5.after hb3
    have Y3 := Y5.after hb3
    have B3 := B5.trans (hb3.mono B5.size)
    have S3 := Lib.hid s3
    have I3 := Lib.hid i3
    clear X5 Y5 B5 hb3 s3 i3
    replace X3 := Lib.hid X3
    by_cases he3 : e3 = 0
    case neg =>
      obtain ⟨z1, z2⟩ := nat_ne he3
      go_wp2_with (refine wpList_store_box (cells := #[.bool false, .bool false, .slice none 0 0, .slice none 0 0, .slice none 0 0, .int .i64 q3, .int .i64 0, .int .i64 e3]) rfl 62 _ _ rfl X3.out (by rfl) (by rfl) rfl (by kernel_rfl) (by simp [Value.oneCell']) ?_; intro u9 X9 st9)
      have B9 := st9.below w.heap.size w (Nat.le_refl _) B3
      exact bodyPost_ret (v := .agg #[.bool false, .bool false, .slice none 0 0, .slice none 0 0, .slice none 0 0, .int .i64 q3, .int .i64 0, .int .i64 e3]) (box_result rfl _ _ (by rfl) X9 Tryd.underlying62 rfl (by kernel_rfl)) rfl (rp_err (by rw [HR.out]; unfold rAtom; rw [if_pos (by rw [← HCH.out]; exact HYES.out)]; simp only [← HR2.out]; rw [if_neg (by simp), if_neg (by have := HL.out; omega), if_neg (by rw [← HCH2.out, H93.out]; simp)]; simp only [← HR3.out]; rw [if_pos he3]) B9)
    subst he3
    have f3 := Y3.frozen 3
    have d3 := Y3.cell 3 rfl
    go_upto_region 17 with fail
    have Y8 := Y3.set 3 (.slice a3 n3 c3)
    have X8 := X3.out.far ⟨g, 3, none⟩ (.slice a3 n3 c3) (Nat.ne_of_lt hlt1)
    have B8 := B3.setCell (p := ⟨g, 3, none⟩) (Nat.le_of_lt hlt1) (.slice a3 n3 c3)
    change Code.wp _ _ _ _ (w3.setCell ⟨g, 3, none⟩ (.slice a3 n3 c3))
    generalize (w3.setCell ⟨g, 3, none⟩ (.slice a3 n3 c3)) = u8 at *
    clear Y3 X3 f3 d3
    replace Y8 : Box u8 g 25 #[.bool false, .bool true, .slice a2 n2 c2, .slice a3 n3 c3, .slice none 0 0] := Y8
    replace X8 := Lib.hid X8
    replace Y8 := Lib.hid Y8
    go_wp2_with first | (refine wpList_load_box rfl 25 _ rfl Y8.out (by rfl) Tryd.underlying25 rfl (by kernel_rfl) ?_) | (refine wpList_store_box (cells := #[.bool false, .bool true, .slice a2 n2 c2, .slice a3 n3 c3, .slice none 0 0, .int .i64 q3, .int .i64 m, .int .i64 0]) rfl 62 _ _ rfl X8.out (by rfl) (by rfl) rfl (by kernel_rfl) (by simp [Value.oneCell']) ?_; intro u9 X9 st9)
    have B9 := st9.below w.heap.size w (Nat.le_refl _) B8
    exact bodyPost_ret (v := .agg #[.bool false, .bool true, .slice a2 n2 c2, .slice a3 n3 c3, .slice none 0 0, .int .i64 q3, .int .i64 m, .int .i64 0]) (box_result rfl _ _ (by rfl) X9 Tryd.underlying62 rfl (by kernel_rfl)) rfl (rp_ok (by rw [HR.out]; unfold rAtom; rw [if_pos (by rw [← HCH.out]; exact HYES.out)]; simp only [← HR2.out]; rw [if_neg (by simp), if_neg (by have := HL.out; omega), if_neg (by rw [← HCH2.out, H93.out]; simp)]; simp only [← HR3.out]; rw [if_neg (by simp)]) ⟨false, true, a2, n2, c2, a3, n3, c3, none, 0, 0⟩ (rd_hint (S2.out.keepB (I2.out.mono HOK.out) HB2.out B9) (S3.out.keepB (I3.out.mono HOK.out) B3 B9) (I2.out.mono fun k h => .inl h) (I3.out.mono fun k h => .inl h)) B9)
  · have hno := hyes
    obtain ⟨x1, x2⟩ := byte_ne (a := ch) (k := 91) (fun e => hyes (by rw [← UInt8.toNat_inj]; exact e))
    obtain ⟨⟨l3, q3, e3⟩, hr3⟩ : ∃ x, x = rBytes l p := ⟨_, rfl⟩
    have HR3 := Lib.hid hr3
    have HNO := Lib.hid hno
    clear hr3 hno hyes
    go_enter Tryd.func40, Tryd.ntmps40
    go_upto_region 1 with fail
    change Code.wp _ _ _ _ (w.alloc (.cells #[.bool false, .bool false, .slice none 0 0, .slice none 0 0, .slice none 0 0, .int .i64 0, .int .i64 0, .int .i64 0] 62))
    generalize (w.alloc (.cells #[.bool false, .bool false, .slice none 0 0, .slice none 0 0, .slice none 0 0, .int .i64 0, .int .i64 0, .int .i64 0] 62)) = v0 at *
    go_upto_region 2 with (refine wpList_store_box (cells := #[.bool false, .bool false, .slice none 0 0, .slice none 0 0, .slice none 0 0]) rfl 25 _ _ rfl (Box.new _ _ _) (by rfl) (by rfl) rfl (by kernel_rfl) (by simp [Value.oneCell']) ?_; intro u1 Y1 st1)
    have B1 := st1.below w.heap.size w B0.size (B0.alloc B0.size _)
    have X1 := st1.box (X0.alloc (.cells #[.bool false, .bool false, .slice none 0 0, .slice none 0 0, .slice none 0 0] 25)) (Nat.ne_of_lt X0.lt)
    have hlt1 := X0.lt
    clear X0 B0 st1
    have q1 := HCP.out u1 B1
    generalize v0.heap.size = g at *
    go_wp2_with fail
    refine (CB.out _ p B1 (by omega)).mono ?_
    rintro e w3 ⟨a3, n3, c3, rfl, s3, i3, hb3⟩
    rw [← HR3.out] at s3 ⊢
    dsimp only at s3 ⊢
    have X3 := X1.after hb3
    have Y3 := Y1.after hb3
    have B3 := B1.trans (hb3.mono B1.size)
    have S3 := Lib.hid s3
    have I3 := Lib.hid i3
    clear X1 Y1 B1 hb3 s3 i3
    replace X3 := Lib.hid X3
    by_cases he3 : e3 = 0
    case neg =>
      obtain ⟨z1, z2⟩ := nat_ne he3
      go_wp2_with (refine wpList_store_box (cells := #[.bool false, .bool false, .slice none 0 0, .slice none 0 0, .slice none 0 0, .int .i64 q3, .int .i64 0, .int .i64 e3]) rfl 62 _ _ rfl X3.out (by rfl) (by rfl) rfl (by kernel_rfl) (by simp [Value.oneCell']) ?_; intro u9 X9 st9)
      have B9 := st9.below w.heap.size w (Nat.le_refl _) B3
      exact bodyPost_ret (v := .agg #[.bool false, .bool false, .slice none 0 0, .slice none 0 0, .slice none 0 0, .int .i64 q3, .int .i64 0, .int .i64 e3]) (box_result rfl _ _ (by rfl) X9 Tryd.underlying62 rfl (by kernel_rfl)) rfl (rp_err (by rw [HR.out]; unfold rAtom; rw [if_neg (by rw [← HCH.out]; exact HNO.out)]; simp only [← HR3.out]; rw [if_pos he3]) B9)
    subst he3
    have f3 := Y3.frozen 3
    have d3 := Y3.cell 3 rfl
    go_upto_region 17 with fail
    have Y8 := Y3.set 3 (.slice a3 n3 c3)
    have X8 := X3.out.far ⟨g, 3, none⟩ (.slice a3 n3 c3) (Nat.ne_of_lt hlt1)
    have B8 := B3.setCell (p := ⟨g, 3, none⟩) (Nat.le_of_lt hlt1) (.slice a3 n3 c3)
    change Code.wp _ _ _ _ (w3.setCell ⟨g, 3, none⟩ (.slice a3 n3 c3))
    generalize (w3.setCell ⟨g, 3, none⟩ (.slice a3 n3 c3)) = u8 at *
    clear Y3 X3 f3 d3
    replace Y8 : Box u8 g 25 #[.bool false, .bool false, .slice none 0 0, .slice a3 n3 c3, .slice none 0 0] := Y8
    replace X8 := Lib.hid X8
    replace Y8 := Lib.hid Y8
    go_wp2_with first | (refine wpList_load_box rfl 25 _ rfl Y8.out (by rfl) Tryd.underlying25 rfl (by kernel_rfl) ?_) | (refine wpList_store_box (cells := #[.bool false, .bool false, .slice none 0 0, .slice a3 n3 c3, .slice none 0 0, .int .i64 q3, .int .i64 m, .int .i64 0]) rfl 62 _ _ rfl X8.out (by rfl) (by rfl) rfl (by kernel_rfl) (by simp [Value.oneCell']) ?_; intro u9 X9 st9)
    have B9 := st9.below w.heap.size w (Nat.le_refl _) B8
    exact bodyPost_ret (v := .agg #[.bool false, .bool false, .slice none 0 0, .slice a3 n3 c3, .slice none 0 0, .int .i64 q3, .int .i64 m, .int .i64 0]) (box_result rfl _ _ (by rfl) X9 Tryd.underlying62 rfl (by kernel_rfl)) rfl (rp_ok (by rw [HR.out]; unfold rAtom; rw [if_neg (by rw [← HCH.out]; exact HNO.out)]; simp only [← HR3.out]; rw [if_neg (by simp)]) ⟨false, false, none, 0, 0, a3, n3, c3, none, 0, 0⟩ (rd_atomI (S3.out.keepB (I3.out.mono HOK.out) B3 B9) (I3.out.mono fun k h => .inl h)) B9)

end Go.Proofs.YtcflgoddfakepaaDoor
namespace Go.Proofs.YtcflgoddfakepaaDoor
open Go.RowKit
set_option linter.unusedSimpArgs false
set_option linter.unusedVariables false

/-- a reading's outcome is handed back -/
def RS (ok : Nat → Prop) (l : List UInt8) (p lv m : Nat) (w : World) (e : Ending) (w' : World) : Prop := ∃ r, St l none p lv m r ∧ RP ok r w e w'
/-- what a value in the row may lead to: not to the row itself -/
def okK (ok : Nat → Prop) (g : Nat) (vt : Value) : Nat → Prop := fun k => (ok k ∨ g < k) ∧ vt.ownBlock ≠ some k

theorem bEq {a : UInt8} (k : Nat) (z : Int) (hz : z = (k : Int)) (h : a.toNat = k) : ((a.toNat : Int) == z) = true ∧ ((a.toNat : Int) != z) = false ∧ (a.toNat : Int) = z := by
  subst hz
  exact ⟨(byte_eq h).1, (byte_eq h).2, by rw [h]⟩
theorem bNe {a : UInt8} (k : Nat) (z : Int) (hz : z = (k : Int)) (h : a.toNat ≠ k) : ((a.toNat : Int) == z) = false ∧ ((a.toNat : Int) != z) = true ∧ ¬ (a.toNat : Int) = z := by
  subst hz
  exact ⟨(byte_ne h).1, (byte_ne h).2, by omega⟩
theorem St_place {l : List UInt8} {p lv n : Nat} {r : RV} (h : St l none p lv n r) (he : r.e = 0) (hlv : lv ≤ 17) (hn : n ≤ 512) : p < r.p ∧ r.p ≤ l.length ∧ r.n ≤ 512 ∧ n < r.n := by
  obtain ⟨h1, h2, h3, h4, h5, h6, h7⟩ := St_ok h he hlv hn
  have := nodes_pos r.v
  have hpos : 0 < r.v.form.length := by
    obtain ⟨c, t, e, _⟩ := form_head r.v []
    rw [List.append_nil] at e
    rw [e]; simp
  exact ⟨by omega, h3, h6, by omega⟩
theorem St_err {l : List UInt8} {m : Option (List Sx)} {p lv n : Nat} {r : RV} (h : St l m p lv n r) : r.e ≤ 5 ∧ (p ≤ l.length → r.p ≤ l.length) := by
  induction h with
  | short | bad | long => simp [RV.err]; try omega
  | @atom p lv n h1 h2 h3 h4 =>
    unfold rAtom
    split
    · obtain ⟨⟨b1, q1, e1⟩, hr1⟩ : ∃ x, x = rBytes l (p + 1) := ⟨_, rfl⟩
      have k1 := rBytes_err hr1.symm (by omega)
      simp only [← hr1]
      split
      · simp only [RV.err]; exact ⟨by omega, fun _ => k1.1⟩
      · split
        · simp [RV.err]
        · split
          · simp only [RV.err]; exact ⟨by omega, fun _ => k1.1⟩
          · obtain ⟨⟨b2, q2, e2⟩, hr2⟩ : ∃ x, x = rBytes l (q1 + 1) := ⟨_, rfl⟩
            have k2 := rBytes_err hr2.symm (by omega)
            simp only [← hr2]
            split
            · simp only [RV.err]; exact ⟨by omega, fun _ => k2.1⟩
            · exact ⟨by simp, fun _ => k2.1⟩
    · obtain ⟨⟨b1, q1, e1⟩, hr1⟩ : ∃ x, x = rBytes l p := ⟨_, rfl⟩
      have k1 := rBytes_err hr1.symm (by omega)
      simp only [← hr1]
      split
      · simp only [RV.err]; exact ⟨by omega, fun _ => k1.1⟩
      · exact ⟨by simp, fun _ => k1.1⟩
  | list h1 h2 h3 h4 _ ih => exact ⟨ih.1, fun _ => ih.2 (by omega)⟩
  | close h1 h2 => exact ⟨by simp, fun _ => by simp only []; omega⟩
  | fail _ _ _ ih => exact ih
  | more _ _ _ _ ih1 ih2 => exact ⟨ih2.1, fun h => ih2.2 (ih1.2 h)⟩

theorem Box.range {w : World} {g : Nat} {T : TypeId} {cs : Array Value} (h : Box w g T cs) (o : Nat) (xs : List Value) (hx : ∀ j u, xs[j]? = some u → cs[o + j]? = some u) : w.rangeAt g o xs := fun j u hu => h.cell (o + j) (hx j u hu)
theorem newsK_snoc (K : Nat → SV) (n : Nat) (v : SV) : newsK K n ++ newsK (fun _ => v) 1 = newsK (fun i => if i = n then v else K i) (n + 1) := by
  have e : newsK (fun i => if i = n then v else K i) n = newsK K n := newsK_congr fun i h => if_neg (by omega)
  show newsK K n ++ ([] ++ v.cells.toList) = newsK _ n ++ (if n = n then v else K n).cells.toList
  rw [e, if_pos rfl, List.nil_append]
theorem src_one (w : World) (v : SV) : Src Tryd.prog 5 23 (.slice (some ⟨w.heap.size, 0, none⟩) 1 1) 1 (newsK (fun _ => v) 1) (w.alloc (.cells v.cells 25)) := by
  refine Src.ofSlice _ Tryd.underlying23 _ 1 1 _ (newsK_len _ 1) (fun j u hu => ?_) (newsK_one _ 1)
  rw [Addr.add_mid]
  refine (Box.new w 25 v.cells).cell (0 + j) ?_
  rw [Nat.zero_add]
  simpa [newsK] using hu
theorem kids_more {ok : Nat → Prop} {g B G al : Nat} {own v' : Value} {u w2 : World} {K : Nat → SV} {acc : List Sx} {v : SV} {rv : Sx} (hal : al = acc.length)
    (hK : ∀ i (hi : i < acc.length), RdI (okK ok g own) u (K i) acc[i]) (hR : RdI (fun k => (ok k ∨ B ≤ k) ∧ k < G) u v rv)
    (hok : ∀ k, ok k → k < g) (hB : g < B) (hown : ∀ k, own.ownBlock = some k → g < k ∧ k < B)
    (hg : u.grownBy w2 own.ownBlock) (hw : ∀ k, v'.ownBlock = some k → own.ownBlock = some k ∨ u.heap.size ≤ k) (x : Value) :
    ∀ i (hi : i < (acc ++ [rv]).length), RdI (okK ok g v') (w2.setCell ⟨g, 4, none⟩ x) (if i = al then v else K i) (acc ++ [rv])[i] := by
  have key : ∀ {p : Nat → Prop} {v0 : SV} {s0 : Sx}, RdI p u v0 s0 → (∀ k, p k → (ok k ∨ g < k) ∧ own.ownBlock ≠ some k) → RdI (okK ok g v') (w2.setCell ⟨g, 4, none⟩ x) v0 s0 := by
    intro p v0 s0 h hp
    refine (h.there.keep (fun k hk => ?_)).mono (fun k hk => ⟨(hp k hk.1).1, fun e => ?_⟩)
    · obtain ⟨h1, h2⟩ := hp k hk.1
      have hne : k ≠ g := by
        rcases h1 with h1 | h1
        · exact Nat.ne_of_lt (hok k h1)
        · omega
      exact (heap_setCell_other _ _ _ _ hne).trans (hg.block k hk.2 (fun e => h2 e.symm))
    · rcases hw k e with e | e
      · exact (hp k hk.1).2 e
      · exact absurd hk.2 (by omega)
  intro i hi
  by_cases hia : i = al
  · rw [if_pos hia]
    have e : (acc ++ [rv])[i] = rv := by
      subst hia hal
      simp
    rw [e]
    refine key hR (fun k hk => ⟨hk.1.imp id (fun h => by omega), fun e => ?_⟩)
    have h1 := hown k e
    rcases hk.1 with h2 | h2
    · have := hok k h2; omega
    · omega
  · rw [if_neg hia]
    have hlt : i < acc.length := by simp at hi; omega
    rw [List.getElem_append_left hlt]
    exact key (hK i hlt) (fun k hk => hk)

set_option maxHeartbeats 16000000 in
set_option maxRecDepth 100000 in
theorem refValue_any (ok : Nat → Prop) (a : Option Addr) (n c : Nat) (l : List UInt8) (hn : n ≤ 100000) (hi : InB ok a n) : ∀ (N p lv m : Nat) (w : World), n - p < N → Sl w a n c l → (∀ k, ok k → k < w.heap.size) → p ≤ n → lv ≤ 17 → m ≤ 512 →
    Calls Tryd.prog 35 #[.slice a n c, .int .i64 p, .int .i64 lv, .int .i64 m] w (RS ok l p lv m w) := by
  intro N
  induction N with
  | zero => intro p lv m w h; omega
  | succ N ih =>
  intro p lv m w hN hs hok hp hlv hm
  have HS := Lib.hid hs
  have HL := Lib.hid (Nat.le_of_eq hs.1)
  have HL' := Lib.hid (Nat.le_of_eq hs.1.symm)
  have HOK := Lib.hid hok
  have HI := Lib.hid hi
  have B0 : Below w.heap.size w (w.alloc (.cells #[.bool false, .bool false, .slice none 0 0, .slice none 0 0, .slice none 0 0, .int .i64 0, .int .i64 0, .int .i64 0] 62)) := (Below.refl _ _).alloc (Nat.le_refl _) _
  have X0 := Box.new w 62 #[.bool false, .bool false, .slice none 0 0, .slice none 0 0, .slice none 0 0, .int .i64 0, .int .i64 0, .int .i64 0]
  have IH := Lib.hid ih
  clear ih hok hi
  by_cases hend : n ≤ p
  case pos =>
    have hend' : (n : Int) ≤ (p : Int) := by omega
    have hSt : St l none p lv m (RV.err n 2) := by have := St.short (l := l) (p := p) (lv := lv) (n := m) (by have := HL'.out; omega); rwa [show l.length = n by have := HL.out; have := HL'.out; omega] at this
    have HST := Lib.hid hSt
    clear hSt hs
    go_enter Tryd.func35, Tryd.ntmps35
    go_wp2_with (refine wpList_store_box (cells := #[.bool false, .bool false, .slice none 0 0, .slice none 0 0, .slice none 0 0, .int .i64 n, .int .i64 0, .int .i64 2]) rfl 62 _ _ rfl X0 (by rfl) (by rfl) rfl (by kernel_rfl) (by simp [Value.oneCell']) ?_; intro u9 X9 st9)
    have B9 := st9.below w.heap.size w (Nat.le_refl _) B0
    exact bodyPost_ret (v := .agg #[.bool false, .bool false, .slice none 0 0, .slice none 0 0, .slice none 0 0, .int .i64 n, .int .i64 0, .int .i64 2]) (box_result rfl _ _ (by rfl) X9 Tryd.underlying62 rfl (by kernel_rfl)) rfl ⟨_, HST.out, rp_err rfl B9⟩
  have hend' : ¬ (n : Int) ≤ (p : Int) := by omega
  obtain ⟨b, o, rfl, hc⟩ : ∃ b o, a = some ⟨b, o, none⟩ ∧ ∀ i, i < n → w.cell? ⟨b, o + i, none⟩ = some (.int .u8 ((l.getD i 0).toNat : Int)) := by
    rcases hs.2.2.2.2 with h0 | h0
    · omega
    · exact h0
  have HC : Hid (∀ i, i < n → ∀ w', Below w.heap.size w w' → w'.cell? ⟨b, o + i, none⟩ = some (.int .u8 ((l.getD i 0).toNat : Int))) := Lib.hid fun i hi w' hb => (hb.cell (p := ⟨b, o + i, none⟩) (cell_lt (hc i hi))).trans (hc i hi)
  obtain ⟨ch, hch⟩ : ∃ ch, ch = l.getD p 0 := ⟨_, rfl⟩
  have HCH := Lib.hid hch
  have HPL := Lib.hid (show p < l.length by have := HL.out; omega)
  have q0 := HC.out p (by omega) _ B0
  rw [← hch] at q0
  have hcb := ch.toNat_lt
  clear hs hc hch
  by_cases hst : starts ch
  case neg =>
    have hSt : St l none p lv m (RV.err p 3) := St.bad HPL.out (by rw [← HCH.out]; exact hst)
    have HST := Lib.hid hSt
    obtain ⟨x1, x2, x1y⟩ := bNe (a := ch) 40 40 rfl (fun e => hst (.inl (by rw [← UInt8.toNat_inj]; exact e)))
    obtain ⟨x3, x4, x3y⟩ := bNe (a := ch) 91 91 rfl (fun e => hst (.inr (.inl (by rw [← UInt8.toNat_inj]; exact e))))
    have hnd : ch.toNat < 48 ∨ 57 < ch.toNat := by
      rcases Nat.lt_or_ge ch.toNat 48 with h | h
      · exact .inl h
      · rcases Nat.lt_or_ge 57 ch.toNat with h' | h'
        · exact .inr h'
        · exact absurd (.inr (.inr ⟨h, h'⟩)) hst
    clear hSt hst
    rcases hnd with hnd | hnd
    · have hnd' : (ch.toNat : Int) < 48 := by omega
      go_enter Tryd.func35, Tryd.ntmps35
      go_wp2_with (refine wpList_store_box (cells := #[.bool false, .bool false, .slice none 0 0, .slice none 0 0, .slice none 0 0, .int .i64 p, .int .i64 0, .int .i64 3]) rfl 62 _ _ rfl X0 (by rfl) (by rfl) rfl (by kernel_rfl) (by simp [Value.oneCell']) ?_; intro u9 X9 st9)
      have B9 := st9.below w.heap.size w (Nat.le_refl _) B0
      exact bodyPost_ret (v := .agg #[.bool false, .bool false, .slice none 0 0, .slice none 0 0, .slice none 0 0, .int .i64 p, .int .i64 0, .int .i64 3]) (box_result rfl _ _ (by rfl) X9 Tryd.underlying62 rfl (by kernel_rfl)) rfl ⟨_, HST.out, rp_err rfl B9⟩
    · have hnd' : ¬ (ch.toNat : Int) < 48 := by omega
      have hnd2 : (57 : Int) < (ch.toNat : Int) := by omega
      go_enter Tryd.func35, Tryd.ntmps35
      go_wp2_with (refine wpList_store_box (cells := #[.bool false, .bool false, .slice none 0 0, .slice none 0 0, .slice none 0 0, .int .i64 p, .int .i64 0, .int .i64 3]) rfl 62 _ _ rfl X0 (by rfl) (by rfl) rfl (by kernel_rfl) (by simp [Value.oneCell']) ?_; intro u9 X9 st9)
      have B9 := st9.below w.heap.size w (Nat.le_refl _) B0
      exact bodyPost_ret (v := .agg #[.bool false, .bool false, .slice none 0 0, .slice none 0 0, .slice none 0 0, .int .i64 p, .int .i64 0, .int .i64 3]) (box_result rfl _ _ (by rfl) X9 Tryd.underlying62 rfl (by kernel_rfl)) rfl ⟨_, HST.out, rp_err rfl B9⟩
  have HSTA := Lib.hid hst
  by_cases hlong : 512 < m + 1 ∨ ch = 40 ∧ 16 < lv
  case pos =>
    have hSt : St l none p lv m (RV.err p 4) := St.long HPL.out (by rw [← HCH.out]; exact hst) (by rw [← HCH.out]; exact hlong)
    have HST := Lib.hid hSt
    clear hSt
    by_cases h512 : 512 < m + 1
    · have h512' : (512 : Int) < (m : Int) + 1 := by omega
      clear hlong
      rcases hst with h40 | h91 | hdg
      · obtain ⟨x1, x2, x1y⟩ := bEq (a := ch) 40 40 rfl (by rw [h40]; rfl)
        clear h40
        go_enter Tryd.func35, Tryd.ntmps35
        go_wp2_with (refine wpList_store_box (cells := #[.bool false, .bool false, .slice none 0 0, .slice none 0 0, .slice none 0 0, .int .i64 p, .int .i64 0, .int .i64 4]) rfl 62 _ _ rfl X0 (by rfl) (by rfl) rfl (by kernel_rfl) (by simp [Value.oneCell']) ?_; intro u9 X9 st9)
        have B9 := st9.below w.heap.size w (Nat.le_refl _) B0
        exact bodyPost_ret (v := .agg #[.bool false, .bool false, .slice none 0 0, .slice none 0 0, .slice none 0 0, .int .i64 p, .int .i64 0, .int .i64 4]) (box_result rfl _ _ (by rfl) X9 Tryd.underlying62 rfl (by kernel_rfl)) rfl ⟨_, HST.out, rp_err rfl B9⟩
      · obtain ⟨x1, x2, x1y⟩ := bNe (a := ch) 40 40 rfl (by rw [h91]; decide)
        obtain ⟨x3, x4, x3y⟩ := bEq (a := ch) 91 91 rfl (by rw [h91]; rfl)
        clear h91
        go_enter Tryd.func35, Tryd.ntmps35
        go_wp2_with (refine wpList_store_box (cells := #[.bool false, .bool false, .slice none 0 0, .slice none 0 0, .slice none 0 0, .int .i64 p, .int .i64 0, .int .i64 4]) rfl 62 _ _ rfl X0 (by rfl) (by rfl) rfl (by kernel_rfl) (by simp [Value.oneCell']) ?_; intro u9 X9 st9)
        have B9 := st9.below w.heap.size w (Nat.le_refl _) B0
        exact bodyPost_ret (v := .agg #[.bool false, .bool false, .slice none 0 0, .slice none 0 0, .slice none 0 0, .int .i64 p, .int .i64 0, .int .i64 4]) (box_result rfl _ _ (by rfl) X9 Tryd.underlying62 rfl (by kernel_rfl)) rfl ⟨_, HST.out, rp_err rfl B9⟩
      · unfold isD at hdg
        obtain ⟨x1, x2, x1y⟩ := bNe (a := ch) 40 40 rfl (by omega)
        obtain ⟨x3, x4, x3y⟩ := bNe (a := ch) 91 91 rfl (by omega)
        have x5 : ¬ (ch.toNat : Int) < 48 := by omega
        have x6 : ¬ (57 : Int) < (ch.toNat : Int) := by omega
        clear hdg
        go_enter Tryd.func35, Tryd.ntmps35
        go_wp2_with (refine wpList_store_box (cells := #[.bool false, .bool false, .slice none 0 0, .slice none 0 0, .slice none 0 0, .int .i64 p, .int .i64 0, .int .i64 4]) rfl 62 _ _ rfl X0 (by rfl) (by rfl) rfl (by kernel_rfl) (by simp [Value.oneCell']) ?_; intro u9 X9 st9)
        have B9 := st9.below w.heap.size w (Nat.le_refl _) B0
        exact bodyPost_ret (v := .agg #[.bool false, .bool false, .slice none 0 0, .slice none 0 0, .slice none 0 0, .int .i64 p, .int .i64 0, .int .i64 4]) (box_result rfl _ _ (by rfl) X9 Tryd.underlying62 rfl (by kernel_rfl)) rfl ⟨_, HST.out, rp_err rfl B9⟩
    · have h512' : ¬ (512 : Int) < (m : Int) + 1 := by omega
      obtain ⟨h40, h16⟩ := hlong.resolve_left h512
      have h16' : (16 : Int) < (lv : Int) := by omega
      obtain ⟨x1, x2, x1y⟩ := bEq (a := ch) 40 40 rfl (by rw [h40]; rfl)
      clear h40 hlong hst
      go_enter Tryd.func35, Tryd.ntmps35
      go_wp2_with (refine wpList_store_box (cells := #[.bool false, .bool false, .slice none 0 0, .slice none 0 0, .slice none 0 0, .int .i64 p, .int .i64 0, .int .i64 4]) rfl 62 _ _ rfl X0 (by rfl) (by rfl) rfl (by kernel_rfl) (by simp [Value.oneCell']) ?_; intro u9 X9 st9)
      have B9 := st9.below w.heap.size w (Nat.le_refl _) B0
      exact bodyPost_ret (v := .agg #[.bool false, .bool false, .slice none 0 0, .slice none 0 0, .slice none 0 0, .int .i64 p, .int .i64 0, .int .i64 4]) (box_result rfl _ _ (by rfl) X9 Tryd.underlying62 rfl (by kernel_rfl)) rfl ⟨_, HST.out, rp_err rfl B9⟩
  have h512 : m + 1 ≤ 512 := by omega
  have h512' : ¬ (512 : Int) < (m : Int) + 1 := by omega
  by_cases h40 : ch = 40
  case neg =>
    have hSt : St l none p lv m (rAtom l p (m + 1)) := St.atom HPL.out (by rw [← HCH.out]; exact hst) (by rw [← HCH.out]; exact h40) h512
    have HST := Lib.hid hSt
    have CA := Lib.hid (fun w' (hb : Below w.heap.size w w') => refAtom_any ok (some ⟨b, o, none⟩) n c l p (m + 1) w' (HS.out.after hb) HI.out (fun k h => Nat.lt_of_lt_of_le (HOK.out k h) hb.size) hn (by omega) (by omega))
    have pq : ((m + 1 : Nat) : Int) = (m : Int) + 1 := by omega
    rw [pq] at CA
    obtain ⟨x1, x2, x1y⟩ := bNe (a := ch) 40 40 rfl (fun e => h40 (by rw [← UInt8.toNat_inj]; exact e))
    clear hSt pq
    have fin : ∀ a' c' n' : Nat, True := fun _ _ _ => trivial
    clear fin
    rcases hst with h | h91 | hdg
    · exact absurd h h40
    · obtain ⟨x3, x4, x3y⟩ := bEq (a := ch) 91 91 rfl (by rw [h91]; rfl)
      clear h91 h40 hlong
      go_enter Tryd.func35, Tryd.ntmps35
      go_wp2_with fail
      refine (CA.out _ B0).mono ?_
      rintro e w1 ⟨v, rfl, hrd, hb1⟩
      have B1 := B0.trans (hb1.mono B0.size)
      have X1 := X0.after hb1
      have HRD := Lib.hid hrd
      have HX1 := Lib.hid X1
      clear X0 hrd hb1 X1
      go_wp2_with (refine wpList_store_box (cells := #[.bool v.l, .bool v.h, .slice v.a1 v.n1 v.c1, .slice v.a2 v.n2 v.c2, .slice v.a3 v.n3 v.c3, .int .i64 (rAtom l p (m + 1)).p, .int .i64 (rAtom l p (m + 1)).n, .int .i64 (rAtom l p (m + 1)).e]) rfl 62 _ _ rfl HX1.out (by rfl) (by rfl) rfl (by kernel_rfl) (by simp [Value.oneCell']) ?_; intro u9 X9 st9)
      have B9 := st9.below w.heap.size w (Nat.le_refl _) B1
      exact bodyPost_ret (v := .agg #[.bool v.l, .bool v.h, .slice v.a1 v.n1 v.c1, .slice v.a2 v.n2 v.c2, .slice v.a3 v.n3 v.c3, .int .i64 (rAtom l p (m + 1)).p, .int .i64 (rAtom l p (m + 1)).n, .int .i64 (rAtom l p (m + 1)).e]) (box_result rfl _ _ (by rfl) X9 Tryd.underlying62 rfl (by kernel_rfl)) rfl ⟨_, HST.out, v, rfl, ((HRD.out.there.keep (fun k hk => st9.other k (hk.1.elim (fun h => Nat.ne_of_lt (HOK.out k h)) (fun h => by simp at h; omega)))).mono (fun k hk => hk.1.imp id fun h => Nat.le_trans B0.size h)), B9⟩
    · unfold isD at hdg
      obtain ⟨x3, x4, x3y⟩ := bNe (a := ch) 91 91 rfl (by omega)
      have x5 : ¬ (ch.toNat : Int) < 48 := by omega
      have x6 : ¬ (57 : Int) < (ch.toNat : Int) := by omega
      clear hdg h40 hlong
      go_enter Tryd.func35, Tryd.ntmps35
      go_wp2_with fail
      refine (CA.out _ B0).mono ?_
      rintro e w1 ⟨v, rfl, hrd, hb1⟩
      have B1 := B0.trans (hb1.mono B0.size)
      have X1 := X0.after hb1
      have HRD := Lib.hid hrd
      have HX1 := Lib.hid X1
      clear X0 hrd hb1 X1
      go_wp2_with (refine wpList_store_box (cells := #[.bool v.l, .bool v.h, .slice v.a1 v.n1 v.c1, .slice v.a2 v.n2 v.c2, .slice v.a3 v.n3 v.c3, .int .i64 (rAtom l p (m + 1)).p, .int .i64 (rAtom l p (m + 1)).n, .int .i64 (rAtom l p (m + 1)).e]) rfl 62 _ _ rfl HX1.out (by rfl) (by rfl) rfl (by kernel_rfl) (by simp [Value.oneCell']) ?_; intro u9 X9 st9)
      have B9 := st9.below w.heap.size w (Nat.le_refl _) B1
      exact bodyPost_ret (v := .agg #[.bool v.l, .bool v.h, .slice v.a1 v.n1 v.c1, .slice v.a2 v.n2 v.c2, .slice v.a3 v.n3 v.c3, .int .i64 (rAtom l p (m + 1)).p, .int .i64 (rAtom l p (m + 1)).n, .int .i64 (rAtom l p (m + 1)).e]) (box_result rfl _ _ (by rfl) X9 Tryd.underlying62 rfl (by kernel_rfl)) rfl ⟨_, HST.out, v, rfl, ((HRD.out.there.keep (fun k hk => st9.other k (hk.1.elim (fun h => Nat.ne_of_lt (HOK.out k h)) (fun h => by simp at h; omega)))).mono (fun k hk => hk.1.imp id fun h => Nat.le_trans B0.size h)), B9⟩
  have hlv16 : lv ≤ 16 := by
    rcases Nat.lt_or_ge 16 lv with h | h
    · exact absurd (.inr ⟨h40, h⟩) hlong
    · exact h
  have hlv16' : ¬ (16 : Int) < (lv : Int) := by omega
  obtain ⟨x1, x2, x1y⟩ := bEq (a := ch) 40 40 rfl (by rw [h40]; rfl)
  have HLIST : Hid (∀ r, St l (some []) (p + 1) lv (m + 1) r → St l none p lv m r) := Lib.hid fun r h => St.list HPL.out (by rw [← HCH.out]; exact h40) h512 hlv16 h
  clear h40 hlong hst
  go_enter Tryd.func35, Tryd.ntmps35
  go_upto_region 1 with fail
  change Code.wp _ _ _ _ (w.alloc (.cells #[.bool false, .bool false, .slice none 0 0, .slice none 0 0, .slice none 0 0, .int .i64 0, .int .i64 0, .int .i64 0] 62))
  generalize (w.alloc (.cells #[.bool false, .bool false, .slice none 0 0, .slice none 0 0, .slice none 0 0, .int .i64 0, .int .i64 0, .int .i64 0] 62)) = v0 at *
  go_upto_region 11 with (refine wpList_store_box (cells := #[.bool true, .bool false, .slice none 0 0, .slice none 0 0, .slice none 0 0]) rfl 25 _ _ rfl (Box.new _ _ _) (by rfl) (by rfl) rfl (by kernel_rfl) (by simp [Value.oneCell']) ?_; intro u1 Y1 st1)
  have B1 := st1.below w.heap.size w B0.size (B0.alloc B0.size _)
  have X1 := st1.box (X0.alloc (.cells #[.bool false, .bool false, .slice none 0 0, .slice none 0 0, .slice none 0 0] 25)) (Nat.ne_of_lt X0.lt)
  have hlt1 := X0.lt
  have hz1 := Y1.lt
  have HO1 : Hid (OwnG u1 (v0.heap.size + 1) 5 (.slice none 0 0) 0 (newsK (fun _ => SV.nil) 0)) := Lib.hid (OwnG.nil _ _ _)
  clear X0 B0 st1 q0
  generalize v0.heap.size = g at *
  go_wp2_with fail
  go_loopw [1, 3, 11] (fun at_ cn gp wr => ∃ (q cnt al : Nat) (acc : List Sx) (ta : Option Addr) (tc : Nat) (K : Nat → SV), p + 1 ≤ q ∧ q ≤ n ∧ cnt ≤ 512 ∧ al ≤ cnt ∧ at_ = .int .i64 q ∧ cn = .int .i64 cnt ∧ Hid (al = acc.length) ∧ Hid (∀ r, St l (some acc) q lv cnt r → St l none p lv m r) ∧ Box wr w.heap.size 62 #[.bool false, .bool false, .slice none 0 0, .slice none 0 0, .slice none 0 0, .int .i64 0, .int .i64 0, .int .i64 0] ∧ Box wr g 25 #[.bool true, .bool false, .slice none 0 0, .slice none 0 0, .slice ta al tc] ∧ OwnG wr (g + 1) 5 (.slice ta al tc) al (newsK K al) ∧ Hid (∀ i (hi : i < acc.length), RdI (okK ok g (.slice ta al tc)) wr (K i) acc[i]) ∧ Below w.heap.size w wr) (fun at_ _ _ _ => n + 1 - (intOf at_).toNat)
  case atStart => exact ⟨p + 1, m + 1, 0, [], none, 0, fun _ => SV.nil, Nat.le_refl _, by omega, h512, Nat.zero_le _, rfl, rfl, Lib.hid rfl, HLIST, X1, Y1, HO1.out, Lib.hid (fun i hi => by cases hi), B1⟩
  case round =>
    obtain ⟨q, cnt, al, acc, ta, tc, K, hq1, hq2, hcnt, hal, rfl, rfl, HAL, HTO, hX, hY, hO, HKD, hB⟩ := hrel
    clear X1 Y1 B1 HO1 HLIST
    by_cases h41 : q < n ∧ l.getD q 0 = 41
    case pos =>
      obtain ⟨hqn, h41⟩ := h41
      have hSt : St l (some acc) q lv cnt ⟨.mk true false [] [] acc, q + 1, cnt, 0⟩ := St.close (by have := HL.out; omega) h41
      have HST := Lib.hid (HTO.out _ hSt)
      have q0 := HC.out q hqn wr hB
      rw [h41] at q0
      replace q0 : wr.cell? ⟨b, o + q, none⟩ = some (.int .u8 41) := q0
      have hqn' : (q : Int) < (n : Int) := by omega
      have HX := Lib.hid hX
      have HY := Lib.hid hY
      clear h41 hSt hX hY
      go_wp2_with first | (refine wpList_load_box rfl 25 _ rfl HY.out (by rfl) Tryd.underlying25 rfl (by kernel_rfl) ?_) | (refine wpList_store_box (cells := #[.bool true, .bool false, .slice none 0 0, .slice none 0 0, .slice ta al tc, .int .i64 ((q : Int) + 1), .int .i64 cnt, .int .i64 0]) rfl 62 _ _ rfl HX.out (by rfl) (by rfl) rfl (by kernel_rfl) (by simp [Value.oneCell']) ?_; intro u9 X9 st9)
      have B9 := st9.below w.heap.size w (Nat.le_refl _) hB
      obtain ⟨a', c', e', hrow, hinb⟩ := hO.row
      cases e'
      exact bodyPost_ret (v := .agg #[.bool true, .bool false, .slice none 0 0, .slice none 0 0, .slice ta al tc, .int .i64 ((q : Int) + 1), .int .i64 cnt, .int .i64 0]) (box_result rfl _ _ (by rfl) X9 Tryd.underlying62 rfl (by kernel_rfl)) rfl ⟨_, HST.out, ⟨true, false, none, 0, 0, none, 0, 0, ta, al, tc⟩, rfl, rd_list (hrow.keep (hinb.heap fun k hk => st9.other k (by omega))) (hinb.mono fun k hk => .inr (by omega)) HAL.out (fun i hi => ((HKD.out i hi).keep (fun k hk => st9.other k (hk.1.elim (fun h => Nat.ne_of_lt (HOK.out k h)) (fun h => by omega)))).mono (fun k hk => hk.1.imp id (fun h => by omega))), B9⟩
    case neg =>
      have HNC := Lib.hid (show ¬ (q < l.length ∧ l.getD q 0 = 41) from fun e => h41 ⟨by have := HL'.out; omega, e.2⟩)
      have CA := IH.out q (lv + 1) cnt wr (by omega) (HS.out.after hB) (fun k h => Nat.lt_of_lt_of_le (HOK.out k h) hB.size) hq2 (by omega) hcnt
      rw [show ((lv + 1 : Nat) : Int) = (lv : Int) + 1 by omega] at CA
      have HCA := Lib.hid CA
      clear CA
      have HX := Lib.hid hX
      have HY := Lib.hid hY
      clear hX hY
      by_cases hqn : q < n
      · have hqn' : (q : Int) < (n : Int) := by omega
        have q0 := HC.out q hqn wr hB
        obtain ⟨ch', hch'⟩ : ∃ x, x = l.getD q 0 := ⟨_, rfl⟩
        rw [← hch'] at q0
        have hcb' := ch'.toNat_lt
        obtain ⟨y1, y2, y1y⟩ := bNe (a := ch') 41 41 rfl (fun e => h41 ⟨hqn, by rw [← hch', ← UInt8.toNat_inj]; exact e⟩)
        clear h41 hch'
        go_wp2_with fail
        refine HCA.out.mono ?_
        rintro e w1 ⟨r, hst, v, rfl, hrd, hb1⟩
        obtain ⟨vl, vh, a1, n1, c1, a2, n2, c2, a3, n3, c3⟩ := v
        obtain ⟨rv, rp, rn, re⟩ := r
        dsimp only at hrd ⊢
        have B1 := hB.trans (hb1.mono hB.size)
        have X1 := HX.out.after hb1
        have Y1 := HY.out.after hb1
        have O1 := hO.after hb1
        have HK1 := Lib.hid (fun i hi => (HKD.out i hi).after hb1)
        have hz3 := hB.size
        have hxlt := HX.out.lt
        have HOW := Lib.hid (fun k hk => (hO.lt k hk).2)
        have hylt := HY.out.lt
        have hz4 := hb1.size
        have Z1 := Box.new w1 62 #[.bool false, .bool false, .slice none 0 0, .slice none 0 0, .slice none 0 0, .int .i64 0, .int .i64 0, .int .i64 0]
        have R1 : RdI (fun k => ok k ∨ wr.heap.size ≤ k) (w1.alloc (.cells #[.bool false, .bool false, .slice none 0 0, .slice none 0 0, .slice none 0 0, .int .i64 0, .int .i64 0, .int .i64 0] 62)) ⟨vl, vh, a1, n1, c1, a2, n2, c2, a3, n3, c3⟩ rv := hrd.after ((Below.refl _ _).alloc (Nat.le_refl _) _)
        have hR1 : RdI (fun k => (ok k ∨ wr.heap.size ≤ k) ∧ k < w1.heap.size) w1 ⟨vl, vh, a1, n1, c1, a2, n2, c2, a3, n3, c3⟩ rv := hrd.there
        have HRD := Lib.hid hR1
        have HST := Lib.hid hst
        clear hrd hR1 R1 hst HKD HX HY hO HCA
        go_upto_region 16 with (refine wpList_store_box (cells := #[.bool vl, .bool vh, .slice a1 n1 c1, .slice a2 n2 c2, .slice a3 n3 c3, .int .i64 rp, .int .i64 rn, .int .i64 re]) rfl 62 _ _ rfl Z1 (by rfl) (by rfl) rfl (by kernel_rfl) (by simp [Value.oneCell']) ?_; intro u2 Z2 st2)
        have B2 := st2.below w.heap.size w (Nat.le_trans hz3 hz4) (B1.alloc B1.size _)
        have b12 := st2.below w1.heap.size w1 (Nat.le_refl _) ((Below.refl _ _).alloc (Nat.le_refl _) _)
        have X2 := X1.after b12
        have Y2 := Y1.after b12
        have O2 := O1.after b12
        have HK2 := Lib.hid (fun i hi => (HK1.out i hi).after b12)
        have HR2 := Lib.hid (HRD.out.after b12)
        have hz5 := Z2.lt
        clear X1 Y1 O1 B1 HK1 HRD b12 st2 hb1 Z1
        generalize w1.heap.size = g2 at *
        have e7 : u2.cell? ⟨g2, 7, none⟩ = some (.int .i64 re) := Z2.cell 7 rfl
        have e6 : u2.cell? ⟨g2, 6, none⟩ = some (.int .i64 rn) := Z2.cell 6 rfl
        have e5 : u2.cell? ⟨g2, 5, none⟩ = some (.int .i64 rp) := Z2.cell 5 rfl
        have e4 : u2.cell? ⟨g, 4, none⟩ = some (.slice ta al tc) := Y2.cell 4 rfl
        have HXX := Lib.hid X2
        have HYY := Lib.hid Y2
        have HZZ := Lib.hid Z2
        clear X2 Y2 Z2
        by_cases he : re = 0
        case neg =>
          obtain ⟨z1, z2⟩ := nat_ne he
          have HSF := Lib.hid (HTO.out _ (St.fail HNC.out HST.out he))
          go_wp2_with first | (refine wpList_load_box rfl 62 _ rfl HZZ.out (by rfl) Tryd.underlying62 rfl (by kernel_rfl) ?_) | (refine wpList_store_box (cells := #[.bool vl, .bool vh, .slice a1 n1 c1, .slice a2 n2 c2, .slice a3 n3 c3, .int .i64 rp, .int .i64 rn, .int .i64 re]) rfl 62 _ _ rfl HXX.out (by rfl) (by rfl) rfl (by kernel_rfl) (by simp [Value.oneCell']) ?_; intro u9 X9 st9)
          have B9 := st9.below w.heap.size w (Nat.le_refl _) B2
          exact bodyPost_ret (v := .agg #[.bool vl, .bool vh, .slice a1 n1 c1, .slice a2 n2 c2, .slice a3 n3 c3, .int .i64 rp, .int .i64 rn, .int .i64 re]) (box_result rfl _ _ (by rfl) X9 Tryd.underlying62 rfl (by kernel_rfl)) rfl ⟨_, HSF.out, ⟨vl, vh, a1, n1, c1, a2, n2, c2, a3, n3, c3⟩, rfl, (HR2.out.keep (fun k hk => st9.other k (hk.1.elim (fun h => Nat.ne_of_lt (HOK.out k h)) (fun h => by omega)))).mono (fun k hk => hk.1.imp id (fun h => by omega)), B9⟩
        case pos =>
          subst he
          obtain ⟨hp1, hp2, hp3, hp4⟩ := St_place HST.out rfl (by omega) hcnt
          dsimp only at hp1 hp2 hp3 hp4
          have HLD := Lib.hid (Box.range HZZ.out 0 (SV.cells (⟨vl, vh, a1, n1, c1, a2, n2, c2, a3, n3, c3⟩ : SV)).toList (fun j u hu => by match j, hu with
            | 0, hu => exact hu
            | 1, hu => exact hu
            | 2, hu => exact hu
            | 3, hu => exact hu
            | 4, hu => exact hu
            | k + 5, hu => simp [SV.cells] at hu))
          have HSR := Lib.hid (src_one u2 (⟨vl, vh, a1, n1, c1, a2, n2, c2, a3, n3, c3⟩ : SV))
          have HO3 := Lib.hid (O2.alloc (.cells (SV.cells (⟨vl, vh, a1, n1, c1, a2, n2, c2, a3, n3, c3⟩ : SV)) 25))
          have hz6 := HYY.out.lt
          have B3 := B2.alloc B2.size (.cells (SV.cells (⟨vl, vh, a1, n1, c1, a2, n2, c2, a3, n3, c3⟩ : SV)) 25)
          have HX3 := Lib.hid (HXX.out.alloc (.cells (SV.cells (⟨vl, vh, a1, n1, c1, a2, n2, c2, a3, n3, c3⟩ : SV)) 25))
          have HY3 := Lib.hid (HYY.out.alloc (.cells (SV.cells (⟨vl, vh, a1, n1, c1, a2, n2, c2, a3, n3, c3⟩ : SV)) 25))
          have HZ3 := Lib.hid (HZZ.out.alloc (.cells (SV.cells (⟨vl, vh, a1, n1, c1, a2, n2, c2, a3, n3, c3⟩ : SV)) 25))
          have HK3 := Lib.hid (fun i hi => (HK2.out i hi).after ((Below.refl _ _).alloc (Nat.le_refl _) (.cells (SV.cells (⟨vl, vh, a1, n1, c1, a2, n2, c2, a3, n3, c3⟩ : SV)) 25)))
          have HR3 := Lib.hid (HR2.out.after ((Below.refl _ _).alloc (Nat.le_refl _) (.cells (SV.cells (⟨vl, vh, a1, n1, c1, a2, n2, c2, a3, n3, c3⟩ : SV)) 25)))
          go_upto_region 18 with fail
          go_upto_region 19 with first | (refine wpList_load_sv rfl _ rfl g2 0 rfl (⟨vl, vh, a1, n1, c1, a2, n2, c2, a3, n3, c3⟩ : SV) HLD.out ?_; simp only [SV.val]) | (refine wpList_append_K rfl _ _ rfl rfl HO3.out rfl HSR.out (by omega) (by simp; omega) ?_; intro v2 w2 ho2 hgr hw2; rw [newsK_snoc] at ho2; obtain ⟨ta2, tc2, rfl, _⟩ := ho2.row; have Y3 : Box w2 g 25 #[.bool true, .bool false, .slice none 0 0, .slice none 0 0, .slice ta al tc] := (hgr.block g (by simp; omega) (fun e => by have := HO3.out.lt g e.symm; omega)).trans HY3.out; have d4 := Y3.cell 4 rfl; have f4 := Y3.frozen 4)
          have B8 : Below w.heap.size w (w2.setCell ⟨g, 4, none⟩ (.slice ta2 (al + 1) tc2)) := (B3.grown hgr (by simp; omega) (fun k hk => by have := HO3.out.lt k hk; omega)).setCell (p := ⟨g, 4, none⟩) (by show w.heap.size ≤ g; omega) _
          have Y8 : Box (w2.setCell ⟨g, 4, none⟩ (.slice ta2 (al + 1) tc2)) g 25 #[.bool true, .bool false, .slice none 0 0, .slice none 0 0, .slice ta2 (al + 1) tc2] := Y3.set 4 _
          have X8 : Box (w2.setCell ⟨g, 4, none⟩ (.slice ta2 (al + 1) tc2)) w.heap.size 62 #[.bool false, .bool false, .slice none 0 0, .slice none 0 0, .slice none 0 0, .int .i64 0, .int .i64 0, .int .i64 0] := Box.far (w := w2) ((hgr.block w.heap.size (by simp; omega) (fun e => by have := HO3.out.lt _ e.symm; omega)).trans HX3.out) ⟨g, 4, none⟩ _ (Nat.ne_of_lt hlt1)
          have Z8 : Box (w2.setCell ⟨g, 4, none⟩ (.slice ta2 (al + 1) tc2)) g2 62 #[.bool vl, .bool vh, .slice a1 n1 c1, .slice a2 n2 c2, .slice a3 n3 c3, .int .i64 rp, .int .i64 rn, .int .i64 0] := Box.far (w := w2) ((hgr.block g2 (by simp; omega) (fun e => by have h1 := HO3.out.lt _ e.symm; have h2 := O2.lt g2 e.symm; have h3 := HOW.out g2 e.symm; omega)).trans HZ3.out) ⟨g, 4, none⟩ _ (by show g2 ≠ g; omega)
          have O8 : OwnG (w2.setCell ⟨g, 4, none⟩ (.slice ta2 (al + 1) tc2)) (g + 1) 5 (.slice ta2 (al + 1) tc2) (al + 1) (newsK (fun i => if i = al then (⟨vl, vh, a1, n1, c1, a2, n2, c2, a3, n3, c3⟩ : SV) else K i) (al + 1)) := ho2.keep (by simp) (fun k hk => heap_setCell_other _ _ _ _ (by have := ho2.lt k hk; show k ≠ g; omega))
          have HK8 := Lib.hid (kids_more (v' := .slice ta2 (al + 1) tc2) HAL.out HK3.out HR3.out (fun k h => by have := HOK.out k h; omega) (show g < wr.heap.size from hylt) (fun k hk => ⟨by have := HO3.out.lt k hk; omega, HOW.out k hk⟩) hgr hw2 (.slice ta2 (al + 1) tc2))
          generalize (w2.setCell ⟨g, 4, none⟩ (.slice ta2 (al + 1) tc2)) = u8 at *
          have i6 : u8.cell? ⟨g2, 6, none⟩ = some (.int .i64 rn) := Z8.cell 6 rfl
          have i5 : u8.cell? ⟨g2, 5, none⟩ = some (.int .i64 rp) := Z8.cell 5 rfl
          clear Y3 d4 f4 ho2 hgr hw2 e4 e5 e6 e7 O2 B2 B3 HX3 HY3 HZ3 HK3 HR3 HO3 HSR HLD Z8
          have HX8 := Lib.hid X8
          have HY8 := Lib.hid Y8
          clear X8 Y8
          go_wp2_with fail
          go_roundw
          case rel => exact ⟨rp, rn, al + 1, acc ++ [rv], ta2, tc2, _, by omega, by have := HL'.out; omega, hp3, by omega, rfl, rfl, Lib.hid (by have := HAL.out; simp; exact this), Lib.hid (fun r' h => HTO.out r' (St.more HNC.out HST.out rfl h)), HX8.out, HY8.out, O8, HK8, B8⟩
          case measure => have := HL'.out; simp [intOf]; omega
      · have hqn' : ¬ (q : Int) < (n : Int) := by omega
        clear h41
        go_wp2_with fail
        refine HCA.out.mono ?_
        rintro e w1 ⟨r, hst, v, rfl, hrd, hb1⟩
        obtain ⟨vl, vh, a1, n1, c1, a2, n2, c2, a3, n3, c3⟩ := v
        obtain ⟨rv, rp, rn, re⟩ := r
        dsimp only at hrd ⊢
        have B1 := hB.trans (hb1.mono hB.size)
        have X1 := HX.out.after hb1
        have Y1 := HY.out.after hb1
        have O1 := hO.after hb1
        have HK1 := Lib.hid (fun i hi => (HKD.out i hi).after hb1)
        have hz3 := hB.size
        have hxlt := HX.out.lt
        have HOW := Lib.hid (fun k hk => (hO.lt k hk).2)
        have hylt := HY.out.lt
        have hz4 := hb1.size
        have Z1 := Box.new w1 62 #[.bool false, .bool false, .slice none 0 0, .slice none 0 0, .slice none 0 0, .int .i64 0, .int .i64 0, .int .i64 0]
        have R1 : RdI (fun k => ok k ∨ wr.heap.size ≤ k) (w1.alloc (.cells #[.bool false, .bool false, .slice none 0 0, .slice none 0 0, .slice none 0 0, .int .i64 0, .int .i64 0, .int .i64 0] 62)) ⟨vl, vh, a1, n1, c1, a2, n2, c2, a3, n3, c3⟩ rv := hrd.after ((Below.refl _ _).alloc (Nat.le_refl _) _)
        have hR1 : RdI (fun k => (ok k ∨ wr.heap.size ≤ k) ∧ k < w1.heap.size) w1 ⟨vl, vh, a1, n1, c1, a2, n2, c2, a3, n3, c3⟩ rv := hrd.there
        have HRD := Lib.hid hR1
        have HST := Lib.hid hst
        clear hrd hR1 R1 hst HKD HX HY hO HCA
        go_upto_region 16 with (refine wpList_store_box (cells := #[.bool vl, .bool vh, .slice a1 n1 c1, .slice a2 n2 c2, .slice a3 n3 c3, .int .i64 rp, .int .i64 rn, .int .i64 re]) rfl 62 _ _ rfl Z1 (by rfl) (by rfl) rfl (by kernel_rfl) (by simp [Value.oneCell']) ?_; intro u2 Z2 st2)
        have B2 := st2.below w.heap.size w (Nat.le_trans hz3 hz4) (B1.alloc B1.size _)
        have b12 := st2.below w1.heap.size w1 (Nat.le_refl _) ((Below.refl _ _).alloc (Nat.le_refl _) _)
        have X2 := X1.after b12
        have Y2 := Y1.after b12
        have O2 := O1.after b12
        have HK2 := Lib.hid (fun i hi => (HK1.out i hi).after b12)
        have HR2 := Lib.hid (HRD.out.after b12)
        have hz5 := Z2.lt
        clear X1 Y1 O1 B1 HK1 HRD b12 st2 hb1 Z1
        generalize w1.heap.size = g2 at *
        have e7 : u2.cell? ⟨g2, 7, none⟩ = some (.int .i64 re) := Z2.cell 7 rfl
        have e6 : u2.cell? ⟨g2, 6, none⟩ = some (.int .i64 rn) := Z2.cell 6 rfl
        have e5 : u2.cell? ⟨g2, 5, none⟩ = some (.int .i64 rp) := Z2.cell 5 rfl
        have e4 : u2.cell? ⟨g, 4, none⟩ = some (.slice ta al tc) := Y2.cell 4 rfl
        have HXX := Lib.hid X2
        have HYY := Lib.hid Y2
        have HZZ := Lib.hid Z2
        clear X2 Y2 Z2
        by_cases he : re = 0
        case neg =>
          obtain ⟨z1, z2⟩ := nat_ne he
          have HSF := Lib.hid (HTO.out _ (St.fail HNC.out HST.out he))
          go_wp2_with first | (refine wpList_load_box rfl 62 _ rfl HZZ.out (by rfl) Tryd.underlying62 rfl (by kernel_rfl) ?_) | (refine wpList_store_box (cells := #[.bool vl, .bool vh, .slice a1 n1 c1, .slice a2 n2 c2, .slice a3 n3 c3, .int .i64 rp, .int .i64 rn, .int .i64 re]) rfl 62 _ _ rfl HXX.out (by rfl) (by rfl) rfl (by kernel_rfl) (by simp [Value.oneCell']) ?_; intro u9 X9 st9)
          have B9 := st9.below w.heap.size w (Nat.le_refl _) B2
          exact bodyPost_ret (v := .agg #[.bool vl, .bool vh, .slice a1 n1 c1, .slice a2 n2 c2, .slice a3 n3 c3, .int .i64 rp, .int .i64 rn, .int .i64 re]) (box_result rfl _ _ (by rfl) X9 Tryd.underlying62 rfl (by kernel_rfl)) rfl ⟨_, HSF.out, ⟨vl, vh, a1, n1, c1, a2, n2, c2, a3, n3, c3⟩, rfl, (HR2.out.keep (fun k hk => st9.other k (hk.1.elim (fun h => Nat.ne_of_lt (HOK.out k h)) (fun h => by omega)))).mono (fun k hk => hk.1.imp id (fun h => by omega)), B9⟩
        case pos =>
          subst he
          obtain ⟨hp1, hp2, hp3, hp4⟩ := St_place HST.out rfl (by omega) hcnt
          dsimp only at hp1 hp2 hp3 hp4
          have HLD := Lib.hid (Box.range HZZ.out 0 (SV.cells (⟨vl, vh, a1, n1, c1, a2, n2, c2, a3, n3, c3⟩ : SV)).toList (fun j u hu => by match j, hu with
            | 0, hu => exact hu
            | 1, hu => exact hu
            | 2, hu => exact hu
            | 3, hu => exact hu
            | 4, hu => exact hu
            | k + 5, hu => simp [SV.cells] at hu))
          have HSR := Lib.hid (src_one u2 (⟨vl, vh, a1, n1, c1, a2, n2, c2, a3, n3, c3⟩ : SV))
          have HO3 := Lib.hid (O2.alloc (.cells (SV.cells (⟨vl, vh, a1, n1, c1, a2, n2, c2, a3, n3, c3⟩ : SV)) 25))
          have hz6 := HYY.out.lt
          have B3 := B2.alloc B2.size (.cells (SV.cells (⟨vl, vh, a1, n1, c1, a2, n2, c2, a3, n3, c3⟩ : SV)) 25)
          have HX3 := Lib.hid (HXX.out.alloc (.cells (SV.cells (⟨vl, vh, a1, n1, c1, a2, n2, c2, a3, n3, c3⟩ : SV)) 25))
          have HY3 := Lib.hid (HYY.out.alloc (.cells (SV.cells (⟨vl, vh, a1, n1, c1, a2, n2, c2, a3, n3, c3⟩ : SV)) 25))
          have HZ3 := Lib.hid (HZZ.out.alloc (.cells (SV.cells (⟨vl, vh, a1, n1, c1, a2, n2, c2, a3, n3, c3⟩ : SV)) 25))
          have HK3 := Lib.hid (fun i hi => (HK2.out i hi).after ((Below.refl _ _).alloc (Nat.le_refl _) (.cells (SV.cells (⟨vl, vh, a1, n1, c1, a2, n2, c2, a3, n3, c3⟩ : SV)) 25)))
          have HR3 := Lib.hid (HR2.out.after ((Below.refl _ _).alloc (Nat.le_refl _) (.cells (SV.cells (⟨vl, vh, a1, n1, c1, a2, n2, c2, a3, n3, c3⟩ : SV)) 25)))
          go_upto_region 18 with fail
          go_upto_region 19 with first | (refine wpList_load_sv rfl _ rfl g2 0 rfl (⟨vl, vh, a1, n1, c1, a2, n2, c2, a3, n3, c3⟩ : SV) HLD.out ?_; simp only [SV.val]) | (refine wpList_append_K rfl _ _ rfl rfl HO3.out rfl HSR.out (by omega) (by simp; omega) ?_; intro v2 w2 ho2 hgr hw2; rw [newsK_snoc] at ho2; obtain ⟨ta2, tc2, rfl, _⟩ := ho2.row; have Y3 : Box w2 g 25 #[.bool true, .bool false, .slice none 0 0, .slice none 0 0, .slice ta al tc] := (hgr.block g (by simp; omega) (fun e => by have := HO3.out.lt g e.symm; omega)).trans HY3.out; have d4 := Y3.cell 4 rfl; have f4 := Y3.frozen 4)
          have B8 : Below w.heap.size w (w2.setCell ⟨g, 4, none⟩ (.slice ta2 (al + 1) tc2)) := (B3.grown hgr (by simp; omega) (fun k hk => by have := HO3.out.lt k hk; omega)).setCell (p := ⟨g, 4, none⟩) (by show w.heap.size ≤ g; omega) _
          have Y8 : Box (w2.setCell ⟨g, 4, none⟩ (.slice ta2 (al + 1) tc2)) g 25 #[.bool true, .bool false, .slice none 0 0, .slice none 0 0, .slice ta2 (al + 1) tc2] := Y3.set 4 _
          have X8 : Box (w2.setCell ⟨g, 4, none⟩ (.slice ta2 (al + 1) tc2)) w.heap.size 62 #[.bool false, .bool false, .slice none 0 0, .slice none 0 0, .slice none 0 0, .int .i64 0, .int .i64 0, .int .i64 0] := Box.far (w := w2) ((hgr.block w.heap.size (by simp; omega) (fun e => by have := HO3.out.lt _ e.symm; omega)).trans HX3.out) ⟨g, 4, none⟩ _ (Nat.ne_of_lt hlt1)
          have Z8 : Box (w2.setCell ⟨g, 4, none⟩ (.slice ta2 (al + 1) tc2)) g2 62 #[.bool vl, .bool vh, .slice a1 n1 c1, .slice a2 n2 c2, .slice a3 n3 c3, .int .i64 rp, .int .i64 rn, .int .i64 0] := Box.far (w := w2) ((hgr.block g2 (by simp; omega) (fun e => by have h1 := HO3.out.lt _ e.symm; have h2 := O2.lt g2 e.symm; have h3 := HOW.out g2 e.symm; omega)).trans HZ3.out) ⟨g, 4, none⟩ _ (by show g2 ≠ g; omega)
          have O8 : OwnG (w2.setCell ⟨g, 4, none⟩ (.slice ta2 (al + 1) tc2)) (g + 1) 5 (.slice ta2 (al + 1) tc2) (al + 1) (newsK (fun i => if i = al then (⟨vl, vh, a1, n1, c1, a2, n2, c2, a3, n3, c3⟩ : SV) else K i) (al + 1)) := ho2.keep (by simp) (fun k hk => heap_setCell_other _ _ _ _ (by have := ho2.lt k hk; show k ≠ g; omega))
          have HK8 := Lib.hid (kids_more (v' := .slice ta2 (al + 1) tc2) HAL.out HK3.out HR3.out (fun k h => by have := HOK.out k h; omega) (show g < wr.heap.size from hylt) (fun k hk => ⟨by have := HO3.out.lt k hk; omega, HOW.out k hk⟩) hgr hw2 (.slice ta2 (al + 1) tc2))
          generalize (w2.setCell ⟨g, 4, none⟩ (.slice ta2 (al + 1) tc2)) = u8 at *
          have i6 : u8.cell? ⟨g2, 6, none⟩ = some (.int .i64 rn) := Z8.cell 6 rfl
          have i5 : u8.cell? ⟨g2, 5, none⟩ = some (.int .i64 rp) := Z8.cell 5 rfl
          clear Y3 d4 f4 ho2 hgr hw2 e4 e5 e6 e7 O2 B2 B3 HX3 HY3 HZ3 HK3 HR3 HO3 HSR HLD Z8
          have HX8 := Lib.hid X8
          have HY8 := Lib.hid Y8
          clear X8 Y8
          go_wp2_with fail
          go_roundw
          case rel => exact ⟨rp, rn, al + 1, acc ++ [rv], ta2, tc2, _, by omega, by have := HL'.out; omega, hp3, by omega, rfl, rfl, Lib.hid (by have := HAL.out; simp; exact this), Lib.hid (fun r' h => HTO.out r' (St.more HNC.out HST.out rfl h)), HX8.out, HY8.out, O8, HK8, B8⟩
          case measure => have := HL'.out; simp [intOf]; omega

end Go.Proofs.YtcflgoddfakepaaDoor
namespace Go.Proofs.YtcflgoddfakepaaDoor
open Go.RowKit
set_option linter.unusedSimpArgs false
set_option linter.unusedVariables false

/-- what Get answers: a value, a place, an error -/
def Got (l : List UInt8) (s : Sx) (p e : Nat) : Prop :=
  (4096 < l.length ∧ s = Sx.nil ∧ p = 4096 ∧ e = 4) ∨ (l.length ≤ 4096 ∧ ∃ r, St l none 0 1 0 r ∧ ((r.e ≠ 0 ∧ s = Sx.nil ∧ p = r.p ∧ e = r.e) ∨ (r.e = 0 ∧ r.p < l.length ∧ s = Sx.nil ∧ p = r.p ∧ e = 5) ∨ (r.e = 0 ∧ l.length ≤ r.p ∧ s = r.v ∧ p = 0 ∧ e = 0)))
theorem Got.det {l : List UInt8} {s s' : Sx} {p p' e e' : Nat} (h : Got l s p e) (h' : Got l s' p' e') : s = s' ∧ p = p' ∧ e = e' := by
  rcases h with ⟨h1, h2, h3, h4⟩ | ⟨h1, r, hr, h2⟩
  · rcases h' with ⟨_, h2', h3', h4'⟩ | ⟨h1', _⟩
    · exact ⟨h2.trans h2'.symm, h3.trans h3'.symm, h4.trans h4'.symm⟩
    · omega
  · rcases h' with ⟨h1', _⟩ | ⟨_, r', hr', h2'⟩
    · omega
    · obtain rfl := hr.det hr'
      rcases h2 with ⟨a, b, c, d⟩ | ⟨a, a', b, c, d⟩ | ⟨a, a', b, c, d⟩ <;> rcases h2' with ⟨a1, b1, c1, d1⟩ | ⟨a1, a2, b1, c1, d1⟩ | ⟨a1, a2, b1, c1, d1⟩ <;>
        first | exact ⟨b.trans b1.symm, c.trans c1.symm, d.trans d1.symm⟩ | (exfalso; omega)
def GetP (ok : Nat → Prop) (l : List UInt8) (w : World) (e : Ending) (w' : World) : Prop :=
  ∃ (v : SV) (s : Sx) (p x : Nat), Got l s p x ∧ e = .returned (.tuple #[.agg #[.bool v.l, .bool v.h, .slice v.a1 v.n1 v.c1, .slice v.a2 v.n2 v.c2, .slice v.a3 v.n3 v.c3], .int .i64 p, .int .i64 x]) ∧ RdI (fun k => ok k ∨ w.heap.size ≤ k) w' v s ∧ Below w.heap.size w w'
theorem box_result22 {P : Program} {fn : Func} {p q r : Tmp} {ty : TypeId} (h : fn.results = #[.cell p ty, .tmp q, .tmp r]) (tmps : Array Value) (w : World) {g : Nat} {T : TypeId} {cs : Array Value} {d : TypeDesc}
    (hp : tmps.getD p undef = .pointer (some ⟨g, 0, none⟩)) (hg : Box w g T cs) (hu : P.underlying ty = some d) (hd : (match d with | .struct _ | .array _ _ => true | _ => false) = true) (hi : (P.info? ty).map (·.size) = some cs.size) :
    (results fn tmps).run P w = .ok (.tuple #[.agg cs, tmps.getD q undef, tmps.getD r undef]) w := by
  have hp' : tmps[p]?.getD undef = .pointer (some ⟨g, 0, none⟩) := by simpa using hp
  simp [results, h, hp', asAddr, run_loadVar_row w g T ty cs (0, 0) d hg hu hd hi]

set_option maxHeartbeats 8000000 in
set_option maxRecDepth 100000 in
theorem refGet_any (ok : Nat → Prop) (a : Option Addr) (n c : Nat) (l : List UInt8) (w : World) (hs : Sl w a n c l) (hi : InB ok a n) (hok : ∀ k, ok k → k < w.heap.size) :
    Calls Tryd.prog 21 #[.slice a n c] w (GetP ok l w) := by
  have HS := Lib.hid hs
  have HL := Lib.hid (Nat.le_of_eq hs.1)
  have HL' := Lib.hid (Nat.le_of_eq hs.1.symm)
  have HLQ := HL'
  have B0 : Below w.heap.size w (w.alloc (.cells #[.bool false, .bool false, .slice none 0 0, .slice none 0 0, .slice none 0 0] 25)) := (Below.refl _ _).alloc (Nat.le_refl _) _
  have X0 := Box.new w 25 #[.bool false, .bool false, .slice none 0 0, .slice none 0 0, .slice none 0 0]
  by_cases hlong : 4096 < n
  case pos =>
    have hlong' : (4096 : Int) < (n : Int) := by omega
    clear hs
    go_enter Tryd.func21, Tryd.ntmps21
    go_wp2_with (refine wpList_store_box (cells := #[.bool false, .bool false, .slice none 0 0, .slice none 0 0, .slice none 0 0]) rfl 25 _ _ rfl X0 (by rfl) (by rfl) rfl (by kernel_rfl) (by simp [Value.oneCell']) ?_; intro u9 X9 st9)
    have B9 := st9.below w.heap.size w (Nat.le_refl _) B0
    exact bodyPost_ret (v := .tuple #[.agg #[.bool false, .bool false, .slice none 0 0, .slice none 0 0, .slice none 0 0], .int .i64 4096, .int .i64 4]) (box_result22 (p := 2) (q := 3) (r := 4) rfl _ _ (by rfl) X9 Tryd.underlying25 rfl (by kernel_rfl)) rfl ⟨SV.nil, Sx.nil, 4096, 4, .inl ⟨by have := HL.out; omega, rfl, rfl, rfl⟩, rfl, rd_nil _ _, B9⟩
  
  have hlong' : ¬ (4096 : Int) < (n : Int) := by omega
  have CA : Hid (∀ w', Below w.heap.size w w' → Calls Tryd.prog 35 #[.slice a n c, .int .i64 0, .int .i64 1, .int .i64 0] w' (RS ok l 0 1 0 w')) := Lib.hid fun w' hb => refValue_any ok a n c l (by omega) hi (n + 1) 0 1 0 w' (by omega) (HS.out.after hb) (fun k h => Nat.lt_of_lt_of_le (hok k h) hb.size) (Nat.zero_le _) (by omega) (by omega)
  have HOK := Lib.hid hok
  clear hs hok
  go_enter Tryd.func21, Tryd.ntmps21
  go_wp2_with fail
  refine (CA.out _ B0).mono ?_
  rintro e w1 ⟨r, hst, v, rfl, hrd, hb1⟩
  obtain ⟨vl, vh, a1, n1, c1, a2, n2, c2, a3, n3, c3⟩ := v
  obtain ⟨rv, rp, rn, re⟩ := r
  dsimp only at hrd ⊢
  have B1 := B0.trans (hb1.mono B0.size)
  have X1 := X0.after hb1
  have hz1 := X0.lt
  have hz3 := hb1.size
  have hR1 : RdI (fun k => (ok k ∨ w.heap.size < k) ∧ k < w1.heap.size) w1 ⟨vl, vh, a1, n1, c1, a2, n2, c2, a3, n3, c3⟩ rv := hrd.there.mono (fun k hk => ⟨hk.1.imp id (fun h => by simp at h; omega), hk.2⟩)
  have HRD := Lib.hid hR1
  have HST := Lib.hid hst
  have Z1 := Box.new w1 62 #[.bool false, .bool false, .slice none 0 0, .slice none 0 0, .slice none 0 0, .int .i64 0, .int .i64 0, .int .i64 0]
  clear hrd hR1 hst CA X0 B0
  go_upto_region 4 with (refine wpList_store_box (cells := #[.bool vl, .bool vh, .slice a1 n1 c1, .slice a2 n2 c2, .slice a3 n3 c3, .int .i64 rp, .int .i64 rn, .int .i64 re]) rfl 62 _ _ rfl Z1 (by rfl) (by rfl) rfl (by kernel_rfl) (by simp [Value.oneCell']) ?_; intro u2 Z2 st2)
  have B2 := st2.below w.heap.size w (by omega) (B1.alloc B1.size _)
  have b12 := st2.below w1.heap.size w1 (Nat.le_refl _) ((Below.refl _ _).alloc (Nat.le_refl _) _)
  have X2 := X1.after b12
  have HR2 := Lib.hid (HRD.out.after b12)
  have hz5 := Z2.lt
  have hz6 := X1.lt
  clear X1 B1 HRD b12 st2 hb1 Z1
  generalize w1.heap.size = g2 at *
  have e7 : u2.cell? ⟨g2, 7, none⟩ = some (.int .i64 re) := Z2.cell 7 rfl
  have e5 : u2.cell? ⟨g2, 5, none⟩ = some (.int .i64 rp) := Z2.cell 5 rfl
  have HXX := Lib.hid X2
  have HZZ := Lib.hid Z2
  clear X2 Z2
  by_cases he : re = 0
  case neg =>
    obtain ⟨z1, z2⟩ := nat_ne he
    go_upto_region 5 with fail
    have hKS : Keeps (fun w' => Box w' g2 62 #[.bool vl, .bool vh, .slice a1 n1 c1, .slice a2 n2 c2, .slice a3 n3 c3, .int .i64 rp, .int .i64 rn, .int .i64 re]) := fun w w' h b => h.after b
    refine wp_region_U (w := u2) (fun w' => Box w' g2 62 #[.bool vl, .bool vh, .slice a1 n1 c1, .slice a2 n2 c2, .slice a3 n3 c3, .int .i64 rp, .int .i64 rn, .int .i64 re]) rfl HZZ.out.drew ?_
    refine wpU_val 0 hKS rfl (by kernel_rfl) (by kernel_rfl) (by kernel_rfl) rfl (fun _ _ _ _ h => h) (.agg #[.bool false, .bool false, .slice none 0 0, .slice none 0 0, .slice none 0 0]) (fun w' h => by simp [go_sem]) ?_
    simp only [Act.put, List.setIfInBounds_toArray, List.set_cons_zero, List.set_cons_succ]
    refine wpU_val 1 hKS rfl (by kernel_rfl) (by kernel_rfl) (by kernel_rfl) rfl (fun _ _ _ _ h => h) (.pointer (some ⟨g2, 5, none⟩)) (fun w' h => by simp [go_sem]) ?_
    simp only [Act.put, List.setIfInBounds_toArray, List.set_cons_zero, List.set_cons_succ]
    refine wpU_val 2 hKS rfl (by kernel_rfl) (by kernel_rfl) (by kernel_rfl) rfl (fun _ _ _ _ h => h) (.int .i64 rp) (fun w' h => by simp [go_sem, h.cell 5 rfl]) ?_
    simp only [Act.put, List.setIfInBounds_toArray, List.set_cons_zero, List.set_cons_succ]
    refine wpU_val 3 hKS rfl (by kernel_rfl) (by kernel_rfl) (by kernel_rfl) rfl (fun _ _ _ _ h => h) (.pointer (some ⟨g2, 7, none⟩)) (fun w' h => by simp [go_sem]) ?_
    simp only [Act.put, List.setIfInBounds_toArray, List.set_cons_zero, List.set_cons_succ]
    refine wpU_val 4 hKS rfl (by kernel_rfl) (by kernel_rfl) (by kernel_rfl) rfl (fun _ _ _ _ h => h) (.int .i64 re) (fun w' h => by simp [go_sem, h.cell 7 rfl]) ?_
    simp only [Act.put, List.setIfInBounds_toArray, List.set_cons_zero, List.set_cons_succ]
    refine wpU_store_box (cells := #[.bool false, .bool false, .slice none 0 0, .slice none 0 0, .slice none 0 0]) 5 rfl (by kernel_rfl) rfl 25 _ _ rfl HXX.out.drew (by rfl) (by rfl) rfl (by kernel_rfl) (by simp [Value.oneCell']) ?_
    intro w8 u9 b8 s8 X9 st9
    refine ⟨st9.box s8 (by omega), ?_⟩
    simp only [Act.put, List.setIfInBounds_toArray, List.set_cons_zero, List.set_cons_succ]
    refine wpU_val 6 hKS rfl (by kernel_rfl) (by kernel_rfl) (by kernel_rfl) rfl (fun _ _ _ _ h => h) (.int .i64 rp) (fun w' h => by simp [go_sem]) ?_
    simp only [Act.put, List.setIfInBounds_toArray, List.set_cons_zero, List.set_cons_succ]
    refine wpU_val 7 hKS rfl (by kernel_rfl) (by kernel_rfl) (by kernel_rfl) rfl (fun _ _ _ _ h => h) (.int .i64 re) (fun w' h => by simp [go_sem]) ?_
    simp only [Act.put, List.setIfInBounds_toArray, List.set_cons_zero, List.set_cons_succ]
    refine wpU_done (by kernel_rfl) ?_
    intro w9 b9 s9
    have HX9 := Lib.hid (X9.after b9)
    have B9 := (st9.below w.heap.size w (Nat.le_refl _) (B2.drew.trans (b8.mono B2.size))).trans (b9.mono (Nat.le_trans (Nat.le_trans B2.size b8.size) (Nat.le_of_eq st9.size.symm)))
    clear X9 b9 s9 hKS b8 s8 st9
    go_wp2_with fail
    exact bodyPost_ret (v := .tuple #[.agg #[.bool false, .bool false, .slice none 0 0, .slice none 0 0, .slice none 0 0], .int .i64 rp, .int .i64 re]) (box_result22 (p := 2) (q := 3) (r := 4) rfl _ _ (by rfl) HX9.out Tryd.underlying25 rfl (by kernel_rfl)) rfl ⟨SV.nil, Sx.nil, rp, re, .inr ⟨by have := HLQ.out; omega, _, HST.out, .inl ⟨he, rfl, rfl, rfl⟩⟩, rfl, rd_nil _ _, B9⟩
  
  subst he
  by_cases hmore : rp < n
  case pos =>
    have hmore' : (rp : Int) < (n : Int) := by omega
    go_upto_region 7 with fail
    have hKS : Keeps (fun w' => Box w' g2 62 #[.bool vl, .bool vh, .slice a1 n1 c1, .slice a2 n2 c2, .slice a3 n3 c3, .int .i64 rp, .int .i64 rn, .int .i64 0]) := fun w w' h b => h.after b
    refine wp_region_U (w := u2) (fun w' => Box w' g2 62 #[.bool vl, .bool vh, .slice a1 n1 c1, .slice a2 n2 c2, .slice a3 n3 c3, .int .i64 rp, .int .i64 rn, .int .i64 0]) rfl HZZ.out.drew ?_
    refine wpU_val 0 hKS rfl (by kernel_rfl) (by kernel_rfl) (by kernel_rfl) rfl (fun _ _ _ _ h => h) (.agg #[.bool false, .bool false, .slice none 0 0, .slice none 0 0, .slice none 0 0]) (fun w' h => by simp [go_sem]) ?_
    simp only [Act.put, List.setIfInBounds_toArray, List.set_cons_zero, List.set_cons_succ]
    refine wpU_val 1 hKS rfl (by kernel_rfl) (by kernel_rfl) (by kernel_rfl) rfl (fun _ _ _ _ h => h) (.pointer (some ⟨g2, 5, none⟩)) (fun w' h => by simp [go_sem]) ?_
    simp only [Act.put, List.setIfInBounds_toArray, List.set_cons_zero, List.set_cons_succ]
    refine wpU_val 2 hKS rfl (by kernel_rfl) (by kernel_rfl) (by kernel_rfl) rfl (fun _ _ _ _ h => h) (.int .i64 rp) (fun w' h => by simp [go_sem, h.cell 5 rfl]) ?_
    simp only [Act.put, List.setIfInBounds_toArray, List.set_cons_zero, List.set_cons_succ]
    refine wpU_store_box (cells := #[.bool false, .bool false, .slice none 0 0, .slice none 0 0, .slice none 0 0]) 3 rfl (by kernel_rfl) rfl 25 _ _ rfl HXX.out.drew (by rfl) (by rfl) rfl (by kernel_rfl) (by simp [Value.oneCell']) ?_
    intro w8 u9 b8 s8 X9 st9
    refine ⟨st9.box s8 (by omega), ?_⟩
    simp only [Act.put, List.setIfInBounds_toArray, List.set_cons_zero, List.set_cons_succ]
    refine wpU_val 4 hKS rfl (by kernel_rfl) (by kernel_rfl) (by kernel_rfl) rfl (fun _ _ _ _ h => h) (.int .i64 rp) (fun w' h => by simp [go_sem]) ?_
    simp only [Act.put, List.setIfInBounds_toArray, List.set_cons_zero, List.set_cons_succ]
    refine wpU_val 5 hKS rfl (by kernel_rfl) (by kernel_rfl) (by kernel_rfl) rfl (fun _ _ _ _ h => h) (.int .i64 5) (fun w' h => by simp [go_sem]) ?_
    simp only [Act.put, List.setIfInBounds_toArray, List.set_cons_zero, List.set_cons_succ]
    refine wpU_done (by kernel_rfl) ?_
    intro w9 b9 s9
    have HX9 := Lib.hid (X9.after b9)
    have B9 := (st9.below w.heap.size w (Nat.le_refl _) (B2.drew.trans (b8.mono B2.size))).trans (b9.mono (Nat.le_trans (Nat.le_trans B2.size b8.size) (Nat.le_of_eq st9.size.symm)))
    clear X9 b9 s9 hKS b8 s8 st9
    go_wp2_with fail
    exact bodyPost_ret (v := .tuple #[.agg #[.bool false, .bool false, .slice none 0 0, .slice none 0 0, .slice none 0 0], .int .i64 rp, .int .i64 5]) (box_result22 (p := 2) (q := 3) (r := 4) rfl _ _ (by rfl) HX9.out Tryd.underlying25 rfl (by kernel_rfl)) rfl ⟨SV.nil, Sx.nil, rp, 5, .inr ⟨by have := HLQ.out; omega, _, HST.out, .inr (.inl ⟨rfl, by have := HL.out; exact Nat.lt_of_lt_of_le hmore this, rfl, rfl, rfl⟩)⟩, rfl, rd_nil _ _, B9⟩
  
  have hmore' : ¬ (rp : Int) < (n : Int) := by omega
  have HLD := Lib.hid (Box.range HZZ.out 0 (SV.cells ⟨vl, vh, a1, n1, c1, a2, n2, c2, a3, n3, c3⟩).toList (fun j u hu => by match j, hu with
    | 0, hu => exact hu
    | 1, hu => exact hu
    | 2, hu => exact hu
    | 3, hu => exact hu
    | 4, hu => exact hu
    | k + 5, hu => simp [SV.cells] at hu))
  go_wp2_with first | (refine wpList_load_sv rfl _ rfl g2 0 rfl ⟨vl, vh, a1, n1, c1, a2, n2, c2, a3, n3, c3⟩ HLD.out ?_; simp only [SV.val]) | (refine wpList_store_box (cells := #[.bool vl, .bool vh, .slice a1 n1 c1, .slice a2 n2 c2, .slice a3 n3 c3]) rfl 25 _ _ rfl HXX.out (by rfl) (by rfl) rfl (by kernel_rfl) (by simp [Value.oneCell']) ?_; intro u9 X9 st9)
  have B9 := st9.below w.heap.size w (Nat.le_refl _) B2
  exact bodyPost_ret (v := .tuple #[.agg #[.bool vl, .bool vh, .slice a1 n1 c1, .slice a2 n2 c2, .slice a3 n3 c3], .int .i64 0, .int .i64 0]) (box_result22 (p := 2) (q := 3) (r := 4) rfl _ _ (by rfl) X9 Tryd.underlying25 rfl (by kernel_rfl)) rfl ⟨⟨vl, vh, a1, n1, c1, a2, n2, c2, a3, n3, c3⟩, rv, 0, 0, .inr ⟨by have := HLQ.out; omega, _, HST.out, .inr (.inr ⟨rfl, by have := HLQ.out; show l.length ≤ rp; omega, rfl, rfl, rfl⟩)⟩, rfl, (HR2.out.keep (fun k hk => st9.other k (hk.1.elim (fun h => Nat.ne_of_lt (HOK.out k h)) (fun h => by omega)))).mono (fun k hk => hk.1.imp id (fun h => by omega)), B9⟩

end Go.Proofs.YtcflgoddfakepaaDoor
namespace Go.Proofs.YtcflgoddfakepaaDoor
open Go.RowKit

/-- from a stack of open lists (the innermost first), a place, and how many values began, to what is read in the end -/
inductive Mach (l : List UInt8) : List (List Sx) → Nat → Nat → RV → Prop
  | short {st : List (List Sx)} {p n : Nat} : l.length ≤ p → Mach l st p n (RV.err l.length 2)
  | bad {st : List (List Sx)} {p n : Nat} : p < l.length → ¬ starts (l.getD p 0) → (l.getD p 0 = 41 → st = []) → Mach l st p n (RV.err p 3)
  | long {st : List (List Sx)} {p n : Nat} : p < l.length → starts (l.getD p 0) → (512 < n + 1 ∨ l.getD p 0 = 40 ∧ 16 ≤ st.length) → Mach l st p n (RV.err p 4)
  | fail {st : List (List Sx)} {p n : Nat} : p < l.length → starts (l.getD p 0) → l.getD p 0 ≠ 40 → n + 1 ≤ 512 → (rAtom l p (n + 1)).e ≠ 0 → Mach l st p n (rAtom l p (n + 1))
  | atom {p n : Nat} : p < l.length → starts (l.getD p 0) → l.getD p 0 ≠ 40 → n + 1 ≤ 512 → (rAtom l p (n + 1)).e = 0 → Mach l [] p n (rAtom l p (n + 1))
  | more {ks : List Sx} {st : List (List Sx)} {p n : Nat} {r : RV} : p < l.length → starts (l.getD p 0) → l.getD p 0 ≠ 40 → n + 1 ≤ 512 → (rAtom l p (n + 1)).e = 0 →
      Mach l ((ks ++ [(rAtom l p (n + 1)).v]) :: st) (rAtom l p (n + 1)).p (n + 1) r → Mach l (ks :: st) p n r
  | opens {st : List (List Sx)} {p n : Nat} {r : RV} : p < l.length → l.getD p 0 = 40 → n + 1 ≤ 512 → st.length < 16 → Mach l ([] :: st) (p + 1) (n + 1) r → Mach l st p n r
  | close {ks : List Sx} {p n : Nat} : p < l.length → l.getD p 0 = 41 → Mach l [ks] p n ⟨.mk true false [] [] ks, p + 1, n, 0⟩
  | closes {ks kt : List Sx} {st : List (List Sx)} {p n : Nat} {r : RV} : p < l.length → l.getD p 0 = 41 → Mach l ((kt ++ [.mk true false [] [] ks]) :: st) (p + 1) n r → Mach l (ks :: kt :: st) p n r

/-- what was read of the innermost list goes on into the lists around it -/
def Up (l : List UInt8) : List (List Sx) → RV → RV → Prop
  | [], r1, r => r = r1
  | ks :: st, r1, r => if r1.e ≠ 0 then r = r1 else ∃ r2, St l (some (ks ++ [r1.v])) r1.p (st.length + 1) r1.n r2 ∧ Up l st r2 r
theorem Up.err {l : List UInt8} {st : List (List Sx)} {r : RV} (h : r.e ≠ 0) : Up l st r r := by
  cases st with
  | nil => rfl
  | cons => unfold Up; rw [if_pos h]
theorem Up.same {l : List UInt8} {st : List (List Sx)} {r1 r : RV} (h : Up l st r1 r) (he : r1.e ≠ 0) : r = r1 := by
  cases st with
  | nil => exact h
  | cons => unfold Up at h; rwa [if_pos he] at h
/-- what the machine reads, as the document's reading -/
def MSt (l : List UInt8) : List (List Sx) → Nat → Nat → RV → Prop
  | [], p, n, r => St l none p 1 n r
  | ks :: st, p, n, r => ∃ r1, St l (some ks) p (st.length + 1) n r1 ∧ Up l st r1 r
/-- a value that is read at a place, as what stands next -/
theorem MSt.next {l : List UInt8} {st : List (List Sx)} {p n : Nat} {r1 r : RV} (h : St l none p (st.length + 1) n r1) (hc : p < l.length → l.getD p 0 = 41 → st = []) (hu : Up l st r1 r) : MSt l st p n r := by
  cases st with
  | nil => obtain rfl : r = r1 := hu; exact h
  | cons ks st =>
    have hno : ¬ (p < l.length ∧ l.getD p 0 = 41) := fun e => by have := hc e.1 e.2; cases this
    by_cases he : r1.e = 0
    · unfold Up at hu
      rw [if_neg (by simpa using he)] at hu
      obtain ⟨r2, h2, hu2⟩ := hu
      exact ⟨r2, St.more hno h he h2, hu2⟩
    · obtain rfl := hu.same he
      exact ⟨r, St.fail hno h he, Up.err he⟩
theorem starts_not41 {c : UInt8} (h : starts c) : c ≠ 41 := by
  rintro rfl
  rcases h with h | h | h
  · exact absurd h (by decide)
  · exact absurd h (by decide)
  · exact absurd h (not_isD (by decide))
theorem rAtom_n {l : List UInt8} {p n : Nat} (h : (rAtom l p n).e = 0) : (rAtom l p n).n = n := by
  revert h
  unfold rAtom
  split
  · dsimp only
    split
    · intro h; rename_i h1; exact absurd h (by simpa [RV.err] using h1)
    · split
      · intro h; cases h
      · split
        · intro h; cases h
        · split
          · intro h; rename_i h1; exact absurd h (by simpa [RV.err] using h1)
          · intro _; rfl
  · dsimp only
    split
    · intro h; rename_i h1; exact absurd h (by simpa [RV.err] using h1)
    · intro _; rfl
theorem Mach.toSt {l : List UInt8} {st : List (List Sx)} {p n : Nat} {r : RV} (h : Mach l st p n r) : MSt l st p n r := by
  induction h with
  | @short st p n h1 => exact MSt.next (St.short h1) (fun h => by omega) (Up.err (by simp [RV.err]))
  | bad h1 h2 h3 => exact MSt.next (St.bad h1 h2) (fun _ => h3) (Up.err (by simp [RV.err]))
  | long h1 h2 h3 => exact MSt.next (St.long h1 h2 (h3.imp id (fun h => ⟨h.1, by omega⟩))) (fun _ h => absurd h (starts_not41 h2)) (Up.err (by simp [RV.err]))
  | fail h1 h2 h3 h4 h5 => exact MSt.next (St.atom h1 h2 h3 h4) (fun _ h => absurd h (starts_not41 h2)) (Up.err h5)
  | atom h1 h2 h3 h4 h5 => exact St.atom h1 h2 h3 h4
  | @more ks st p n r h1 h2 h3 h4 h5 _ ih =>
    refine MSt.next (St.atom h1 h2 h3 h4) (fun _ h => absurd h (starts_not41 h2)) ?_
    obtain ⟨r2, h6, h7⟩ := ih
    unfold Up
    rw [if_neg (by simpa using h5)]
    exact ⟨r2, by rw [rAtom_n h5]; exact h6, h7⟩
  | @opens st p n r h1 h2 h3 h4 _ ih =>
    obtain ⟨r1, h6, h7⟩ := ih
    exact MSt.next (St.list h1 h2 h3 (by omega) h6) (fun _ h => by rw [h2] at h; exact absurd h (by decide)) h7
  | close h1 h2 => exact ⟨_, St.close h1 h2, rfl⟩
  | @closes ks kt st p n r h1 h2 _ ih =>
    obtain ⟨r2, h6, h7⟩ := ih
    refine ⟨_, St.close h1 h2, ?_⟩
    unfold Up
    rw [if_neg (by simp)]
    exact ⟨r2, h6, h7⟩
end Go.Proofs.YtcflgoddfakepaaDoor
namespace Go.Proofs.YtcflgoddfakepaaDoor
open Go.RowKit

theorem got_ok {l : List UInt8} {s : Sx} {p : Nat} (h : Got l s p 0) : s.form = l ∧ s.may = true ∧ s.wide 0 = false ∧ p = 0 := by
  rcases h with ⟨_, _, _, h⟩ | ⟨h1, r, hr, ⟨h2, _, _, h3⟩ | ⟨_, _, _, _, h3⟩ | ⟨h2, h3, h4, h5, _⟩⟩
  · cases h
  · exact absurd h3.symm h2
  · cases h3
  · subst h4
    obtain ⟨k1, k2, k3, k4, k5, k6, k7⟩ := St_ok hr h2 (by omega) (by omega)
    have e : r.v.form = l := by
      rw [List.drop_zero, List.drop_of_length_le h3, List.append_nil] at k1
      exact k1.symm
    refine ⟨e, ?_, wide_of _ 0 k4 (by omega) (by rw [e]; omega) (by omega), h5⟩
    unfold Sx.may
    rw [k4, decide_eq_true (show r.v.nodes ≤ 512 by omega), decide_eq_true (show r.v.deep ≤ 16 by omega), decide_eq_true (show r.v.form.length ≤ 4096 by rw [e]; exact h1)]
    rfl
theorem got_form {s : Sx} (h : s.may = true) : Got s.form s 0 0 := by
  obtain ⟨h1, h2, h3, h4⟩ := may_parts h
  have := St_form (l := s.form) s 0 1 0 [] h1 (by simp) (by omega) (by omega) h4
  exact .inr ⟨h4, _, this, .inr (.inr ⟨rfl, by simp, rfl, rfl, rfl⟩)⟩
theorem got_cut {s : Sx} (h : s.may = true) {k : Nat} (hk : k < s.form.length) : Got (s.form.take k) Sx.nil k 2 := by
  obtain ⟨h1, h2, h3, h4⟩ := may_parts h
  have hlen : (s.form.take k).length = k := by simp; omega
  have := St_cut (l := s.form.take k) s 0 1 0 k h1 (by simp) hk (by omega) (by omega) h4 (Nat.zero_le _)
  rw [hlen] at this
  exact .inr ⟨by omega, _, this, .inl ⟨by simp [RV.err], rfl, rfl, rfl⟩⟩
theorem got_more {s : Sx} (h : s.may = true) {more : List UInt8} (hm : more ≠ []) (hl : s.form.length + more.length ≤ 4096) : Got (s.form ++ more) Sx.nil s.form.length 5 := by
  obtain ⟨h1, h2, h3, h4⟩ := may_parts h
  have hp : 0 < more.length := List.length_pos_iff.2 hm
  have := St_form (l := s.form ++ more) s 0 1 0 more h1 (by simp) (by omega) (by omega) h4
  exact .inr ⟨by simp; omega, _, this, .inr (.inl ⟨rfl, by simp; omega, rfl, by simp, rfl⟩)⟩
end Go.Proofs.YtcflgoddfakepaaDoor
namespace Go.Proofs.YtcflgoddfakepaaDoor
open Go.RowKit
set_option linter.unusedSimpArgs false
set_option linter.unusedVariables false

def CloneP (l : List UInt8) (w : World) (e : Ending) (w' : World) : Prop := ∃ v', e = .returned v' ∧ OwnB w' w.heap.size v' l ∧ Below w.heap.size w w'

set_option maxHeartbeats 2000000 in
set_option maxRecDepth 100000 in
theorem cloneB_any (a : Option Addr) (n c : Nat) (l : List UInt8) (w : World) (hs : Sl w a n c l) (hn : n ≤ 1000000) : Calls Tryd.prog 51 #[.slice a n c] w (CloneP l w) := by
  cases a with
  | none =>
    have hc := hs.2.2.2.1 rfl
    have hle := hs.2.1
    have hl := hs.1
    have e : l = [] := List.eq_nil_of_length_eq_zero (by omega)
    obtain rfl : n = 0 := by omega
    subst hc e
    clear hle hl hs
    have hnn : ∀ W, (binOp .eql 22 (.slice none 0 0) (.slice none 0 0)).run Tryd.prog W = .ok (.bool true) W := fun _ => rfl
    go_enter Tryd.func51, Tryd.ntmps51
    go_wp2_with fail
    go_ret
    exact ⟨_, rfl, OwnB.nil _ _, Below.refl _ _⟩
  | some ad =>
    have hnn : ∀ W, (binOp .eql 22 (.slice (some ad) n c) (.slice none 0 0)).run Tryd.prog W = .ok (.bool false) W := fun _ => rfl
    have hb0 : Below w.heap.size w (w.alloc (.cells #[] 5)) := (Below.refl _ _).alloc (Nat.le_refl _) _
    have ho0 : OwnB (w.alloc (.cells #[] 5)) w.heap.size (.slice (some ⟨w.heap.size, 0, none⟩) 0 0) [] := OwnG.new w w.heap.size 1 (Nat.le_refl _) #[] 5 0 0 (Nat.le_refl _) (Nat.zero_le _) rfl
    have HO := Lib.hid ho0
    have HS := Lib.hid (hs.after hb0)
    have HL := Lib.hid hs.1
    clear ho0 hs
    go_enter Tryd.func51, Tryd.ntmps51
    go_wp2_with (refine wpList_append_B rfl _ _ rfl rfl HO.out rfl HS.out (by have := HL.out; simp only [List.length_nil]; omega) (by simp) ?_; intro v2 w2 ho2 hg2)
    rw [List.nil_append] at ho2
    have hB := hb0.grown hg2 (by simp) (fun k hk => by cases hk; exact Nat.le_refl _)
    clear hg2
    go_ret
    exact ⟨v2, rfl, ho2, hB⟩

set_option maxHeartbeats 2000000 in
set_option maxRecDepth 100000 in
theorem bclone_any (a : Option Addr) (n c : Nat) (l : List UInt8) (w : World) (hs : Sl w a n c l) (hn : n ≤ 1000000) : Calls Tryd.prog 28 #[.slice a n c] w (CloneP l w) := by
  cases a with
  | none =>
    have hc := hs.2.2.2.1 rfl
    have hle := hs.2.1
    have hl := hs.1
    have e : l = [] := List.eq_nil_of_length_eq_zero (by omega)
    obtain rfl : n = 0 := by omega
    subst hc e
    clear hle hl hs
    have hnn : ∀ W, (binOp .eql 22 (.slice none 0 0) (.slice none 0 0)).run Tryd.prog W = .ok (.bool true) W := fun _ => rfl
    go_enter Tryd.func28, Tryd.ntmps28
    go_wp2_with fail
    go_ret
    exact ⟨_, rfl, OwnB.nil _ _, Below.refl _ _⟩
  | some ad =>
    have hnn : ∀ W, (binOp .eql 22 (.slice (some ad) n c) (.slice none 0 0)).run Tryd.prog W = .ok (.bool false) W := fun _ => rfl
    have hb0 : Below w.heap.size w (w.alloc (.cells #[] 5)) := (Below.refl _ _).alloc (Nat.le_refl _) _
    have ho0 : OwnB (w.alloc (.cells #[] 5)) w.heap.size (.slice (some ⟨w.heap.size, 0, none⟩) 0 0) [] := OwnG.new w w.heap.size 1 (Nat.le_refl _) #[] 5 0 0 (Nat.le_refl _) (Nat.zero_le _) rfl
    have HO := Lib.hid ho0
    have HS := Lib.hid (hs.after hb0)
    have HL := Lib.hid hs.1
    clear ho0 hs
    go_enter Tryd.func28, Tryd.ntmps28
    go_wp2_with (refine wpList_append_B rfl _ _ rfl rfl HO.out rfl HS.out (by have := HL.out; simp only [List.length_nil]; omega) (by simp) ?_; intro v2 w2 ho2 hg2)
    rw [List.nil_append] at ho2
    have hB := hb0.grown hg2 (by simp) (fun k hk => by cases hk; exact Nat.le_refl _)
    clear hg2
    go_ret
    exact ⟨v2, rfl, ho2, hB⟩

end Go.Proofs.YtcflgoddfakepaaDoor
namespace Go.Proofs.YtcflgoddfakepaaDoor
open Go.RowKit
set_option linter.unusedSimpArgs false
set_option linter.unusedVariables false

/-- the reader's cells -/
abbrev RdC (a : Option Addr) (n c : Nat) (p m : Nat) (vo : Value) : Array Value := #[.slice a n c, .int .i64 p, .int .i64 m, vo]
/-- a fault is thrown -/
def FaultE (p e : Nat) : Ending := .panicked [{ v := .iface 56 (.agg #[.int .i64 p, .int .i64 e]), recovered := false }]

/-- sign: either a fault or a step -/
def SignP (g : Nat) (a : Option Addr) (n c : Nat) (l : List UInt8) (p m : Nat) (vo : Value) (ch : UInt8) (w : World) (e : Ending) (w' : World) : Prop :=
  But (fun k => k = g) w w' ∧ ((l.length ≤ p ∧ e = FaultE l.length 2) ∨ (p < l.length ∧ l.getD p 0 ≠ ch ∧ e = FaultE p 3) ∨
    (p < l.length ∧ l.getD p 0 = ch ∧ e = .returned (.tuple #[]) ∧ Box w' g 59 (RdC a n c (p + 1) m vo)))
theorem but_set {w : World} {g : Nat} (i : Nat) (v : Value) : But (fun k => k = g) w (w.setCell ⟨g, i, none⟩ v) := (But.refl (fun k => k = g) w).setCell (p := ⟨g, i, none⟩) (.inl rfl) v
theorem But.drewN {S : Nat → Prop} {w1 w2 : World} (h : But S w1 w2) (n : Nat) : But S w1 (w2.drewN n) := ⟨h.os, h.tape, h.output, h.size, h.block⟩
theorem Box.drewN {w : World} {g : Nat} {T : TypeId} {cs : Array Value} (h : Box w g T cs) (n : Nat) : Box (w.drewN n) g T cs := h
theorem byteIntNe {x y : UInt8} (h : x ≠ y) : ((x.toNat : Int) == (y.toNat : Int)) = false ∧ ((x.toNat : Int) != (y.toNat : Int)) = true := by
  have h1 : ((x.toNat : Int) == (y.toNat : Int)) = false := beq_eq_false_iff_ne.2 (fun e => h (UInt8.toNat_inj.1 (Int.ofNat.inj e)))
  exact ⟨h1, by rw [bne, h1]; rfl⟩

set_option maxHeartbeats 4000000 in
set_option maxRecDepth 100000 in
theorem sign_any (g : Nat) (a : Option Addr) (n c : Nat) (l : List UInt8) (p m : Nat) (vo : Value) (ch : UInt8) (w : World) (hX : Box w g 59 (RdC a n c p m vo)) (hs : Sl w a n c l) (hn : n ≤ 100000) (hp : p ≤ 200000) :
    Calls Tryd.prog 47 #[.pointer (some ⟨g, 0, none⟩), .int .u8 (ch.toNat : Int)] w (SignP g a n c l p m vo ch w) := by
  have HL := Lib.hid (Nat.le_of_eq hs.1)
  have HL' := Lib.hid (Nat.le_of_eq hs.1.symm)
  have x0 : w.cell? ⟨g, 0, none⟩ = some (.slice a n c) := hX.cell 0 rfl
  have x1 : w.cell? ⟨g, 1, none⟩ = some (.int .i64 p) := hX.cell 1 rfl
  have f1 := hX.frozen 1
  by_cases hlong : n ≤ p
  · have hlong' : (n : Int) ≤ (p : Int) := by omega
    clear hs hX
    go_enter Tryd.func47, Tryd.ntmps47
    go_wp2_with fail
    go_quiet (fail)
    go_wp2_with fail
    exact ⟨rfl, (But.refl _ _).drewN _, .inl ⟨by have := HL'.out; omega, by have h1 := HL.out; have h2 := HL'.out; rw [show l.length = n by omega]; rfl⟩⟩
  have hlong' : ¬ (n : Int) ≤ (p : Int) := by omega
  obtain ⟨b, o, rfl, hc⟩ : ∃ b o, a = some ⟨b, o, none⟩ ∧ ∀ i, i < n → w.cell? ⟨b, o + i, none⟩ = some (.int .u8 ((l.getD i 0).toNat : Int)) := by
    rcases hs.2.2.2.2 with h0 | h0
    · omega
    · exact h0
  have q0 := hc p (by omega)
  obtain ⟨x, hx⟩ : ∃ x, x = l.getD p 0 := ⟨_, rfl⟩
  rw [← hx] at q0
  have HX := Lib.hid hx
  have HB := Lib.hid hX
  have hplt : p < n := by omega
  clear hx hc hs hX
  by_cases he : x = ch
  · subst he
    have e1 : ((x.toNat : Int) != (x.toNat : Int)) = false := by simp
    go_enter Tryd.func47, Tryd.ntmps47
    go_wp2_with fail
    go_quiet (fail)
    go_wp2_with fail
    go_quiet (fail)
    go_wp2_with fail
    exact bodyPost_ret (results_none rfl _ _ _) rfl ⟨((But.refl (fun k => k = g) w).drewN _).setCell (p := ⟨g, 1, none⟩) (.inl rfl) _, .inr (.inr ⟨by have := HL.out; omega, HX.out.symm, rfl, (HB.out.drewN _).set 1 _⟩)⟩
  · obtain ⟨z1, z2⟩ := byteIntNe he
    have HE := Lib.hid he
    clear he
    go_enter Tryd.func47, Tryd.ntmps47
    go_wp2_with fail
    go_quiet (fail)
    go_wp2_with fail
    go_quiet (fail)
    go_wp2_with fail
    exact ⟨rfl, (But.refl _ _).drewN _, .inr (.inl ⟨by have := HL.out; omega, by rw [← HX.out]; exact HE.out, rfl⟩)⟩

/-- too many values, or too deep -/
def Over (m d : Nat) (ls : Bool) : Prop := 512 < m + 1 ∨ ls = true ∧ 16 ≤ d
/-- begins: a value may begin, or not -/
def BeginsP (g : Nat) (a : Option Addr) (n c : Nat) (p m d : Nat) (vo : Value) (ls : Bool) (w : World) (e : Ending) (w' : World) : Prop :=
  But (fun k => k = g) w w' ∧ ((Over m d ls ∧ e = FaultE p 4) ∨ (¬ Over m d ls ∧ e = .returned (.tuple #[]) ∧ Box w' g 59 (RdC a n c p (m + 1) vo)))

set_option maxHeartbeats 4000000 in
set_option maxRecDepth 100000 in
theorem begins_any (g : Nat) (a : Option Addr) (n c p m : Nat) (ao : Option Addr) (d co : Nat) (ls : Bool) (w : World) (hX : Box w g 59 (RdC a n c p m (.slice ao d co))) (hm : m ≤ 100000) (hd : d ≤ 100000) :
    Calls Tryd.prog 42 #[.pointer (some ⟨g, 0, none⟩), .bool ls] w (BeginsP g a n c p m d (.slice ao d co) ls w) := by
  have x2 : w.cell? ⟨g, 2, none⟩ = some (.int .i64 m) := hX.cell 2 rfl
  have f2 := hX.frozen 2
  have B2 : Box (w.setCell ⟨g, 2, none⟩ (.int .i64 ((m : Int) + 1))) g 59 (RdC a n c p (m + 1) (.slice ao d co)) := hX.set 2 _
  have y1 : (w.setCell ⟨g, 2, none⟩ (.int .i64 ((m : Int) + 1))).cell? ⟨g, 1, none⟩ = some (.int .i64 p) := B2.cell 1 rfl
  have y2 : (w.setCell ⟨g, 2, none⟩ (.int .i64 ((m : Int) + 1))).cell? ⟨g, 2, none⟩ = some (.int .i64 ((m : Int) + 1)) := B2.cell 2 rfl
  have y3 : (w.setCell ⟨g, 2, none⟩ (.int .i64 ((m : Int) + 1))).cell? ⟨g, 3, none⟩ = some (.slice ao d co) := B2.cell 3 rfl
  have HB2 := Lib.hid B2
  have HBut := Lib.hid (but_set (w := w) (g := g) 2 (.int .i64 ((m : Int) + 1)))
  clear hX B2
  by_cases hm5 : 512 < m + 1
  · have HT := Lib.hid (show Over m d ls from .inl hm5)
    have hm5' : (512 : Int) < (m : Int) + 1 := by omega
    go_enter Tryd.func42, Tryd.ntmps42
    go_upto_region 1 with fail
    change Code.wp _ _ _ _ (w.setCell ⟨g, 2, none⟩ (.int .i64 ((m : Int) + 1)))
    generalize w.setCell ⟨g, 2, none⟩ (.int .i64 ((m : Int) + 1)) = u at *
    go_wp2_with fail
    exact ⟨rfl, HBut.out, .inl ⟨HT.out, rfl⟩⟩
  have hm5' : ¬ (512 : Int) < (m : Int) + 1 := by omega
  cases ls with
  | false =>
    have HT := Lib.hid (show ¬ Over m d false from fun h => h.elim hm5 (fun h => by cases h.1))
    clear hm5
    go_enter Tryd.func42, Tryd.ntmps42
    go_upto_region 1 with fail
    change Code.wp _ _ _ _ (w.setCell ⟨g, 2, none⟩ (.int .i64 ((m : Int) + 1)))
    generalize w.setCell ⟨g, 2, none⟩ (.int .i64 ((m : Int) + 1)) = u at *
    go_wp2_with fail
    exact bodyPost_ret (results_none rfl _ _ _) rfl ⟨HBut.out, .inr ⟨HT.out, rfl, HB2.out⟩⟩
  | true =>
    by_cases hd : 16 ≤ d
    · have HT := Lib.hid (show Over m d true from .inr ⟨rfl, hd⟩)
      have hd' : (16 : Int) ≤ (d : Int) := by omega
      clear hm5
      go_enter Tryd.func42, Tryd.ntmps42
      go_upto_region 1 with fail
      change Code.wp _ _ _ _ (w.setCell ⟨g, 2, none⟩ (.int .i64 ((m : Int) + 1)))
      generalize w.setCell ⟨g, 2, none⟩ (.int .i64 ((m : Int) + 1)) = u at *
      go_wp2_with fail
      exact ⟨rfl, HBut.out, .inl ⟨HT.out, rfl⟩⟩
    · have HT := Lib.hid (show ¬ Over m d true from fun h => h.elim hm5 (fun h => hd h.2))
      have hd' : ¬ (16 : Int) ≤ (d : Int) := by omega
      clear hm5
      go_enter Tryd.func42, Tryd.ntmps42
      go_upto_region 1 with fail
      change Code.wp _ _ _ _ (w.setCell ⟨g, 2, none⟩ (.int .i64 ((m : Int) + 1)))
      generalize w.setCell ⟨g, 2, none⟩ (.int .i64 ((m : Int) + 1)) = u at *
      go_wp2_with fail
      exact bodyPost_ret (results_none rfl _ _ _) rfl ⟨HBut.out, .inr ⟨HT.out, rfl, HB2.out⟩⟩

end Go.Proofs.YtcflgoddfakepaaDoor

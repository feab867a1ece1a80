import Derived.Test.YtmmkaclmgnpplaaGreatDoorMz9
import Derived.Laws.FloatArith
set_option maxRecDepth 100000
set_option maxHeartbeats 64000000
set_option linter.unusedSimpArgs false
set_option linter.unusedVariables false
namespace Go.Proofs.YtmmkaclmgnpplaaGreatDoor
open Go.RowKit
theorem vC {P : Program} {o : Oper} {a : Act} {w : World} {K : Act → World → Prop} {Q : Exit → Act → World → Prop} (f : FuncId) (args : Array Value) (hr : (execOp a.eval o).run P w = .ok (.enter f args) w) (R : Ending → World → Prop) (hc : Calls P f args w R)
  (h : ∀ e w', R e w' → (∃ v, e = .returned v ∧ K (a.put o.dst v) w') ∨ (∃ c, e = .panicked c ∧ Q (.panic c) a w')) : o.wp P a w K Q := by
 unfold Oper.wp
 rw [hr]
 refine hc.mono fun e w' he => ?_
 rcases h e w' he with ⟨v, rfl, hv⟩ | ⟨c, rfl, hq⟩
 ·exact hv
 ·exact hq
theorem qe {w w1 w2 : World} {row : Option Nat} (h : w.grownBy w1 row) (hb : Below w1.heap.size w1 w2) : w.grownBy w2 row :=
 ⟨hb.os.trans h.os, hb.tape.trans h.tape, hb.output.trans h.output, Nat.le_trans h.size hb.size, fun k hk gj => (hb.block k (Nat.lt_of_lt_of_le hk h.size)).trans (h.block k hk gj)⟩
theorem tH {w w' : World} {v : SV} (h : Src Tryz.prog 5 30 (.slice (some ⟨w.heap.size, 0, none⟩) 1 1) 1 (newsK (fun _ => v) 1) (w.alloc (.cells v.cells 32))) (hn : Box (w.alloc (.cells v.cells 32)) w.heap.size 32 v.cells) (hb : Below (w.alloc (.cells v.cells 32)).heap.size (w.alloc (.cells v.cells 32)) w') :
  Src Tryz.prog 5 30 (.slice (some ⟨w.heap.size, 0, none⟩) 1 1) 1 (newsK (fun _ => v) 1) w' := by
 refine Src.ofSlice _ Tryz.underlying30 _ 1 1 _ (dQ _ 1) (fun j u hu => ?_) (ge _ 1)
 rw [Addr.add_mid]
 refine (hn.after hb).cell (0 + j) ?_
 rw [Nat.zero_add]
 simpa [newsK] using hu
theorem pY (g : Nat) (s : ByteArray) (f : Nat) (hs : s.size ≤ 100000) (hd : ValueDoes g s f) : ListDoes g s f := by
 intro p m lv w hX hp hf hm mm
 have HL : Hid (s.data.toList.length = s.size) := I5 (by simp)
 have HD := I5 hd
 have AL := hX.lt
 let u0 := (w.alloc (.cells #[.bool false, .bool false, .slice none 0 0, .slice none 0 0, .slice none 0 0] 32))
 have B0 : Below w.heap.size w u0 := (Below.refl _ _).alloc (Nat.le_refl _) _
 have R : Hid (Box u0 w.heap.size 32 #[.bool false, .bool false, .slice none 0 0, .slice none 0 0, .slice none 0 0]) := I5 (Box.new _ _ _)
 have X := I5 (hX.after B0)
 have U : Hid (But (fun k => k = g) w u0) := I5 (But.ofBelow B0)
 have hz : w.heap.size < (u0).heap.size := R.out.lt
 clear hX hd B0
 go_enter Tryz.func97, Tryz.ntmps97
 go_upto_region 1 with fail
 change Code.wp _ _ _ _ u0
 clear_value u0
 go_upto_region 2 with (refine ac (cells := #[.bool true, .bool false, .slice none 0 0, .slice none 0 0, .slice none 0 0]) rfl 32 _ _ rfl (Box.new _ _ _) (by rfl) (by rfl) rfl (by kernel_rfl) (by simp [Value.oneCell']) ?_; intro u1 V1 st1)
 have b1 : Below u0.heap.size u0 u1 := st1.below u0.heap.size u0 (Nat.le_refl _) ((Below.refl _ _).alloc (Nat.le_refl _) _)
 replace R := I5 (R.out.after b1)
 replace X := I5 (X.out.after b1)
 replace U := I5 (U.out.trans (But.ofBelow (S := fun _ => False) b1) (fun _ h => h.elim))
 have V := I5 V1
 have uj := V1.lt
 clear b1 st1 V1
 generalize u0.heap.size = vb at *
 simp only [Act.put]
 go_loopw [] (fun wr => ∃ (q cnt al : Nat) (acc : List Sx) (ta : Option Addr) (tc : Nat) (K : Nat → SV), p ≤ q ∧ q ≤ s.size ∧ cnt ≤ 512 ∧ al ≤ q ∧ Hid (al = acc.length) ∧ Hid (∀ r, Nt s.data.toList (some acc) q lv cnt r → Nt s.data.toList (some []) p lv m r) ∧ Box wr g 100 (RdN s q cnt) ∧ Box wr w.heap.size 32 #[.bool false, .bool false, .slice none 0 0, .slice none 0 0, .slice none 0 0] ∧ Box wr vb 32 #[.bool true, .bool false, .slice none 0 0, .slice none 0 0, .slice ta al tc] ∧ OwnG wr (vb + 1) 5 (.slice ta al tc) al (newsK K al) ∧ Hid (∀ i (hi : i < acc.length), RdI (okK (fun _ => False) vb (.slice ta al tc)) wr (K i) acc[i]) ∧ But (fun k => k = g) w wr) (fun wr => s.size + 1 - atN wr g)
 case atStart => exact ⟨p, m, 0, [], none, 0, fun _ => SV.nil, Nat.le_refl _, hp, hm, Nat.zero_le _, I5 rfl, I5 (fun r h => h), X.out, R.out, V.out, OwnG.nil _ _ _, I5 (fun i hi => by cases hi), U.out⟩
 case round =>
  obtain ⟨q, cnt, al, acc, ta, tc, K, Iw, hq, CD, Gs, HAL, HTO, hX, hR, hV, hO, vy, hU⟩ := hrel
  clear X R V U
  have FI := I5 (oV hX)
  have X := I5 hX
  have R := I5 hR
  have V := I5 hV
  have O := I5 hO
  have U := I5 hU
  have G7 := hV.lt
  clear hX hR hV hO hU
  go_wp2_with fail
  refine (kL g s q cnt wr X.out (by omega) hq).mono ?_
  rintro e w3 ⟨rfl, X3, b3⟩
  obtain ⟨q1, nJ⟩ : ∃ q1, q1 = skipN s.data.toList q := ⟨_, rfl⟩
  have oZ := dI (l := s.data.toList) (p := q) (by rw [HL.out]; exact hq)
  rw [HL.out, ← nJ] at oZ
  rw [← nJ] at X3
  have sr := I5 nJ
  replace R := I5 (b3.box R.out (by omega))
  replace V := I5 (b3.box V.out (by omega))
  replace O := I5 (O.out.but b3 (fun k h e => by have := (O.out.lt k h).1; omega))
  replace vy : Hid (∀ i (hi : i < acc.length), RdI (okK (fun _ => False) vb (.slice ta al tc)) w3 (K i) acc[i]) := I5 (fun i hi => (vy.out i hi).but b3 (fun k hk e => by have := hk.1.resolve_left id; omega))
  replace U := I5 (U.out.trans b3 (fun k hk => .inl hk))
  replace X := I5 X3
  have FR := b3.size
  clear X3 b3 nJ
  go_wp2_with fail
  refine (lY g s q1 cnt w3 X.out (by omega)).mono ?_
  rintro e w4 ⟨b4, ⟨h4, rfl⟩ | ⟨h4, rfl⟩⟩
  ·unfold FaultN
   have HE : Hid (Nt s.data.toList (some []) p lv m (RV.err s.size 2)) := I5 (HTO.out _ (Nt.fail (fun h => by rw [HL.out, ← sr.out] at h; omega) (by rw [← sr.out, show s.size = s.data.toList.length from HL.out.symm]; exact Nt.short (by rw [sr.out, qS, ← sr.out, HL.out]; exact h4)) (by show (2 : Nat) ≠ 0; decide)))
   have HU := I5 (U.out.trans (But.ofBelow (S := fun _ => False) b4) (fun _ h => h.elim))
   clear b4
   go_wp2_with fail
   exact ⟨rfl, lG HE.out (by decide) HU.out⟩
  replace R := I5 (R.out.after b4)
  replace V := I5 (V.out.after b4)
  replace O := I5 (O.out.after b4)
  replace vy : Hid (∀ i (hi : i < acc.length), RdI (okK (fun _ => False) vb (.slice ta al tc)) w4 (K i) acc[i]) := I5 (fun i hi => (vy.out i hi).after b4)
  replace U := I5 (U.out.trans (But.ofBelow (S := fun _ => False) b4) (fun _ h => h.elim))
  replace X := I5 (X.out.after b4)
  have GX := b4.size
  clear b4
  obtain ⟨x, hx⟩ : ∃ x, x = s.data.toList.getD q1 0 := ⟨_, rfl⟩
  rw [← hx]
  have sq : Hid (s.data.toList.getD (skipN s.data.toList q) 0 = x) := I5 (by rw [← sr.out, hx])
  have xB : Hid (skipN s.data.toList q < s.data.toList.length) := I5 (by rw [← sr.out, HL.out]; exact h4)
  clear hx
  have x1 := X.out.cell 1 rfl
  have f1 := X.out.frozen 1
  have Hc : (q1 : Int) ≤ 1000000 := by omega
  by_cases h41 : x = 41
  ·obtain ⟨e1, e2, e3⟩ := bEq (a := x) 41 41 rfl (by rw [h41]; rfl)
   have HE : Hid (Nt s.data.toList (some []) p lv m ⟨.mk true false [] [] acc, q1 + 1, cnt, 0⟩) := I5 (HTO.out _ (by rw [sr.out]; exact Nt.close xB.out (by rw [sq.out]; exact h41)))
   clear h41 e3 HTO
   go_upto_region 5 with fail
   have X5 : Box (w4.setCell ⟨g, 1, none⟩ (.int .i64 ((q1 : Int) + 1))) g 100 (RdN s (q1 + 1) cnt) := X.out.set 1 _
   have b5 : But (fun k => k = g) w4 (w4.setCell ⟨g, 1, none⟩ (.int .i64 ((q1 : Int) + 1))) := (But.refl (fun k => k = g) w4).setCell (p := ⟨g, 1, none⟩) (.inl rfl) _
   change Code.wp _ _ _ _ (w4.setCell ⟨g, 1, none⟩ (.int .i64 ((q1 : Int) + 1)))
   generalize (w4.setCell ⟨g, 1, none⟩ (.int .i64 ((q1 : Int) + 1))) = w5 at *
   replace R := I5 (b5.box R.out (by omega))
   replace V := I5 (b5.box V.out (by omega))
   replace O := I5 (O.out.but b5 (fun k h e => by have := (O.out.lt k h).1; omega))
   replace vy : Hid (∀ i (hi : i < acc.length), RdI (okK (fun _ => False) vb (.slice ta al tc)) w5 (K i) acc[i]) := I5 (fun i hi => (vy.out i hi).but b5 (fun k hk e => by have := hk.1.resolve_left id; omega))
   replace U := I5 (U.out.trans b5 (fun k hk => .inl hk))
   replace X := I5 X5
   have DR := b5.size
   clear X5 b5 x1 f1
   go_wp2_with first | (refine ab rfl 32 _ rfl V.out (by rfl) Tryz.underlying32 rfl (by kernel_rfl) ?_) | (refine ac (cells := #[.bool true, .bool false, .slice none 0 0, .slice none 0 0, .slice ta al tc]) rfl 32 _ _ rfl R.out (by rfl) (by rfl) rfl (by kernel_rfl) (by simp [Value.oneCell']) ?_; intro u9 X9 st9)
   have b9 : But (fun k => k = w.heap.size) w5 u9 := But.ofStored st9 (st9.below 0 w5 (Nat.zero_le _) (Below.refl _ _))
   obtain ⟨a', c', e', ah, hinb⟩ := O.out.row
   cases e'
   exact bodyPost_ret (v := .agg #[.bool true, .bool false, .slice none 0 0, .slice none 0 0, .slice ta al tc]) (ae rfl _ _ (by rfl) X9 Tryz.underlying32 rfl (by kernel_rfl)) rfl (vJ (v := ⟨true, false, none, 0, 0, none, 0, 0, ta, al, tc⟩) HE.out (U.out.trans b9 (fun k hk => .inr (by omega)))
    (gL (ah.keep (hinb.heap fun k hk => st9.other k (by omega))) (hinb.mono fun k hk => by omega) HAL.out (fun i hi => ((vy.out i hi).but b9 (fun k hk e => by have := hk.1.resolve_left id; omega)).mono (fun k hk => by have := hk.1.resolve_left id; omega))) (b9.box X.out (by omega)))
  ·obtain ⟨e1, e2, e3⟩ := bNe (a := x) 41 41 rfl (fun e => h41 (by rw [← UInt8.toNat_inj]; exact e))
   have H41 := I5 h41
   clear h41 e3 x1 f1
   have hlv' : (lv : Int) ≤ 16 := by omega
   have GZ : IntKind.i64.wrap ((lv : Int) + 1) = (lv : Int) + 1 := by rw [IntKind.wrap_i64]; omega
   go_upto_region 6 with fail
   have aF : Keeps (fun w' => Box w' vb 32 #[.bool true, .bool false, .slice none 0 0, .slice none 0 0, .slice ta al tc]) := fun w w' h b => h.after b
   refine aX (w := w4) [9] (fun w' => Box w' vb 32 #[.bool true, .bool false, .slice none 0 0, .slice none 0 0, .slice ta al tc]) rfl V.out.drew ?_
   refine ag 0 aF rfl (by kernel_rfl) (by kernel_rfl) (by kernel_rfl) (by kernel_rfl) rfl (fun _ _ _ _ h => h) (.pointer (some ⟨vb, 4, none⟩)) (fun w' h => by simp [go_sem]) ?_
   simp only [Act.put, I2, I3, I4]
   refine ag 1 aF rfl (by kernel_rfl) (by kernel_rfl) (by kernel_rfl) (by kernel_rfl) rfl (fun _ _ _ _ h => h) (.slice ta al tc) (fun w' h => by simp [go_sem, h.cell 4 rfl]) ?_
   simp only [Act.put, I2, I3, I4]
   refine ag 2 aF rfl (by kernel_rfl) (by kernel_rfl) (by kernel_rfl) (by kernel_rfl) rfl (fun _ _ _ _ h => h) (.pointer (some ⟨g, 0, none⟩)) (fun w' h => by simp [go_sem]) ?_
   simp only [Act.put, I2, I3, I4]
   refine ag 3 aF rfl (by kernel_rfl) (by kernel_rfl) (by kernel_rfl) (by kernel_rfl) rfl (fun _ _ _ _ h => h) (.int .i64 lv) (fun w' h => by simp [go_sem]) ?_
   simp only [Act.put, I2, I3, I4]
   refine ag 4 aF rfl (by kernel_rfl) (by kernel_rfl) (by kernel_rfl) (by kernel_rfl) rfl (fun _ _ _ _ h => h) (.int .i64 ((lv : Int) + 1)) (fun w' h => by simp [go_sem, GZ]) ?_
   simp only [Act.put, I2, I3, I4]
   refine aN 5 rfl (by kernel_rfl) (by kernel_rfl) rfl ?_
   intro w5 b5 s5
   have b5' : Below w4.heap.size w4 w5 := (Below.refl _ w4).drew.trans b5
   have DR := b5'.size
   refine vC 63 #[.pointer (some ⟨g, 0, none⟩), .int .i64 ((lv : Int) + 1)] (by simp [go_sem]) _ (HD.out q1 cnt (lv + 1) w5 (X.out.after b5') (by omega) (by omega) CD (by omega)) ?_
   rintro e w6 ⟨b6, r, hr, ⟨h6, rfl⟩ | ⟨h6, v, rfl, rd, X6⟩⟩
   ·refine .inr ⟨_, rfl, ?_⟩
    have HE : Hid (Nt s.data.toList (some []) p lv m r) := I5 (HTO.out _ (Nt.fail (fun _ => by rw [sq.out]; exact H41.out) (by rw [← sr.out]; exact hr) h6))
    have HU := I5 ((U.out.trans (But.ofBelow (S := fun _ => False) b5') (fun _ h => h.elim)).trans b6 (fun k hk => .inl hk))
    have H6 := I5 h6
    clear aF b5 b5' s5 b6 hr h6
    go_wp2_with fail
    exact ⟨rfl, HU.out, r, HE.out, .inl ⟨H6.out, rfl⟩⟩
   ·refine .inl ⟨_, rfl, b6.box s5 (by omega), ?_⟩
    simp only [Act.put, I2, I3, I4]
    have Ec := xy hr h6 (by rw [HL.out]; omega)
    rw [HL.out] at Ec
    have GF : Hid (∀ r2, Nt s.data.toList (some (acc ++ [r.v])) r.p lv r.n r2 → Nt s.data.toList (some []) p lv m r2) := I5 (fun r2 h => HTO.out r2 (Nt.more xB.out (by rw [sq.out]; exact H41.out) (by rw [← sr.out]; exact hr) h6 h))
    obtain ⟨rv, rp, rn, re⟩ := r
    dsimp only at rd X6 Ec GF h6
    obtain ⟨vl, vh, a1, n1, c1, a2, n2, c2, a3, n3, c3⟩ := v
    refine aN 6 rfl (by kernel_rfl) (by kernel_rfl) rfl ?_
    intro w7 b7 s7
    refine cp (.slice (some ⟨w7.heap.size, 0, none⟩) 1 1) (w7.alloc (.cells (SV.mk vl vh a1 n1 c1 a2 n2 c2 a3 n3 c3).cells 32)) (by simp [go_sem, SV.val, SV.cells]) ?_
    have b8 : Below w7.heap.size w7 (w7.alloc (.cells (SV.mk vl vh a1 n1 c1 a2 n2 c2 a3 n3 c3).cells 32)) := (Below.refl _ _).alloc (Nat.le_refl _) _
    have S8 : Src Tryz.prog 5 30 (.slice (some ⟨w7.heap.size, 0, none⟩) 1 1) 1 (newsK (fun _ => SV.mk vl vh a1 n1 c1 a2 n2 c2 a3 n3 c3) 1) (w7.alloc (.cells (SV.mk vl vh a1 n1 c1 a2 n2 c2 a3 n3 c3).cells 32)) := xL w7 _
    have GW := b6.size
    have GV := b7.size
    have N8 := Box.new w7 32 (SV.mk vl vh a1 n1 c1 a2 n2 c2 a3 n3 c3).cells
    refine ⟨aF _ _ s7 b8, ?_⟩
    simp only [Act.put, I2, I3, I4]
    refine aN 7 rfl (by kernel_rfl) (by kernel_rfl) rfl ?_
    intro w9 b9 s9
    have It : w7.heap.size < (w7.alloc (.cells (SV.mk vl vh a1 n1 c1 a2 n2 c2 a3 n3 c3).cells 32)).heap.size := N8.lt
    have Is := b9.size
    have O5 := O.out.after b5'
    have CY : ∀ k, Value.ownBlock (.slice ta al tc) = some k → vb < k ∧ k < w5.heap.size := fun k h => ⟨(O5.lt k h).1, (O5.lt k h).2⟩
    have O6 := O5.but b6 (fun k h e => by have := CY k h; omega)
    have B69 : Below w6.heap.size w6 w9 := (b7.trans (b8.mono b7.size)).trans (b9.mono (Nat.le_trans b7.size b8.size))
    have O9 := O6.after B69
    have U9 := I5 (((U.out.trans (But.ofBelow (S := fun _ => False) b5') (fun _ h => h.elim)).trans b6 (fun k hk => .inl hk)).trans (But.ofBelow (S := fun _ => False) B69) (fun _ h => h.elim))
    have X9 := I5 (X6.after B69)
    have R9 := I5 ((b6.box (R.out.after b5') (by omega)).after B69)
    have K9 : ∀ i (hi : i < acc.length), RdI (okK (fun _ => False) vb (.slice ta al tc)) w9 (K i) acc[i] := fun i hi => (((vy.out i hi).after b5').but b6 (fun k hk e => by have := hk.1.resolve_left id; omega)).after B69
    have D9 : RdI (fun k => (False ∨ w5.heap.size ≤ k) ∧ k < w9.heap.size) w9 ⟨vl, vh, a1, n1, c1, a2, n2, c2, a3, n3, c3⟩ rv := ((rd.after B69).mono (fun k hk => (.inr hk : False ∨ w5.heap.size ≤ k))).there
    refine fO (B := vb + 1) _ _ rfl rfl O9 rfl (tH S8 N8 b9) (by omega) (by omega) ?_
    intro v10 w10 ho10 hg10 hw10
    rw [rm] at ho10
    obtain ⟨ta', tc', rfl, _⟩ := ho10.row
    refine ⟨s9.grown hg10 (fun k hk => by have := (O9.lt k hk).1; omega), ?_⟩
    simp only [Act.put, I2, I3, I4]
    refine ag 8 aF rfl (by kernel_rfl) (by kernel_rfl) (by kernel_rfl) (by kernel_rfl) rfl (fun _ _ _ _ h => h) (.pointer (some ⟨vb, 4, none⟩)) (fun w' h => by simp [go_sem]) ?_
    simp only [Act.put, I2, I3, I4]
    refine dr 9 rfl (by kernel_rfl) (by kernel_rfl) rfl ?_
    intro w11 b11 s11
    have hb10 : ∀ k, (Value.ownBlock (.slice ta al tc)) = some k → vb < k := fun k h => (CY k h).1
    have U10 := U9.out.trans (But.ofGrown hg10 (S := fun k => vb < k) hb10) (fun k hk => .inr (by omega))
    have X10 := X9.out.grown hg10 (fun k hk => by have := hb10 k hk; omega)
    have R10 := R9.out.grown hg10 (fun k hk => by have := hb10 k hk; omega)
    have KM := nI (ok := fun _ => False) (g := vb) (B := w5.heap.size) (G := w9.heap.size) (al := al) (own := .slice ta al tc) (v' := .slice ta' (al + 1) tc') (u := w9) (w2 := w10) (K := K) (acc := acc) (v := ⟨vl, vh, a1, n1, c1, a2, n2, c2, a3, n3, c3⟩) (rv := rv) HAL.out K9 D9 (fun k h => h.elim) (by omega) CY hg10 hw10 (.slice ta' (al + 1) tc')
    refine dc 30 _ _ rfl rfl rfl (s11.cell 4 rfl) (s11.frozen 4) (fun w => by simp [go_sem]) ?_
    simp only [Act.put, I2, I3, I4]
    refine cB (by kernel_rfl) ?_
    intro w12 b12 _
    have hz11 := b11.size
    have b1112 : Below w10.heap.size w10 w11 := b11
    have KM' : Hid (∀ i (hi : i < (acc ++ [rv]).length), RdI (okK (fun _ => False) vb (.slice ta' (al + 1) tc')) w12 (if i = al then ⟨vl, vh, a1, n1, c1, a2, n2, c2, a3, n3, c3⟩ else K i) (acc ++ [rv])[i]) := I5 (by
     have := nI (ok := fun _ => False) (g := vb) (B := w5.heap.size) (G := w9.heap.size) (al := al) (own := .slice ta al tc) (v' := .slice ta' (al + 1) tc') (u := w9) (w2 := w11) (K := K) (acc := acc) (v := ⟨vl, vh, a1, n1, c1, a2, n2, c2, a3, n3, c3⟩) (rv := rv) HAL.out K9 D9 (fun k h => h.elim) (by omega) CY (qe hg10 b11) hw10 (.slice ta' (al + 1) tc')
     exact fun i hi => (this i hi).after b12)
    have e12 : But (fun k => k = vb) w11 (w11.setCell ⟨vb, 4, none⟩ (.slice ta' (al + 1) tc')) := (But.refl (fun k => k = vb) w11).setCell (p := ⟨vb, 4, none⟩) (.inl rfl) _
    have V12 := I5 ((s11.set 4 (.slice ta' (al + 1) tc')).after b12)
    have X12 := I5 ((e12.box (X10.after b11) (by omega)).after b12)
    have R12 := I5 ((e12.box (R10.after b11) (by omega)).after b12)
    have O12 := I5 (((ho10.after b11).but e12 (fun k h e => by have := (ho10.lt k h).1; omega)).after b12)
    have U12 := I5 (((U10.trans (But.ofBelow (S := fun _ => False) b11) (fun _ h => h.elim)).trans e12 (fun k hk => .inr (by omega))).trans (But.ofBelow (S := fun _ => False) b12) (fun _ h => h.elim))
    clear aF b5 b5' s5 b6 rd X6 hr b7 s7 b8 S8 N8 b9 s9 O5 CY O6 B69 O9 U9 X9 R9 K9 D9 ho10 hg10 hw10 b11 s11 hb10 U10 X10 R10 KM b12 b1112 e12 O R V X U vy HTO h6
    have e4' := oV X12.out
    go_wp2_with fail
    go_roundw
    case rel => exact ⟨rp, rn, al + 1, acc ++ [rv], ta', tc', fun i => if i = al then ⟨vl, vh, a1, n1, c1, a2, n2, c2, a3, n3, c3⟩ else K i, by omega, by omega, Ec.2.2.1 CD, by omega, I5 (by rw [HAL.out]; simp), GF, X12.out, R12.out, V12.out, O12.out, KM', U12.out⟩
    case measure => rw [FI.out, e4']; omega
def EndN (g : Nat) (s : ByteArray) (p : Nat) (w : World) (e : Ending) (w' : World) : Prop :=
 But (fun k => k = g) w w' ∧ ((skipN s.data.toList p < s.size ∧ e = FaultN (skipN s.data.toList p) 5) ∨ (s.size ≤ skipN s.data.toList p ∧ e = .returned (.tuple #[])))
theorem rX (g : Nat) (s : ByteArray) (p m : Nat) (w : World) (hX : Box w g 100 (RdN s p m)) (hs : s.size ≤ 100000) (hp : p ≤ s.size) : Calls Tryz.prog 93 #[.pointer (some ⟨g, 0, none⟩)] w (EndN g s p w) := by
 have HX := I5 hX
 clear hX
 go_enter Tryz.func93, Tryz.ntmps93
 go_wp2_with fail
 refine (kL g s p m w HX.out (by omega) hp).mono ?_
 rintro e w1 ⟨rfl, X1, b1⟩
 obtain ⟨q, hq⟩ : ∃ q, q = skipN s.data.toList p := ⟨_, rfl⟩
 rw [← hq] at X1
 have HQ := I5 hq
 have HB := I5 b1
 have oW := I5 X1
 have x0 := X1.cell 0 rfl
 have x1 := X1.cell 1 rfl
 clear hq b1 X1 HX
 by_cases h : q < s.size
 ·have h' : (q : Int) < (s.size : Int) := by omega
  go_wp2_with fail
  go_quiet (fail)
  go_wp2_with fail
  refine (eb q 5 _).mono ?_
  rintro e w2 ⟨rfl, rfl⟩
  unfold FaultN
  go_wp2_with fail
  exact ⟨rfl, HB.out.drewN _, .inl ⟨by rw [← HQ.out]; exact h, by rw [← HQ.out]; rfl⟩⟩
 ·have h' : ¬ (q : Int) < (s.size : Int) := by omega
  go_wp2_with fail
  go_quiet (fail)
  go_wp2_with fail
  exact bodyPost_ret (results_none rfl _ _ _) rfl ⟨HB.out.drewN _, .inr ⟨by rw [← HQ.out]; omega, rfl⟩⟩
theorem vR (V A E : Nat) (w : World) :
  CallsD Tryz.prog 91 #[.pointer (some ⟨V, 0, none⟩), .pointer (some ⟨A, 0, none⟩), .pointer (some ⟨E, 0, none⟩)] .returning w fun e u' w' => e = .returned (.tuple #[]) ∧ u' = .returning ∧ w' = w := by
 refine callsD_of_wpS Tryz.func91 rfl fun c₀ cs hu => ?_
 apply wpS_seq
 apply wpS_region
 simp [wpOpsS, go_sem, recoverD, hu, Tryz.ntmps91, Exit.thenS]
 refine wpS_of_wp ?_
 go_wp2_with fail
 cases c₀
 simp_all [bodyPostS, results, Tryz.results91]
section
open Ieee
def isNan (b : Nat) : Bool := (Ieee.double.read b).isNaN
def hugeE : Nat := 2200
def huge : Int := 2 ^ hugeE
def key (b : Nat) : Int := match Ieee.double.read b with
 | .number s m e => signed s m (e - Ieee.double.leastPlace).toNat
 | .infinity s => if s then -huge else huge
 | .nan .. => 0
theorem eP : Ieee.double.leastPlace = -1074 := by decide
theorem fA : Ieee.double.binade = 2 ^ 52 := rfl
theorem dM : Ieee.double.infRung = 2047 * 2 ^ 52 := by decide
theorem f9 : Ieee.double.signWeight = 2 ^ 63 := rfl
theorem lW {b : Nat} {s : Bool} {m : Nat} {e : Int} (h : Ieee.double.read b = .number s m e) : m < 2 ^ 53 ∧ -1074 ≤ e ∧ e ≤ 971 := by
 unfold Format.read at h
 rw [eP, fA, dM, f9] at h
 dsimp only at h
 obtain ⟨r, hr⟩ : ∃ r, r = b % 2 ^ 63 := ⟨_, rfl⟩
 rw [← hr] at h
 clear hr
 split at h
 ·cases h; omega
 ·split at h
  ·cases h
   omega
  ·split at h <;> cases h
theorem lK (s : Bool) (m u v : Nat) : signed s m (u + v) = signed s m u * ((2 ^ v : Nat) : Int) := by
 unfold signed
 simp only [Nat.shiftLeft_eq, Nat.pow_add]
 cases s <;> simp [Int.natCast_mul, Int.mul_assoc, Int.neg_mul]
theorem zc (a b : Int) (k : Nat) (hk : 0 < k) : compare (a * (k : Int)) (b * (k : Int)) = compare a b := by
 have hk' : (0 : Int) < (k : Int) := by omega
 simp only [compare, compareOfLessAndEq]
 have e1 : (a * (k : Int) < b * (k : Int)) = (a < b) := propext ⟨fun h => Int.lt_of_mul_lt_mul_right h (by omega), fun h => Int.mul_lt_mul_of_pos_right h hk'⟩
 have e2 : (a * (k : Int) = b * (k : Int)) = (a = b) := propext ⟨fun h => Int.eq_of_mul_eq_mul_right (by omega) h, fun h => by rw [h]⟩
 simp only [e1, e2]
theorem wo {b : Nat} {s : Bool} {m : Nat} {e : Int} (h : Ieee.double.read b = .number s m e) : -huge < signed s m (e - Ieee.double.leastPlace).toNat ∧ signed s m (e - Ieee.double.leastPlace).toNat < huge := by
 obtain ⟨h1, h2, h3⟩ := lW h
 rw [eP]
 obtain ⟨u, hu⟩ : ∃ u, u = (e - -1074).toNat := ⟨_, rfl⟩
 have G8 : u ≤ 2045 := by omega
 rw [← hu]
 have h4 : m <<< u < 2 ^ hugeE := by
  rw [Nat.shiftLeft_eq]
  calc m * 2 ^ u < 2 ^ 53 * 2 ^ u := Nat.mul_lt_mul_of_pos_right h1 (Nat.two_pow_pos _)
   _ = 2 ^ (53 + u) := (Nat.pow_add ..).symm
   _ ≤ 2 ^ hugeE := Nat.pow_le_pow_right (by omega) (by unfold hugeE; omega)
 have h5 : ((m <<< u : Nat) : Int) < huge := by
  unfold huge
  have : ((2 ^ hugeE : Nat) : Int) = 2 ^ hugeE := by simp
  rw [← this]; exact_mod_cast h4
 unfold signed
 obtain ⟨X, hX⟩ : ∃ X, X = m <<< u := ⟨_, rfl⟩
 rw [← hX] at h5 ⊢
 have h6 : (0 : Int) ≤ (X : Int) := by omega
 clear h4 hX
 split
 ·constructor <;> omega
 ·constructor <;> omega
theorem ww : 0 < huge := by unfold huge; exact Int.pow_pos (by omega)
theorem kW {a b : Int} (h : a < b) : compare a b = .lt := by simp [compare, compareOfLessAndEq, h]
theorem kX {a b : Int} (h : b < a) : compare a b = .gt := by simp [compare, compareOfLessAndEq, show ¬ a < b by omega, show ¬ a = b by omega]
theorem iC (x y : Nat) : Ieee.double.order x y = if isNan x || isNan y then none else some (compare (key x) (key y)) := by
 unfold Format.order isNan key
 have hp := ww
 cases hx : Ieee.double.read x with
 | nan s f => cases Ieee.double.read y <;> rfl
 | infinity s =>
  cases hy : Ieee.double.read y with
  | nan t g => rfl
  | infinity t =>
   cases s <;> cases t <;> simp [Datum.order, Datum.isNaN, kW (show -huge < huge by omega), kX (show -huge < huge by omega)] <;> rfl
  | number t n j =>
   have h := wo hy
   cases s
   ·simp [Datum.order, Datum.isNaN, kX h.2]
   ·simp [Datum.order, Datum.isNaN, kW h.1]
 | number s m i =>
  cases hy : Ieee.double.read y with
  | nan t g => rfl
  | infinity t =>
   have h := wo hx
   cases t
   ·simp [Datum.order, Datum.isNaN, kW h.2]
   ·simp [Datum.order, Datum.isNaN, kX h.1]
  | number t n j =>
   obtain ⟨_, pZ, _⟩ := lW hx
   obtain ⟨_, wu, _⟩ := lW hy
   simp only [Datum.order, Datum.isNaN, Bool.or_self, Bool.false_eq_true, if_false]
   rw [eP]
   obtain ⟨b, hb⟩ : ∃ b, b = min i j := ⟨_, rfl⟩
   rw [← hb]
   have e1 : (i - -1074).toNat = (i - b).toNat + (b + 1074).toNat := by omega
   have e2 : (j - -1074).toNat = (j - b).toNat + (b + 1074).toNat := by omega
   rw [e1, e2, lK, lK, zc _ _ _ (Nat.two_pow_pos _)]
theorem vT {x y : Nat} (hx : isNan x = false) (hy : isNan y = false) : (Ieee.double.order x y == some .lt) = decide (key x < key y) := by
 rw [iC, hx, hy]
 rcases Int.lt_trichotomy (key x) (key y) with h | h | h
 ·simp [kW h, h]
 ·rw [h]; simp
 ·simp [kX h]; omega
theorem vU {x y : Nat} (hx : isNan x = false) (hy : isNan y = false) : (Ieee.double.order x y == some .gt) = decide (key y < key x) := by
 rw [iC, hx, hy]
 rcases Int.lt_trichotomy (key x) (key y) with h | h | h
 ·simp [kW h]; omega
 ·rw [h]; simp
 ·simp [kX h, h]
theorem vV {x y : Nat} (hx : isNan x = false) (hy : isNan y = false) : (Ieee.double.order x y == some .eq) = decide (key x = key y) := by
 rw [iC, hx, hy]
 rcases Int.lt_trichotomy (key x) (key y) with h | h | h
 ·simp [kW h]; omega
 ·rw [h]; simp
 ·simp [kX h]; omega
theorem sD {x y : Nat} (h : isNan x = true ∨ isNan y = true) : Ieee.double.order x y = none := by
 rw [iC]; rcases h with h | h <;> simp [h]
theorem vS (x : Nat) : (Ieee.double.order x x == some .eq) = !isNan x := by
 cases h : isNan x
 ·rw [vV h h]; simp
 ·rw [sD (.inl h)]; rfl
def fl (n : Nat) : Nat := floatOfInt .f64 (n : Int)
theorem qi (n : Nat) : fl n = Ieee.double.nearest false n 0 := by
 unfold fl floatOfInt FloatKind.nearest FloatKind.encode
 show Ieee.double.write (.number (decide ((n : Int) < 0)) (n : Int).natAbs 0) = _
 rw [show decide ((n : Int) < 0) = false by simp]
 rfl
theorem An (n : Nat) (h0 : n ≠ 0) : 2 ^ n.log2 ≤ n ∧ n < 2 ^ (n.log2 + 1) := ⟨Nat.log2_self_le h0, Nat.lt_log2_self⟩
theorem rB (n : Nat) (h0 : n ≠ 0) (h : n < 2 ^ 53) : n.log2 ≤ 52 := by
 have := (Nat.log2_lt h0).2 h; omega
theorem wl (n k : Nat) (h1 : 2 ^ k ≤ n) (h2 : n < 2 ^ (k + 1)) : n.log2 = k := by
 have h0 : n ≠ 0 := by have := Nat.two_pow_pos k; omega
 have a := (Nat.le_log2 h0).2 h1
 have b := (Nat.log2_lt h0).2 h2
 omega
theorem jO (n : Nat) (h0 : n ≠ 0) (h : n < 2 ^ 53) : 2 ^ 52 ≤ n * 2 ^ (52 - n.log2) ∧ n * 2 ^ (52 - n.log2) < 2 ^ 53 := by
 obtain ⟨h1, h2⟩ := An n h0
 have h3 := rB n h0 h
 constructor
 ·calc 2 ^ 52 = 2 ^ (n.log2 + (52 - n.log2)) := by congr 1; omega
   _ = 2 ^ n.log2 * 2 ^ (52 - n.log2) := Nat.pow_add ..
   _ ≤ _ := Nat.mul_le_mul_right _ h1
 ·calc n * 2 ^ (52 - n.log2) < 2 ^ (n.log2 + 1) * 2 ^ (52 - n.log2) := Nat.mul_lt_mul_of_pos_right h2 (Nat.two_pow_pos _)
   _ = 2 ^ (n.log2 + 1 + (52 - n.log2)) := (Nat.pow_add ..).symm
   _ = 2 ^ 53 := by congr 1; omega
theorem wY (way : Bool) (n : Nat) : Toward.even.cut way n 0 = n := by
 simp [Toward.cut, Nat.mod_one]
theorem wO (n : Nat) (h0 : n ≠ 0) (h : n < 2 ^ 53) : fl n = (n.log2 + 1022) * 2 ^ 52 + n * 2 ^ (52 - n.log2) := by
 have h3 := rB n h0 h
 obtain ⟨h4, h5⟩ := jO n h0 h
 rw [qi]
 unfold Format.nearest
 rw [if_neg h0]
 dsimp only
 rw [eP]
 have hf : ((Ieee.double.fractionBits : Nat) : Int) = 52 := rfl
 rw [hf]
 have e1 : max (0 + (n.log2 : Int) - 52) (-1074) = (n.log2 : Int) - 52 := by omega
 rw [e1]
 have e2 : ((0 : Int) - ((n.log2 : Int) - 52)).toNat = 52 - n.log2 := by omega
 have e3 : ((n.log2 : Int) - 52 - 0).toNat = 0 := by omega
 have e4 : ((n.log2 : Int) - 52 - -1074).toNat = n.log2 + 1022 := by omega
 rw [e2, e3, e4, wY, Nat.shiftLeft_eq, dM, fA]
 unfold Format.word
 simp only [Bool.false_eq_true, if_false]
 rw [Nat.min_eq_left]
 obtain ⟨M, hM⟩ : ∃ M, M = n * 2 ^ (52 - n.log2) := ⟨_, rfl⟩
 rw [← hM] at h5 ⊢
 clear hM h4 e1 e2 e3 e4
 generalize n.log2 = L at h3 ⊢
 clear h
 simp only [Nat.reducePow, Nat.reduceMul] at h5 ⊢
 omega
theorem yT : fl 0 = 0 := by rw [qi]; rfl
theorem ou (n : Nat) (h0 : n ≠ 0) (h : n < 2 ^ 53) : Ieee.double.read (fl n) = .number false (n * 2 ^ (52 - n.log2)) ((n.log2 : Int) - 52) := by
 have h3 := rB n h0 h
 obtain ⟨h4, h5⟩ := jO n h0 h
 rw [wO n h0 h]
 obtain ⟨M, hM⟩ : ∃ M, M = n * 2 ^ (52 - n.log2) := ⟨_, rfl⟩
 obtain ⟨L, hL⟩ : ∃ L, L = n.log2 := ⟨_, rfl⟩
 rw [← hM] at h4 h5 ⊢
 rw [← hL] at h3 ⊢
 clear hM hL h h0
 unfold Format.read
 rw [eP, fA, dM, f9]
 dsimp only
 simp only [Nat.reducePow, Nat.reduceMul] at h4 h5 ⊢
 have hb : (L + 1022) * 4503599627370496 + M < 9223372036854775808 := by omega
 rw [Nat.mod_eq_of_lt hb, Nat.div_eq_of_lt hb]
 rw [if_neg (by omega), if_pos (by omega)]
 have e1 : ((L + 1022) * 4503599627370496 + M) % 4503599627370496 = M - 4503599627370496 := by omega
 have e2 : ((L + 1022) * 4503599627370496 + M) / 4503599627370496 = L + 1023 := by omega
 rw [e1, e2]
 have e3 : 4503599627370496 + (M - 4503599627370496) = M := by omega
 have e4 : (-1074 : Int) + ((L + 1023 - 1 : Nat) : Int) = (L : Int) - 52 := by omega
 rw [e3, e4]
 rfl
def rnd (a b : Nat) (e : Int) : Nat := Ieee.double.nearest false (2 * (a / b) + (a % b != 0).toNat) e
theorem AX (a b : Nat) (ha : a ≠ 0) (ha' : a < 2 ^ 53) (hb : b ≠ 0) (hb' : b < 2 ^ 53) :
  Ieee.double.div (fl a) (fl b) = some (rnd (a * 2 ^ (52 - a.log2) * 2 ^ 54) (b * 2 ^ (52 - b.log2)) ((a.log2 : Int) - b.log2 - 55)) := by
 obtain ⟨Hx, AQ⟩ := jO a ha ha'
 obtain ⟨af, aK⟩ := jO b hb hb'
 unfold Format.div
 rw [ou a ha ha', ou b hb hb']
 have la := wl _ 52 Hx AQ
 have lb := wl _ 52 af aK
 have hf : Ieee.double.fractionBits + 2 = 54 := rfl
 simp only [Datum.quotient]
 rw [if_neg (by omega), la, lb, hf]
 simp only [Nat.shiftLeft_eq, Nat.add_sub_cancel]
 simp only [Option.map_some, Format.write, rnd]
 congr 2
 omega
theorem qr (b : Nat) (hb : b ≠ 0) (hb' : b < 2 ^ 53) : Ieee.double.div (fl 0) (fl b) = some 0 := by
 obtain ⟨af, aK⟩ := jO b hb hb'
 unfold Format.div
 rw [ou b hb hb', yT]
 have h0 : Ieee.double.read 0 = .number false 0 (-1074) := by decide
 rw [h0]
 simp only [Datum.quotient]
 rw [if_neg (by omega)]
 simp only [Nat.zero_shiftLeft, Nat.zero_div, Nat.zero_mod]
 simp [Format.write, Format.nearest, Format.word]
theorem Ad (a b : Nat) (e : Int) : rnd a b e ≤ 2047 * 2 ^ 52 := by
 unfold rnd Format.nearest
 dsimp only
 rw [dM]
 unfold Format.word
 split
 ·simp
 ·simp only [Bool.false_eq_true, if_false]; exact Nat.min_le_right ..
theorem sy : fl 1 = 4607182418800017408 := by decide +kernel
theorem pA : ∀ k, k < 15 → Ieee.double.mul (fl (10 ^ k)) 4621819117588971520 = some (fl (10 ^ (k + 1))) := by decide +kernel
theorem vK (k : Nat) (h : k ≤ 15) : 10 ^ k < 2 ^ 53 := Nat.lt_of_le_of_lt (Nat.pow_le_pow_right (by omega) h) (by decide)
def quoB (n k : Nat) : Nat := (Ieee.double.div (fl n) (fl (10 ^ k))).getD 0
theorem sF {o : Option Nat} {v b : Nat} (h : o = some v) (hv : v ≤ b) : o = some (o.getD 0) ∧ o.getD 0 ≤ b := by subst h; exact ⟨rfl, hv⟩
theorem ov (n k : Nat) (hn : n < 2 ^ 53) (hk : k ≤ 15) : Ieee.double.div (fl n) (fl (10 ^ k)) = some (quoB n k) ∧ quoB n k ≤ 2047 * 2 ^ 52 := by
 unfold quoB
 have h10 : 10 ^ k ≠ 0 := by have := Nat.pow_pos (n := k) (show 0 < 10 by omega); omega
 by_cases h0 : n = 0
 ·subst h0; exact sF (qr _ h10 (vK k hk)) (Nat.zero_le _)
 ·exact sF (AX n _ h0 hn h10 (vK k hk)) (Ad _ _ _)
theorem ua (b : Nat) (h : b ≤ 2047 * 2 ^ 52) : isNan b = false := by
 unfold isNan Format.read
 rw [eP, fA, dM, f9]
 simp only [Nat.reducePow, Nat.reduceMul] at h ⊢
 rw [Nat.mod_eq_of_lt (by omega)]
 split
 ·rfl
 ·split
  ·rfl
  ·split
   ·rfl
   ·omega
theorem x6 (b : Nat) (h : b ≤ 2047 * 2 ^ 52) : isNan (b + 2 ^ 63) = false := by
 unfold isNan Format.read
 rw [eP, fA, dM, f9]
 simp only [Nat.reducePow, Nat.reduceMul] at h ⊢
 rw [show (b + 9223372036854775808) % 9223372036854775808 = b by omega]
 split
 ·rfl
 ·split
  ·rfl
  ·split
   ·rfl
   ·omega
theorem xJ (b : Nat) (h : b < 2 ^ 63) : b ^^^ 2 ^ 63 = b + 2 ^ 63 := by
 apply Nat.eq_of_testBit_eq
 intro i
 rw [Nat.testBit_xor, Nat.add_comm, Nat.testBit_two_pow]
 by_cases hi : i = 63
 ·subst hi; rw [Nat.testBit_two_pow_add_eq, Nat.testBit_lt_two_pow h]; rfl
 ·rcases Nat.lt_or_ge i 63 with h' | h'
  ·rw [Nat.testBit_two_pow_add_gt h']; simp [Ne.symm hi]
  ·rw [Nat.testBit_lt_two_pow (show b < 2 ^ i from Nat.lt_of_lt_of_le h (Nat.pow_le_pow_right (by omega) h'))]
   rw [Nat.testBit_lt_two_pow (show 2 ^ 63 + b < 2 ^ i from Nat.lt_of_lt_of_le (show 2 ^ 63 + b < 2 ^ 64 by simp only [Nat.reducePow] at h ⊢; omega) (Nat.pow_le_pow_right (by omega) (by omega)))]
   simp [Ne.symm hi]
theorem x5 (b : Nat) (h : b ≤ 2047 * 2 ^ 52) : Op.negFloat .f64 b = b + 2 ^ 63 := xJ b (by simp only [Nat.reducePow, Nat.reduceMul] at h ⊢; omega)
theorem ub (t : Nat) (x y : Nat) : isNan ((Question.nanBits .f64 x y).cut t) = true := by
 obtain ⟨u, hu⟩ : ∃ u, u = t % 2 := ⟨_, rfl⟩
 obtain ⟨v, hv⟩ : ∃ v, v = t / 2 % (2 ^ 52 - 1) := ⟨_, rfl⟩
 have vq : v < 2 ^ 52 - 1 := by rw [hv]; exact Nat.mod_lt _ (by decide)
 have G8 : u < 2 := by omega
 have : (Question.nanBits .f64 x y).cut t = u * 2 ^ 63 + 9218868437227405312 + 1 + v := by rw [hu, hv]; rfl
 rw [this]
 clear hu hv this
 unfold isNan Format.read
 rw [eP, fA, dM, f9]
 simp only [Nat.reducePow, Nat.reduceMul, Nat.reduceSub] at vq ⊢
 rw [show (u * 9223372036854775808 + 9218868437227405312 + 1 + v) % 9223372036854775808 = 9218868437227405313 + v by omega]
 rw [if_neg (by omega), if_neg (by omega), if_neg (by omega)]
 rfl
end
end Go.Proofs.YtmmkaclmgnpplaaGreatDoor

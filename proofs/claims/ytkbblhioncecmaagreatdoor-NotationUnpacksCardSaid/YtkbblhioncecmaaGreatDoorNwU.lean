/- The document's Unpack; the law NotationUnpacks: the walk. -/
import Derived.Test.YtkbblhioncecmaaGreatDoorNzG11
namespace Go.Proofs.YtkbblhioncecmaaGreatDoor
open Go.RowKit
set_option linter.unusedSimpArgs false
set_option linter.unusedVariables false

theorem Sx.same_iff (s : Sx) : ∀ t, s.same t = true ↔ s = t := by
  induction s using Sx.ind with
  | h l hh hi da ks ih =>
    intro t
    obtain ⟨l2, h2, hi2, da2, ks2⟩ := t
    rw [same_def]
    have key : Sx.sameL ks ks2 = true ↔ ks = ks2 := by
      clear l hh hi da l2 h2 hi2 da2
      induction ks generalizing ks2 with
      | nil => cases ks2 <;> simp [Sx.sameL]
      | cons x r ihr =>
        cases ks2 with
        | nil => simp [Sx.sameL]
        | cons y s =>
          simp only [Sx.sameL, Bool.and_eq_true, ih x List.mem_cons_self y, ihr (fun k hk => ih k (List.mem_cons_of_mem _ hk)) s, List.cons.injEq]
    simp only [Bool.and_eq_true, beq_iff_eq, key, Sx.mk.injEq]
    constructor
    · rintro ⟨⟨⟨⟨rfl, rfl⟩, rfl⟩, rfl⟩, rfl⟩; exact ⟨rfl, rfl, rfl, rfl, rfl⟩
    · rintro ⟨rfl, rfl, rfl, rfl, rfl⟩; exact ⟨⟨⟨⟨rfl, rfl⟩, rfl⟩, rfl⟩, rfl⟩
theorem Sx.same_refl (s : Sx) : s.same s = true := (s.same_iff s).2 rfl
theorem pk_err {l : List UInt8} {p e : Nat} (h : Pk l (RV.err p e)) (hl : l.length ≤ 16384) (he : e ≠ 0) : GotN (Pk l) l Sx.nil p e := .inr ⟨hl, _, h, .inl ⟨he, rfl, rfl, rfl⟩⟩
set_option maxHeartbeats 16000000 in
set_option maxRecDepth 100000 in
theorem runpack_any (s : ByteArray) (w : World) : Calls Tryz.prog 6 #[.string s] w (ReadP (Pk s.data.toList) s.data.toList w) := by
  have HL : Hid (s.data.toList.length = s.size) := Lib.hid (by simp)
  have B0 : Below w.heap.size w (w.alloc (.cells #[.bool false, .bool false, .slice none 0 0, .slice none 0 0, .slice none 0 0] 26)) := (Below.refl _ _).alloc (Nat.le_refl _) _
  have X0 := Lib.hid (Box.new w 26 #[.bool false, .bool false, .slice none 0 0, .slice none 0 0, .slice none 0 0])
  obtain ⟨q, hq⟩ : ∃ q, q = skipN s.data.toList 0 := ⟨_, rfl⟩
  have hql := skipN_le (l := s.data.toList) (p := 0) (Nat.zero_le _)
  rw [← hq, HL.out] at hql
  obtain ⟨_, hqs⟩ := hql
  have HQ := Lib.hid hq
  obtain ⟨x, hx⟩ : ∃ x, x = nB64 s.data.toList (q + 1) 125 := ⟨_, rfl⟩
  have HXX := Lib.hid (show nB64 s.data.toList (skipN s.data.toList 0 + 1) 125 = x by rw [← hq, hx])
  have HXP : Hid (x.e = 0 → q < s.size → x.p ≤ s.size ∧ 1 ≤ x.p) := Lib.hid (fun he hlt => by
    have := (nB64_place (l := s.data.toList) (p := q + 1) (en := 125) (by rw [HL.out]; exact hlt) (by rw [← hx]; exact he))
    rw [← hx, HL.out] at this
    omega)
  have CS : Hid (s.size ≤ 16384 → ∀ w', Calls Tryz.prog 12 #[.string s, .int .i64 0] w' (fun e w2 => e = .returned (.int .i64 q) ∧ w2 = w')) := Lib.hid (fun hs w' => by rw [hq]; exact rskip_any s 0 w' (by omega) (Nat.zero_le _))
  have CB : Hid (s.size ≤ 16384 → q < s.size → ∀ w', Calls Tryz.prog 13 #[.string s, .int .i64 ((q : Int) + 1), .int .u8 125] w' (BPost x w')) := Lib.hid (fun hs hlt w' => by
    have := rbase64_any 125 s (q + 1) w' (by omega) hlt
    rw [← hx, show ((q + 1 : Nat) : Int) = (q : Int) + 1 by omega] at this
    exact this)
  clear hq hx
  go_enter Tryz.func6, Tryz.ntmps6
  go_upto_region 1 with fail
  change Code.wp _ _ _ _ (w.alloc (.cells #[.bool false, .bool false, .slice none 0 0, .slice none 0 0, .slice none 0 0] 26))
  generalize (w.alloc (.cells #[.bool false, .bool false, .slice none 0 0, .slice none 0 0, .slice none 0 0] 26)) = v0 at *
  by_cases hlong : 16384 < s.size
  case pos =>
    have hlong' : (16384 : Int) < (s.size : Int) := by omega
    clear CS CB HXP
    go_wp2_with (refine wpList_store_box (cells := #[.bool false, .bool false, .slice none 0 0, .slice none 0 0, .slice none 0 0]) rfl 26 _ _ rfl X0.out (by rfl) (by rfl) rfl (by kernel_rfl) (by simp [Value.oneCell']) ?_; intro u9 X9 st9)
    have B9 := st9.below w.heap.size w (Nat.le_refl _) B0
    exact bodyPost_ret (v := .tuple #[.agg #[.bool false, .bool false, .slice none 0 0, .slice none 0 0, .slice none 0 0], .int .i64 16384, .int .i64 4]) (box_result22 (p := 2) (q := 3) (r := 4) rfl _ _ (by rfl) X9 Tryz.underlying26 rfl (by kernel_rfl)) rfl ⟨⟨false, false, none, 0, 0, none, 0, 0, none, 0, 0⟩, Sx.nil, _, _, .inl ⟨by rw [HL.out]; exact hlong, rfl, rfl, rfl⟩, rfl, rd_nil _ _, B9⟩
  have hlong' : ¬ (16384 : Int) < (s.size : Int) := by omega
  have hs : s.size ≤ 16384 := by omega
  have HLS : Hid (s.data.toList.length ≤ 16384) := Lib.hid (by rw [HL.out]; exact hs)
  have HXL := Lib.hid X0.out.lt
  go_wp2_with fail
  refine (CS.out hs _).mono ?_
  rintro e wn ⟨rfl, h0⟩
  obtain rfl := h0.symm
  clear CS
  by_cases hend : s.size ≤ q
  case pos =>
    have hend' : (s.size : Int) ≤ (q : Int) := by omega
    have HE : Hid (Pk s.data.toList (RV.err s.size 2)) := Lib.hid (.inl ⟨by rw [← HQ.out, HL.out]; exact hend, by rw [HL.out]⟩)
    clear CB HXP
    go_wp2_with (refine wpList_store_box (cells := #[.bool false, .bool false, .slice none 0 0, .slice none 0 0, .slice none 0 0]) rfl 26 _ _ rfl X0.out (by rfl) (by rfl) rfl (by kernel_rfl) (by simp [Value.oneCell']) ?_; intro u9 X9 st9)
    have B9 := st9.below w.heap.size w (Nat.le_refl _) B0
    exact bodyPost_ret (v := .tuple #[.agg #[.bool false, .bool false, .slice none 0 0, .slice none 0 0, .slice none 0 0], .int .i64 s.size, .int .i64 2]) (box_result22 (p := 2) (q := 3) (r := 4) rfl _ _ (by rfl) X9 Tryz.underlying26 rfl (by kernel_rfl)) rfl ⟨⟨false, false, none, 0, 0, none, 0, 0, none, 0, 0⟩, Sx.nil, _, _, pk_err HE.out HLS.out (by decide), rfl, rd_nil _ _, B9⟩
  have hend' : ¬ (s.size : Int) ≤ (q : Int) := by omega
  have hq0 : (0 : Int) ≤ (q : Int) := by omega
  have hq1 : (q : Int) < (s.size : Int) := by omega
  have hlt : q < s.size := by omega
  obtain ⟨c, hc, hc1, hc2⟩ := at_byte s q hlt
  clear hc2 hend
  by_cases h123 : c.toNat = 123
  case neg =>
    obtain ⟨z1, z2, z3⟩ := bNe 123 123 rfl h123
    have hn123 : c ≠ 123 := fun e => h123 (by rw [e]; rfl)
    have HE : Hid (Pk s.data.toList (RV.err q 3)) := Lib.hid (.inr (.inl ⟨by rw [← HQ.out, HL.out]; exact hlt, by rw [← HQ.out, hc1.out]; exact hn123, by rw [← HQ.out]⟩))
    clear CB HXP h123 hn123 z3 hc1
    go_wp2_with (refine wpList_store_box (cells := #[.bool false, .bool false, .slice none 0 0, .slice none 0 0, .slice none 0 0]) rfl 26 _ _ rfl X0.out (by rfl) (by rfl) rfl (by kernel_rfl) (by simp [Value.oneCell']) ?_; intro u9 X9 st9)
    have B9 := st9.below w.heap.size w (Nat.le_refl _) B0
    exact bodyPost_ret (v := .tuple #[.agg #[.bool false, .bool false, .slice none 0 0, .slice none 0 0, .slice none 0 0], .int .i64 q, .int .i64 3]) (box_result22 (p := 2) (q := 3) (r := 4) rfl _ _ (by rfl) X9 Tryz.underlying26 rfl (by kernel_rfl)) rfl ⟨⟨false, false, none, 0, 0, none, 0, 0, none, 0, 0⟩, Sx.nil, _, _, pk_err HE.out HLS.out (by decide), rfl, rd_nil _ _, B9⟩
  obtain ⟨z1, z2, z3⟩ := bEq 123 123 rfl h123
  have H2 : Hid (skipN s.data.toList 0 < s.data.toList.length ∧ s.data.toList.getD (skipN s.data.toList 0) 0 = 123) := Lib.hid ⟨by rw [← HQ.out, HL.out]; exact hlt, by rw [← HQ.out, hc1.out]; exact UInt8.toNat_inj.1 h123⟩
  have CB2 := Lib.hid (CB.out hs hlt)
  obtain ⟨xb, xp, xe⟩ := x
  dsimp only at HXP
  clear CB h123 z3 hc1
  go_wp2_with fail
  refine (CB2.out _).mono ?_
  rintro e w1 ⟨a1, n1, c1, rfl, hs1, hi1, b1⟩
  dsimp only at hs1 ⊢
  have X1 := Lib.hid (X0.out.after b1)
  have B1 := B0.trans (b1.mono B0.size)
  have I1 := Lib.hid ((hi1.mono (fun k hk => Nat.lt_of_lt_of_le HXL.out hk)).both hs1.inB)
  go_upto_region 9 with (refine wpList_store_box (cells := #[.slice a1 n1 c1, .int .i64 xp, .int .i64 xe]) rfl 42 _ _ rfl (Box.new _ _ _) (by rfl) (by rfl) rfl (by kernel_rfl) (by simp [Value.oneCell']) ?_; intro u2 Z2 st2)
  have b2 : Below w1.heap.size w1 u2 := st2.below w1.heap.size w1 (Nat.le_refl _) ((Below.refl _ _).alloc (Nat.le_refl _) _)
  have hx1 := X1.out.lt
  have X2 := Lib.hid (X1.out.after b2)
  have B2 := B1.trans (b2.mono B1.size)
  have S2 := Lib.hid (hs1.after b2)
  have Z := Lib.hid Z2
  have hzl := Z2.lt
  have e0 := Z2.cell 0 rfl
  have e1 := Z2.cell 1 rfl
  have e2 := Z2.cell 2 rfl
  clear hs1 hi1 b1 X0 B0 X1 B1 st2 b2 Z2 CB2
  generalize w1.heap.size = g2 at *
  by_cases hez : xe = 0
  case neg =>
    obtain ⟨y1, y2⟩ := nat_ne hez
    have HE : Hid (Pk s.data.toList (RV.err xp xe)) := Lib.hid (.inr (.inr (.inl ⟨H2.out.1, H2.out.2, by rw [HXX.out]; exact hez, by rw [HXX.out]⟩)))
    have HNE := Lib.hid hez
    clear HXP hez
    go_upto_region 10 with fail
    have hKS : Keeps (fun w' => Box w' g2 42 #[.slice a1 n1 c1, .int .i64 xp, .int .i64 xe]) := fun w w' h b => h.after b
    refine wp_region_U (w := u2) (fun w' => Box w' g2 42 #[.slice a1 n1 c1, .int .i64 xp, .int .i64 xe]) rfl Z.out.drew ?_
    refine wpU_val 0 hKS rfl (by kernel_rfl) (by kernel_rfl) (by kernel_rfl) rfl (fun _ _ _ _ h => h) (.agg #[.bool false, .bool false, .slice none 0 0, .slice none 0 0, .slice none 0 0]) (fun w' h => by simp [go_sem]) ?_
    simp only [Act.put, List.setIfInBounds_toArray, List.set_cons_zero, List.set_cons_succ]
    refine wpU_val 1 hKS rfl (by kernel_rfl) (by kernel_rfl) (by kernel_rfl) rfl (fun _ _ _ _ h => h) (.pointer (some ⟨g2, 1, none⟩)) (fun w' h => by simp [go_sem]) ?_
    simp only [Act.put, List.setIfInBounds_toArray, List.set_cons_zero, List.set_cons_succ]
    refine wpU_val 2 hKS rfl (by kernel_rfl) (by kernel_rfl) (by kernel_rfl) rfl (fun _ _ _ _ h => h) (.int .i64 xp) (fun w' h => by simp [go_sem, h.cell 1 rfl]) ?_
    simp only [Act.put, List.setIfInBounds_toArray, List.set_cons_zero, List.set_cons_succ]
    refine wpU_val 3 hKS rfl (by kernel_rfl) (by kernel_rfl) (by kernel_rfl) rfl (fun _ _ _ _ h => h) (.pointer (some ⟨g2, 2, none⟩)) (fun w' h => by simp [go_sem]) ?_
    simp only [Act.put, List.setIfInBounds_toArray, List.set_cons_zero, List.set_cons_succ]
    refine wpU_val 4 hKS rfl (by kernel_rfl) (by kernel_rfl) (by kernel_rfl) rfl (fun _ _ _ _ h => h) (.int .i64 xe) (fun w' h => by simp [go_sem, h.cell 2 rfl]) ?_
    simp only [Act.put, List.setIfInBounds_toArray, List.set_cons_zero, List.set_cons_succ]
    refine wpU_store_box (cells := #[.bool false, .bool false, .slice none 0 0, .slice none 0 0, .slice none 0 0]) 5 rfl (by kernel_rfl) rfl 26 _ _ rfl X2.out.drew (by rfl) (by rfl) rfl (by kernel_rfl) (by simp [Value.oneCell']) ?_
    intro w8 u9 b8 s8 X9 st9
    refine ⟨st9.box s8 (by omega), ?_⟩
    simp only [Act.put, List.setIfInBounds_toArray, List.set_cons_zero, List.set_cons_succ]
    refine wpU_val 6 hKS rfl (by kernel_rfl) (by kernel_rfl) (by kernel_rfl) rfl (fun _ _ _ _ h => h) (.int .i64 xp) (fun w' h => by simp [go_sem]) ?_
    simp only [Act.put, List.setIfInBounds_toArray, List.set_cons_zero, List.set_cons_succ]
    refine wpU_val 7 hKS rfl (by kernel_rfl) (by kernel_rfl) (by kernel_rfl) rfl (fun _ _ _ _ h => h) (.int .i64 xe) (fun w' h => by simp [go_sem]) ?_
    simp only [Act.put, List.setIfInBounds_toArray, List.set_cons_zero, List.set_cons_succ]
    refine wpU_done (by kernel_rfl) ?_
    intro w9 b9 s9
    have HX9 := Lib.hid (X9.after b9)
    have B9 := (st9.below w.heap.size w (Nat.le_refl _) (B2.drew.trans (b8.mono B2.size))).trans (b9.mono (Nat.le_trans (Nat.le_trans B2.size b8.size) (Nat.le_of_eq st9.size.symm)))
    clear X9 b9 s9 hKS b8 s8 st9
    go_wp2_with fail
    exact bodyPost_ret (v := .tuple #[.agg #[.bool false, .bool false, .slice none 0 0, .slice none 0 0, .slice none 0 0], .int .i64 xp, .int .i64 xe]) (box_result22 (p := 2) (q := 3) (r := 4) rfl _ _ (by rfl) HX9.out Tryz.underlying26 rfl (by kernel_rfl)) rfl ⟨⟨false, false, none, 0, 0, none, 0, 0, none, 0, 0⟩, Sx.nil, xp, xe, pk_err HE.out HLS.out HNE.out, rfl, rd_nil _ _, B9⟩
  subst hez
  obtain ⟨hxp, hxp1⟩ := HXP.out rfl hlt
  clear HXP
  go_wp2_with fail
  refine (refGet_any (fun k => w.heap.size < k ∧ k < g2) a1 n1 c1 xb u2 S2.out I1.out (fun k hk => by omega)).mono ?_
  rintro e w3 ⟨v, sx, p, y, hgot, rfl, hrd, b3⟩
  obtain ⟨vl, vh, va1, vn1, vc1, va2, vn2, vc2, va3, vn3, vc3⟩ := v
  have X3 := Lib.hid (X2.out.after b3)
  have B3 := B2.trans (b3.mono B2.size)
  have Z3 := Lib.hid (Z.out.after b3)
  have R3 : Hid (RdI (fun k => w.heap.size < k ∧ k < w3.heap.size) w3 ⟨vl, vh, va1, vn1, vc1, va2, vn2, vc2, va3, vn3, vc3⟩ sx) := Lib.hid (hrd.there.mono (fun k hk => ⟨by rcases hk.1 with h | h; exact h.1; omega, hk.2⟩))
  have HG := Lib.hid hgot
  have hz3 := b3.size
  clear hgot hrd b3 X2 B2 Z S2 I1 e0 e1 e2
  go_upto_region 12 with (refine wpList_store_box (cells := #[.bool vl, .bool vh, .slice va1 vn1 vc1, .slice va2 vn2 vc2, .slice va3 vn3 vc3]) rfl 26 _ _ rfl (Box.new _ _ _) (by rfl) (by rfl) rfl (by kernel_rfl) (by simp [Value.oneCell']) ?_; intro u4 Y4 st4)
  have b4 : Below w3.heap.size w3 u4 := st4.below w3.heap.size w3 (Nat.le_refl _) ((Below.refl _ _).alloc (Nat.le_refl _) _)
  have X4 := Lib.hid (X3.out.after b4)
  have B4 := B3.trans (b4.mono B3.size)
  have Z4 := Lib.hid (Z3.out.after b4)
  have R4 := Lib.hid (R3.out.after b4)
  have Y := Lib.hid Y4
  have hyl := Y4.lt
  have e1 := Z4.out.cell 1 rfl
  clear X3 B3 Z3 R3 st4 b4 Y4
  generalize w3.heap.size = g3 at *
  by_cases hy : y = 0
  case neg =>
    obtain ⟨y1, y2⟩ := nat_ne hy
    have HE : Hid (Pk s.data.toList (RV.err (xp - 1) y)) := Lib.hid (.inr (.inr (.inr ⟨H2.out.1, H2.out.2, by rw [HXX.out], sx, p, y, by rw [HXX.out]; exact HG.out, .inl ⟨hy, by rw [HXX.out]⟩⟩)))
    have HNE := Lib.hid hy
    obtain ⟨P, hP⟩ : ∃ P, P = xp - 1 := ⟨_, rfl⟩
    have qP : (xp : Int) - 1 = (P : Int) := by omega
    have hwP : IntKind.i64.wrap (P : Int) = (P : Int) := IntWalk.i64_in _ ⟨by omega, by omega⟩
    rw [← hP] at HE
    clear hy hP
    go_upto_region 13 with fail
    have hKS : Keeps (fun w' => Box w' g2 42 #[.slice a1 n1 c1, .int .i64 xp, .int .i64 0]) := fun w w' h b => h.after b
    refine wp_region_U (w := u4) (fun w' => Box w' g2 42 #[.slice a1 n1 c1, .int .i64 xp, .int .i64 0]) rfl Z4.out.drew ?_
    refine wpU_val 0 hKS rfl (by kernel_rfl) (by kernel_rfl) (by kernel_rfl) rfl (fun _ _ _ _ h => h) (.agg #[.bool false, .bool false, .slice none 0 0, .slice none 0 0, .slice none 0 0]) (fun w' h => by simp [go_sem]) ?_
    simp only [Act.put, List.setIfInBounds_toArray, List.set_cons_zero, List.set_cons_succ]
    refine wpU_val 1 hKS rfl (by kernel_rfl) (by kernel_rfl) (by kernel_rfl) rfl (fun _ _ _ _ h => h) (.pointer (some ⟨g2, 1, none⟩)) (fun w' h => by simp [go_sem]) ?_
    simp only [Act.put, List.setIfInBounds_toArray, List.set_cons_zero, List.set_cons_succ]
    refine wpU_val 2 hKS rfl (by kernel_rfl) (by kernel_rfl) (by kernel_rfl) rfl (fun _ _ _ _ h => h) (.int .i64 xp) (fun w' h => by simp [go_sem, h.cell 1 rfl]) ?_
    simp only [Act.put, List.setIfInBounds_toArray, List.set_cons_zero, List.set_cons_succ]
    refine wpU_val 3 hKS rfl (by kernel_rfl) (by kernel_rfl) (by kernel_rfl) rfl (fun _ _ _ _ h => h) (.int .i64 P) (fun w' h => by simp [go_sem, qP, hwP]) ?_
    simp only [Act.put, List.setIfInBounds_toArray, List.set_cons_zero, List.set_cons_succ]
    refine wpU_val 4 hKS rfl (by kernel_rfl) (by kernel_rfl) (by kernel_rfl) rfl (fun _ _ _ _ h => h) (.int .i64 y) (fun w' h => by simp [go_sem]) ?_
    simp only [Act.put, List.setIfInBounds_toArray, List.set_cons_zero, List.set_cons_succ]
    refine wpU_store_box (cells := #[.bool false, .bool false, .slice none 0 0, .slice none 0 0, .slice none 0 0]) 5 rfl (by kernel_rfl) rfl 26 _ _ rfl X4.out.drew (by rfl) (by rfl) rfl (by kernel_rfl) (by simp [Value.oneCell']) ?_
    intro w8 u9 b8 s8 X9 st9
    refine ⟨st9.box s8 (by omega), ?_⟩
    simp only [Act.put, List.setIfInBounds_toArray, List.set_cons_zero, List.set_cons_succ]
    refine wpU_val 6 hKS rfl (by kernel_rfl) (by kernel_rfl) (by kernel_rfl) rfl (fun _ _ _ _ h => h) (.int .i64 P) (fun w' h => by simp [go_sem]) ?_
    simp only [Act.put, List.setIfInBounds_toArray, List.set_cons_zero, List.set_cons_succ]
    refine wpU_val 7 hKS rfl (by kernel_rfl) (by kernel_rfl) (by kernel_rfl) rfl (fun _ _ _ _ h => h) (.int .i64 y) (fun w' h => by simp [go_sem]) ?_
    simp only [Act.put, List.setIfInBounds_toArray, List.set_cons_zero, List.set_cons_succ]
    refine wpU_done (by kernel_rfl) ?_
    intro w9 b9 s9
    have HX9 := Lib.hid (X9.after b9)
    have B9 := (st9.below w.heap.size w (Nat.le_refl _) (B4.drew.trans (b8.mono B4.size))).trans (b9.mono (Nat.le_trans (Nat.le_trans B4.size b8.size) (Nat.le_of_eq st9.size.symm)))
    clear X9 b9 s9 hKS b8 s8 st9
    go_wp2_with fail
    exact bodyPost_ret (v := .tuple #[.agg #[.bool false, .bool false, .slice none 0 0, .slice none 0 0, .slice none 0 0], .int .i64 P, .int .i64 y]) (box_result22 (p := 2) (q := 3) (r := 4) rfl _ _ (by rfl) HX9.out Tryz.underlying26 rfl (by kernel_rfl)) rfl ⟨⟨false, false, none, 0, 0, none, 0, 0, none, 0, 0⟩, Sx.nil, P, y, pk_err HE.out HLS.out HNE.out, rfl, rd_nil _ _, B9⟩
  subst hy
  have HPK : Hid (Pk s.data.toList ⟨sx, xp, 0, 0⟩) := Lib.hid (.inr (.inr (.inr ⟨H2.out.1, H2.out.2, by rw [HXX.out], sx, p, 0, by rw [HXX.out]; exact HG.out, .inr ⟨rfl, by rw [HXX.out]⟩⟩)))
  have hmp := may_parts (got_ok HG.out).2.1
  have CE := Lib.hid (rended_any (fun k => w.heap.size < k ∧ k < g3) s (by omega) ⟨vl, vh, va1, vn1, vc1, va2, vn2, vc2, va3, vn3, vc3⟩ ⟨sx, xp, 0, 0⟩ u4 R4.out (fun k hk => by omega) (fun _ => hxp) (fun _ => ⟨show sx.nodes ≤ 1000000 by have := hmp.2.1; omega, show sx.deep ≤ 1000000 by have := hmp.2.2.1; omega, show sx.form.length ≤ 1000000000000 by have := hmp.2.2.2; omega⟩))
  dsimp only at CE
  clear hmp
  go_wp2_with (refine wpList_load_box rfl 26 _ rfl Y.out (by rfl) Tryz.underlying26 rfl (by kernel_rfl) ?_)
  refine CE.out.mono ?_
  rintro e w5 ⟨v2, sx2, p2, x2, hE, rfl, hrd2, b5⟩
  have HE := Lib.hid hE
  have HRD := Lib.hid hrd2
  have X5 := Lib.hid (X4.out.after b5)
  have B5 := B4.trans (b5.mono B4.size)
  clear hE hrd2 b5 X4 B4 CE Z4 Y R4
  obtain ⟨rl, rh, ra1, rn1, rc1, ra2, rn2, rc2, ra3, rn3, rc3⟩ := v2
  dsimp only
  go_wp2_with (refine wpList_store_box (cells := #[.bool rl, .bool rh, .slice ra1 rn1 rc1, .slice ra2 rn2 rc2, .slice ra3 rn3 rc3]) rfl 26 _ _ rfl X5.out (by rfl) (by rfl) rfl (by kernel_rfl) (by simp [Value.oneCell']) ?_; intro u9 X9 st9)
  have B9 := st9.below w.heap.size w (Nat.le_refl _) B5
  exact bodyPost_ret (v := .tuple #[.agg #[.bool rl, .bool rh, .slice ra1 rn1 rc1, .slice ra2 rn2 rc2, .slice ra3 rn3 rc3], .int .i64 p2, .int .i64 x2]) (box_result22 (p := 2) (q := 3) (r := 4) rfl _ _ (by rfl) X9 Tryz.underlying26 rfl (by kernel_rfl)) rfl ⟨⟨rl, rh, ra1, rn1, rc1, ra2, rn2, rc2, ra3, rn3, rc3⟩, sx2, p2, x2, .inr ⟨HLS.out, _, HPK.out, HE.out⟩, rfl, ((HRD.out.keep (fun k hk => st9.other k (by omega))).mono (fun k hk => by omega)), B9⟩

set_option maxHeartbeats 16000000 in
set_option maxRecDepth 100000 in
theorem NotationUnpacks_walk (s : ByteArray) (w : World) (ht : Tab w) (hs : s.size ≤ maxLen) : Calls Tryz.prog 3 #[.string s] w fun e w' => e = .returned (.bool true) ∧ Below w.heap.size w w' := by
  have HT := Lib.hid ht
  have B : Below w.heap.size w w := Below.refl _ _
  clear ht
  by_cases hlong : 20000 < s.size
  case pos =>
    have hlong' : (20000 : Int) < (s.size : Int) := by omega
    go_enter Tryz.func3, Tryz.ntmps3
    go_wp2_with fail
    refine (awake_any _ HT.out).mono ?_
    rintro e x99 ⟨rfl, bx99⟩
    replace B := B.trans (bx99.mono B.size)
    go_wp2_with fail
    go_ret
    exact ⟨rfl, B⟩
  have hlong' : ¬ (20000 : Int) < (s.size : Int) := by omega
  go_enter Tryz.func3, Tryz.ntmps3
  go_wp2_with fail
  refine (unpackN_any s w HT.out).mono ?_
  rintro e x1 ⟨v, sx, p, x, hg, rfl, rd, bx1⟩
  obtain ⟨vl, vh, va1, vn1, vc1, va2, vn2, vc2, va3, vn3, vc3⟩ := v
  have RD := Lib.hid (rd.mono (ok' := fun _ => True) (fun _ _ => trivial))
  have HGT := Lib.hid hg
  clear rd hg
  replace HT := Lib.hid (HT.out.after bx1)
  replace B := B.trans (bx1.mono B.size)
  clear bx1
  go_upto_region 4 with (refine wpList_store_box (cells := #[.bool vl, .bool vh, .slice va1 vn1 vc1, .slice va2 vn2 vc2, .slice va3 vn3 vc3]) rfl 26 _ _ rfl (Box.new _ _ _) (by rfl) (by rfl) rfl (by kernel_rfl) (by simp [Value.oneCell']) ?_; intro u9 X9 st9)
  have bs2 : Below x1.heap.size x1 u9 := st9.below x1.heap.size x1 (Nat.le_refl _) ((Below.refl _ _).alloc (Nat.le_refl _) _)
  have Y1 := Lib.hid X9
  replace HT := Lib.hid (HT.out.after bs2)
  replace RD := Lib.hid (RD.out.after bs2)
  replace B := B.trans (bs2.mono B.size)
  clear bs2 st9 X9
  generalize u9 = x2 at *
  generalize x1.heap.size = y1 at *
  go_wp2_with fail
  refine (runpack_any s x2).mono ?_
  rintro e x5 ⟨u, sx2, p2, x2_, hg, rfl, rd, bx5⟩
  obtain ⟨ul, uh, ua1, un1, uc1, ua2, un2, uc2, ua3, un3, uc3⟩ := u
  have RD2 := Lib.hid (rd.mono (ok' := fun _ => True) (fun _ _ => trivial))
  obtain ⟨rfl, rfl, rfl⟩ := GotN.det (fun _ _ h h' => h.det h') HGT.out hg
  clear rd hg HGT
  replace HT := Lib.hid (HT.out.after bx5)
  replace RD := Lib.hid (RD.out.after bx5)
  replace Y1 := Lib.hid (Y1.out.after bx5)
  replace B := B.trans (bx5.mono B.size)
  clear bx5
  go_upto_region 5 with (refine wpList_store_box (cells := #[.bool ul, .bool uh, .slice ua1 un1 uc1, .slice ua2 un2 uc2, .slice ua3 un3 uc3]) rfl 26 _ _ rfl (Box.new _ _ _) (by rfl) (by rfl) rfl (by kernel_rfl) (by simp [Value.oneCell']) ?_; intro u9 X9 st9)
  have bs6 : Below x5.heap.size x5 u9 := st9.below x5.heap.size x5 (Nat.le_refl _) ((Below.refl _ _).alloc (Nat.le_refl _) _)
  have Y2 := Lib.hid X9
  replace HT := Lib.hid (HT.out.after bs6)
  replace RD := Lib.hid (RD.out.after bs6)
  replace Y1 := Lib.hid (Y1.out.after bs6)
  replace RD2 := Lib.hid (RD2.out.after bs6)
  replace B := B.trans (bs6.mono B.size)
  clear bs6 st9 X9
  generalize u9 = x6 at *
  generalize x5.heap.size = y2 at *
  go_wp2_with first | (refine wpList_load_box rfl 26 _ rfl Y1.out (by rfl) Tryz.underlying26 rfl (by kernel_rfl) ?_) | (refine wpList_load_box rfl 26 _ rfl Y2.out (by rfl) Tryz.underlying26 rfl (by kernel_rfl) ?_)
  refine (refSame_any sx sx ⟨vl, vh, va1, vn1, vc1, va2, vn2, vc2, va3, vn3, vc3⟩ ⟨ul, uh, ua1, un1, uc1, ua2, un2, uc2, ua3, un3, uc3⟩ x6 RD.out RD2.out).mono ?_
  rintro e x20 ⟨rfl, bx20⟩
  rw [Sx.same_refl]
  replace HT := Lib.hid (HT.out.after bx20)
  replace RD := Lib.hid (RD.out.after bx20)
  replace Y1 := Lib.hid (Y1.out.after bx20)
  replace RD2 := Lib.hid (RD2.out.after bx20)
  replace Y2 := Lib.hid (Y2.out.after bx20)
  replace B := B.trans (bx20.mono B.size)
  clear bx20
  go_wp2_with fail
  refine (awake_any _ HT.out).mono ?_
  rintro e x99 ⟨rfl, bx99⟩
  replace B := B.trans (bx99.mono B.size)
  go_wp2_with fail
  go_ret
  exact ⟨rfl, B⟩

end Go.Proofs.YtkbblhioncecmaaGreatDoor

/- The document's value, of an advanced form: what it computes. -/
import Derived.Test.YtkbblhioncecmaaDoorNuF
namespace Go.Proofs.YtkbblhioncecmaaDoor
open Go.RowKit
set_option linter.unusedSimpArgs false
set_option linter.unusedVariables false

/-- a reading's outcome is handed back -/
def RN (l : List UInt8) (p lv m : Nat) (w : World) (e : Ending) (w' : World) : Prop := ∃ r, Nt l none p lv m r ∧ RP (fun _ => False) r w e w'
theorem RN.of {l : List UInt8} {p lv m : Nat} {r : RV} {w : World} {e : Ending} {w' : World} (h : Nt l none p lv m r) (h' : RP (fun _ => False) r w e w') : RN l p lv m w e w' := ⟨r, h, h'⟩
theorem Nt_short {l : List UInt8} {p lv m : Nat} {r : RV} (h : Nt l none p lv m r) (he : r.e = 0) : skipN l p < l.length := by
  rcases Nat.lt_or_ge (skipN l p) l.length with h1 | h1
  · exact h1
  · have := h.det (.short h1)
    rw [this] at he
    simp [RV.err] at he

theorem Nt_more {l : List UInt8} {m : Option (List Sx)} {p lv n : Nat} {r : RV} (h : Nt l m p lv n r) (he : r.e = 0) : n + (if m.isNone then 1 else 0) ≤ r.n := by
  induction h with
  | short | bad | long => simp [RV.err] at he
  | @hint p lv n h1 h2 h3 =>
    unfold nHint at he ⊢
    dsimp only at he ⊢
    split at he
    · rename_i h; exact absurd he h
    · rename_i h; rw [if_neg h]
      split at he
      · simp [RV.err] at he
      · rename_i h; rw [if_neg h]
        split at he
        · simp [RV.err] at he
        · rename_i h; rw [if_neg h]
          split at he
          · rename_i h; exact absurd he h
          · rename_i h; rw [if_neg h]; simp
  | @atom p lv n h1 h2 h3 h4 h5 =>
    unfold nAtom at he ⊢
    dsimp only at he ⊢
    split at he
    · rename_i h; exact absurd he h
    · rename_i h; rw [if_neg h]; simp
  | list h1 h2 h3 h4 h5 ih => have := ih he; simp at this ⊢; omega
  | close h1 h2 => simp
  | fail h1 h2 h3 ih => exact absurd he h3
  | more h1 h2 h3 h4 h5 ih1 ih2 => have a1 := ih1 h4; have a2 := ih2 he; simp at a1 a2 ⊢; omega
set_option maxHeartbeats 32000000 in
set_option maxRecDepth 100000 in
theorem rvalue_any (s : ByteArray) (hs : s.size ≤ 100000) : ∀ (N p lv m : Nat) (w : World), s.size - p < N → p ≤ s.size → lv ≤ 17 → m ≤ 512 →
    Calls Tryd.prog 25 #[.string s, .int .i64 p, .int .i64 lv, .int .i64 m] w (RN s.data.toList p lv m w) := by
  intro N
  induction N with
  | zero => intro p lv m w h; omega
  | succ N ih =>
  intro p lv m w hN hp hlv hm
  have HL : Hid (s.data.toList.length = s.size) := Lib.hid (by simp)
  obtain ⟨q, hq⟩ : ∃ q, q = skipN s.data.toList p := ⟨_, rfl⟩
  have hql := skipN_le (l := s.data.toList) (p := p) (by rw [HL.out]; exact hp)
  rw [← hq, HL.out] at hql
  have CS : Hid (∀ w', Calls Tryd.prog 49 #[.string s, .int .i64 p] w' (fun e w2 => e = .returned (.int .i64 q) ∧ w2 = w')) := Lib.hid (fun w' => by rw [hq]; exact rskip_any s p w' (by omega) hp)
  have HQ := Lib.hid hq
  have IH := Lib.hid ih
  obtain ⟨hpq, hqs⟩ := hql
  clear hq ih
  have B0 : Below w.heap.size w (w.alloc (.cells #[.bool false, .bool false, .slice none 0 0, .slice none 0 0, .slice none 0 0, .int .i64 0, .int .i64 0, .int .i64 0] 50)) := (Below.refl _ _).alloc (Nat.le_refl _) _
  have X0 := Lib.hid (Box.new w 50 #[.bool false, .bool false, .slice none 0 0, .slice none 0 0, .slice none 0 0, .int .i64 0, .int .i64 0, .int .i64 0])
  by_cases hend : s.size ≤ q
  case pos =>
    have hend' : (s.size : Int) ≤ (q : Int) := by omega
    have HST : Hid (Nt s.data.toList none p lv m (RV.err s.size 2)) := Lib.hid (by have := Nt.short (l := s.data.toList) (p := p) (lv := lv) (n := m) (by rw [HL.out, ← HQ.out]; exact hend); rwa [HL.out] at this)
    clear IH
    go_enter Tryd.func25, Tryd.ntmps25
    go_upto_region 1 with fail
    change Code.wp _ _ _ _ (w.alloc (.cells #[.bool false, .bool false, .slice none 0 0, .slice none 0 0, .slice none 0 0, .int .i64 0, .int .i64 0, .int .i64 0] 50))
    generalize (w.alloc (.cells #[.bool false, .bool false, .slice none 0 0, .slice none 0 0, .slice none 0 0, .int .i64 0, .int .i64 0, .int .i64 0] 50)) = v0 at *
    go_wp2_with fail
    refine (CS.out _).mono ?_
    rintro e wn ⟨rfl, h0⟩
    obtain rfl := h0.symm
    go_wp2_with (refine wpList_store_box (cells := #[.bool false, .bool false, .slice none 0 0, .slice none 0 0, .slice none 0 0, .int .i64 s.size, .int .i64 0, .int .i64 2]) rfl 50 _ _ rfl X0.out (by rfl) (by rfl) rfl (by kernel_rfl) (by simp [Value.oneCell']) ?_; intro u9 X9 st9)
    have B9 := st9.below w.heap.size w (Nat.le_refl _) B0
    exact bodyPost_ret (v := .agg #[.bool false, .bool false, .slice none 0 0, .slice none 0 0, .slice none 0 0, .int .i64 s.size, .int .i64 0, .int .i64 2]) (box_result rfl _ _ (by rfl) X9 Tryd.underlying50 rfl (by kernel_rfl)) rfl ⟨_, HST.out, rp_err rfl B9⟩
  have hend' : ¬ (s.size : Int) ≤ (q : Int) := by omega
  have hq0 : (0 : Int) ≤ (q : Int) := by omega
  have hq1 : (q : Int) < (s.size : Int) := by omega
  have hlt : q < s.size := by omega
  obtain ⟨ch, hc, hc1, hc2⟩ := at_byte s q hlt
  have HPL : Hid (skipN s.data.toList p < s.data.toList.length) := Lib.hid (by rw [HL.out, ← HQ.out]; exact hlt)
  have HCH : Hid (s.data.toList.getD (skipN s.data.toList p) 0 = ch) := Lib.hid (by rw [← HQ.out]; exact hc1.out)
  clear hc1 hc2 hend
  by_cases hbg : begB ch = true
  case neg =>
    have HST : Hid (Nt s.data.toList none p lv m (RV.err q 3)) := Lib.hid (by rw [HQ.out]; exact Nt.bad HPL.out (by rw [HCH.out]; simpa using hbg))
    have HSG : Hid (signB ch = false) := Lib.hid (by unfold begB at hbg; simp at hbg; exact hbg.2)
    have hh : ch.toNat ≠ 40 ∧ ch.toNat ≠ 91 ∧ ch.toNat ≠ 34 ∧ ch.toNat ≠ 35 ∧ ch.toNat ≠ 124 := by
      exact ⟨fun e => hbg (by rw [show ch = 40 from UInt8.toNat_inj.1 e]; decide), fun e => hbg (by rw [show ch = 91 from UInt8.toNat_inj.1 e]; decide), fun e => hbg (by rw [show ch = 34 from UInt8.toNat_inj.1 e]; decide), fun e => hbg (by rw [show ch = 35 from UInt8.toNat_inj.1 e]; decide), fun e => hbg (by rw [show ch = 124 from UInt8.toNat_inj.1 e]; decide)⟩
    obtain ⟨n40, n91, n34, n35, n124⟩ := hh
    obtain ⟨x40, y40, u40⟩ := bNe (a := ch) 40 40 rfl n40
    clear u40
    obtain ⟨x91, y91, u91⟩ := bNe (a := ch) 91 91 rfl n91
    clear u91
    obtain ⟨x34, y34, u34⟩ := bNe (a := ch) 34 34 rfl n34
    clear u34
    obtain ⟨x35, y35, u35⟩ := bNe (a := ch) 35 35 rfl n35
    clear u35
    obtain ⟨x124, y124, u124⟩ := bNe (a := ch) 124 124 rfl n124
    clear u124
    clear IH hbg n40 n91 n34 n35 n124
    go_enter Tryd.func25, Tryd.ntmps25
    go_upto_region 1 with fail
    change Code.wp _ _ _ _ (w.alloc (.cells #[.bool false, .bool false, .slice none 0 0, .slice none 0 0, .slice none 0 0, .int .i64 0, .int .i64 0, .int .i64 0] 50))
    generalize (w.alloc (.cells #[.bool false, .bool false, .slice none 0 0, .slice none 0 0, .slice none 0 0, .int .i64 0, .int .i64 0, .int .i64 0] 50)) = v0 at *
    go_wp2_with fail
    refine (CS.out _).mono ?_
    rintro e wn ⟨rfl, h0⟩
    obtain rfl := h0.symm
    go_wp2_with fail
    refine (rsign_any ch _).mono ?_
    unfold BitP
    rintro e wn ⟨rfl, h0⟩
    obtain rfl := h0.symm
    rw [HSG.out]
    go_wp2_with (refine wpList_store_box (cells := #[.bool false, .bool false, .slice none 0 0, .slice none 0 0, .slice none 0 0, .int .i64 q, .int .i64 0, .int .i64 3]) rfl 50 _ _ rfl X0.out (by rfl) (by rfl) rfl (by kernel_rfl) (by simp [Value.oneCell']) ?_; intro u9 X9 st9)
    have B9 := st9.below w.heap.size w (Nat.le_refl _) B0
    exact bodyPost_ret (v := .agg #[.bool false, .bool false, .slice none 0 0, .slice none 0 0, .slice none 0 0, .int .i64 q, .int .i64 0, .int .i64 3]) (box_result rfl _ _ (by rfl) X9 Tryd.underlying50 rfl (by kernel_rfl)) rfl ⟨_, HST.out, rp_err rfl B9⟩
  have HBG := Lib.hid hbg
  have hsgn : ch.toNat ≠ 40 → ch.toNat ≠ 91 → ch.toNat ≠ 34 → ch.toNat ≠ 35 → ch.toNat ≠ 124 → signB ch = true := by
    intro e1 e2 e3 e4 e5
    have f1 : ch ≠ 40 := fun e => e1 (by rw [e]; rfl)
    have f2 : ch ≠ 91 := fun e => e2 (by rw [e]; rfl)
    have f3 : ch ≠ 34 := fun e => e3 (by rw [e]; rfl)
    have f4 : ch ≠ 35 := fun e => e4 (by rw [e]; rfl)
    have f5 : ch ≠ 124 := fun e => e5 (by rw [e]; rfl)
    unfold begB at hbg
    simpa [f1, f2, f3, f4, f5] using hbg
  have HSGN := Lib.hid hsgn
  clear hsgn hbg
  by_cases h512 : 512 < m + 1
  case pos =>
    have h512' : (512 : Int) < (m : Int) + 1 := by omega
    have HST : Hid (Nt s.data.toList none p lv m (RV.err q 4)) := Lib.hid (by rw [HQ.out]; exact Nt.long HPL.out (by rw [HCH.out]; exact HBG.out) (.inl h512))
    clear IH
    by_cases h40 : ch.toNat = 40
    case pos =>
      obtain ⟨x40, y40, u40⟩ := bEq (a := ch) 40 40 rfl h40
      clear u40
      go_enter Tryd.func25, Tryd.ntmps25
      go_upto_region 1 with fail
      change Code.wp _ _ _ _ (w.alloc (.cells #[.bool false, .bool false, .slice none 0 0, .slice none 0 0, .slice none 0 0, .int .i64 0, .int .i64 0, .int .i64 0] 50))
      generalize (w.alloc (.cells #[.bool false, .bool false, .slice none 0 0, .slice none 0 0, .slice none 0 0, .int .i64 0, .int .i64 0, .int .i64 0] 50)) = v0 at *
      go_wp2_with fail
      refine (CS.out _).mono ?_
      rintro e wn ⟨rfl, h0⟩
      obtain rfl := h0.symm
      go_wp2_with (refine wpList_store_box (cells := #[.bool false, .bool false, .slice none 0 0, .slice none 0 0, .slice none 0 0, .int .i64 q, .int .i64 0, .int .i64 4]) rfl 50 _ _ rfl X0.out (by rfl) (by rfl) rfl (by kernel_rfl) (by simp [Value.oneCell']) ?_; intro u9 X9 st9)
      have B9 := st9.below w.heap.size w (Nat.le_refl _) B0
      exact bodyPost_ret (v := .agg #[.bool false, .bool false, .slice none 0 0, .slice none 0 0, .slice none 0 0, .int .i64 q, .int .i64 0, .int .i64 4]) (box_result rfl _ _ (by rfl) X9 Tryd.underlying50 rfl (by kernel_rfl)) rfl ⟨_, HST.out, rp_err rfl B9⟩
    have n40 := h40
    clear h40
    by_cases h91 : ch.toNat = 91
    case pos =>
      obtain ⟨x40, y40, u40⟩ := bNe (a := ch) 40 40 rfl n40
      clear u40
      obtain ⟨x91, y91, u91⟩ := bEq (a := ch) 91 91 rfl h91
      clear u91
      go_enter Tryd.func25, Tryd.ntmps25
      go_upto_region 1 with fail
      change Code.wp _ _ _ _ (w.alloc (.cells #[.bool false, .bool false, .slice none 0 0, .slice none 0 0, .slice none 0 0, .int .i64 0, .int .i64 0, .int .i64 0] 50))
      generalize (w.alloc (.cells #[.bool false, .bool false, .slice none 0 0, .slice none 0 0, .slice none 0 0, .int .i64 0, .int .i64 0, .int .i64 0] 50)) = v0 at *
      go_wp2_with fail
      refine (CS.out _).mono ?_
      rintro e wn ⟨rfl, h0⟩
      obtain rfl := h0.symm
      go_wp2_with (refine wpList_store_box (cells := #[.bool false, .bool false, .slice none 0 0, .slice none 0 0, .slice none 0 0, .int .i64 q, .int .i64 0, .int .i64 4]) rfl 50 _ _ rfl X0.out (by rfl) (by rfl) rfl (by kernel_rfl) (by simp [Value.oneCell']) ?_; intro u9 X9 st9)
      have B9 := st9.below w.heap.size w (Nat.le_refl _) B0
      exact bodyPost_ret (v := .agg #[.bool false, .bool false, .slice none 0 0, .slice none 0 0, .slice none 0 0, .int .i64 q, .int .i64 0, .int .i64 4]) (box_result rfl _ _ (by rfl) X9 Tryd.underlying50 rfl (by kernel_rfl)) rfl ⟨_, HST.out, rp_err rfl B9⟩
    have n91 := h91
    clear h91
    by_cases h34 : ch.toNat = 34
    case pos =>
      obtain ⟨x40, y40, u40⟩ := bNe (a := ch) 40 40 rfl n40
      clear u40
      obtain ⟨x91, y91, u91⟩ := bNe (a := ch) 91 91 rfl n91
      clear u91
      obtain ⟨x34, y34, u34⟩ := bEq (a := ch) 34 34 rfl h34
      clear u34
      go_enter Tryd.func25, Tryd.ntmps25
      go_upto_region 1 with fail
      change Code.wp _ _ _ _ (w.alloc (.cells #[.bool false, .bool false, .slice none 0 0, .slice none 0 0, .slice none 0 0, .int .i64 0, .int .i64 0, .int .i64 0] 50))
      generalize (w.alloc (.cells #[.bool false, .bool false, .slice none 0 0, .slice none 0 0, .slice none 0 0, .int .i64 0, .int .i64 0, .int .i64 0] 50)) = v0 at *
      go_wp2_with fail
      refine (CS.out _).mono ?_
      rintro e wn ⟨rfl, h0⟩
      obtain rfl := h0.symm
      go_wp2_with (refine wpList_store_box (cells := #[.bool false, .bool false, .slice none 0 0, .slice none 0 0, .slice none 0 0, .int .i64 q, .int .i64 0, .int .i64 4]) rfl 50 _ _ rfl X0.out (by rfl) (by rfl) rfl (by kernel_rfl) (by simp [Value.oneCell']) ?_; intro u9 X9 st9)
      have B9 := st9.below w.heap.size w (Nat.le_refl _) B0
      exact bodyPost_ret (v := .agg #[.bool false, .bool false, .slice none 0 0, .slice none 0 0, .slice none 0 0, .int .i64 q, .int .i64 0, .int .i64 4]) (box_result rfl _ _ (by rfl) X9 Tryd.underlying50 rfl (by kernel_rfl)) rfl ⟨_, HST.out, rp_err rfl B9⟩
    have n34 := h34
    clear h34
    by_cases h35 : ch.toNat = 35
    case pos =>
      obtain ⟨x40, y40, u40⟩ := bNe (a := ch) 40 40 rfl n40
      clear u40
      obtain ⟨x91, y91, u91⟩ := bNe (a := ch) 91 91 rfl n91
      clear u91
      obtain ⟨x34, y34, u34⟩ := bNe (a := ch) 34 34 rfl n34
      clear u34
      obtain ⟨x35, y35, u35⟩ := bEq (a := ch) 35 35 rfl h35
      clear u35
      go_enter Tryd.func25, Tryd.ntmps25
      go_upto_region 1 with fail
      change Code.wp _ _ _ _ (w.alloc (.cells #[.bool false, .bool false, .slice none 0 0, .slice none 0 0, .slice none 0 0, .int .i64 0, .int .i64 0, .int .i64 0] 50))
      generalize (w.alloc (.cells #[.bool false, .bool false, .slice none 0 0, .slice none 0 0, .slice none 0 0, .int .i64 0, .int .i64 0, .int .i64 0] 50)) = v0 at *
      go_wp2_with fail
      refine (CS.out _).mono ?_
      rintro e wn ⟨rfl, h0⟩
      obtain rfl := h0.symm
      go_wp2_with (refine wpList_store_box (cells := #[.bool false, .bool false, .slice none 0 0, .slice none 0 0, .slice none 0 0, .int .i64 q, .int .i64 0, .int .i64 4]) rfl 50 _ _ rfl X0.out (by rfl) (by rfl) rfl (by kernel_rfl) (by simp [Value.oneCell']) ?_; intro u9 X9 st9)
      have B9 := st9.below w.heap.size w (Nat.le_refl _) B0
      exact bodyPost_ret (v := .agg #[.bool false, .bool false, .slice none 0 0, .slice none 0 0, .slice none 0 0, .int .i64 q, .int .i64 0, .int .i64 4]) (box_result rfl _ _ (by rfl) X9 Tryd.underlying50 rfl (by kernel_rfl)) rfl ⟨_, HST.out, rp_err rfl B9⟩
    have n35 := h35
    clear h35
    by_cases h124 : ch.toNat = 124
    case pos =>
      obtain ⟨x40, y40, u40⟩ := bNe (a := ch) 40 40 rfl n40
      clear u40
      obtain ⟨x91, y91, u91⟩ := bNe (a := ch) 91 91 rfl n91
      clear u91
      obtain ⟨x34, y34, u34⟩ := bNe (a := ch) 34 34 rfl n34
      clear u34
      obtain ⟨x35, y35, u35⟩ := bNe (a := ch) 35 35 rfl n35
      clear u35
      obtain ⟨x124, y124, u124⟩ := bEq (a := ch) 124 124 rfl h124
      clear u124
      go_enter Tryd.func25, Tryd.ntmps25
      go_upto_region 1 with fail
      change Code.wp _ _ _ _ (w.alloc (.cells #[.bool false, .bool false, .slice none 0 0, .slice none 0 0, .slice none 0 0, .int .i64 0, .int .i64 0, .int .i64 0] 50))
      generalize (w.alloc (.cells #[.bool false, .bool false, .slice none 0 0, .slice none 0 0, .slice none 0 0, .int .i64 0, .int .i64 0, .int .i64 0] 50)) = v0 at *
      go_wp2_with fail
      refine (CS.out _).mono ?_
      rintro e wn ⟨rfl, h0⟩
      obtain rfl := h0.symm
      go_wp2_with (refine wpList_store_box (cells := #[.bool false, .bool false, .slice none 0 0, .slice none 0 0, .slice none 0 0, .int .i64 q, .int .i64 0, .int .i64 4]) rfl 50 _ _ rfl X0.out (by rfl) (by rfl) rfl (by kernel_rfl) (by simp [Value.oneCell']) ?_; intro u9 X9 st9)
      have B9 := st9.below w.heap.size w (Nat.le_refl _) B0
      exact bodyPost_ret (v := .agg #[.bool false, .bool false, .slice none 0 0, .slice none 0 0, .slice none 0 0, .int .i64 q, .int .i64 0, .int .i64 4]) (box_result rfl _ _ (by rfl) X9 Tryd.underlying50 rfl (by kernel_rfl)) rfl ⟨_, HST.out, rp_err rfl B9⟩
    have n124 := h124
    clear h124
    obtain ⟨x40, y40, u40⟩ := bNe (a := ch) 40 40 rfl n40
    clear u40
    obtain ⟨x91, y91, u91⟩ := bNe (a := ch) 91 91 rfl n91
    clear u91
    obtain ⟨x34, y34, u34⟩ := bNe (a := ch) 34 34 rfl n34
    clear u34
    obtain ⟨x35, y35, u35⟩ := bNe (a := ch) 35 35 rfl n35
    clear u35
    obtain ⟨x124, y124, u124⟩ := bNe (a := ch) 124 124 rfl n124
    clear u124
    have HSG := Lib.hid (HSGN.out n40 n91 n34 n35 n124)
    go_enter Tryd.func25, Tryd.ntmps25
    go_upto_region 1 with fail
    change Code.wp _ _ _ _ (w.alloc (.cells #[.bool false, .bool false, .slice none 0 0, .slice none 0 0, .slice none 0 0, .int .i64 0, .int .i64 0, .int .i64 0] 50))
    generalize (w.alloc (.cells #[.bool false, .bool false, .slice none 0 0, .slice none 0 0, .slice none 0 0, .int .i64 0, .int .i64 0, .int .i64 0] 50)) = v0 at *
    go_wp2_with fail
    refine (CS.out _).mono ?_
    rintro e wn ⟨rfl, h0⟩
    obtain rfl := h0.symm
    go_wp2_with fail
    refine (rsign_any ch _).mono ?_
    unfold BitP
    rintro e wn ⟨rfl, h0⟩
    obtain rfl := h0.symm
    rw [HSG.out]
    go_wp2_with (refine wpList_store_box (cells := #[.bool false, .bool false, .slice none 0 0, .slice none 0 0, .slice none 0 0, .int .i64 q, .int .i64 0, .int .i64 4]) rfl 50 _ _ rfl X0.out (by rfl) (by rfl) rfl (by kernel_rfl) (by simp [Value.oneCell']) ?_; intro u9 X9 st9)
    have B9 := st9.below w.heap.size w (Nat.le_refl _) B0
    exact bodyPost_ret (v := .agg #[.bool false, .bool false, .slice none 0 0, .slice none 0 0, .slice none 0 0, .int .i64 q, .int .i64 0, .int .i64 4]) (box_result rfl _ _ (by rfl) X9 Tryd.underlying50 rfl (by kernel_rfl)) rfl ⟨_, HST.out, rp_err rfl B9⟩
  replace h512 : m + 1 ≤ 512 := by omega
  have h512' : ¬ (512 : Int) < (m : Int) + 1 := by omega
  have hpc : ((q + 1 : Nat) : Int) = (q : Int) + 1 := by omega
  have hmc : ((m + 1 : Nat) : Int) = (m : Int) + 1 := by omega
  by_cases h40 : ch.toNat = 40
  case neg =>
    have n40 := h40
    clear h40
    by_cases h91 : ch.toNat = 91
    case pos =>
      have HST : Hid (Nt s.data.toList none p lv m (nHint s.data.toList (q + 1) (m + 1))) := Lib.hid (by rw [HQ.out]; exact Nt.hint HPL.out (by rw [HCH.out]; exact UInt8.toNat_inj.1 h91) h512)
      have CH : Hid (∀ w', Calls Tryd.prog 51 #[.string s, .int .i64 ((q : Int) + 1), .int .i64 ((m : Int) + 1)] w' (RP (fun _ => False) (nHint s.data.toList (q + 1) (m + 1)) w')) := Lib.hid (fun w' => by rw [← hpc, ← hmc]; exact rhinted_any s (q + 1) (m + 1) w' hs hlt (by omega))
      obtain ⟨r, hr⟩ : ∃ r, r = nHint s.data.toList (q + 1) (m + 1) := ⟨_, rfl⟩
      rw [← hr] at HST CH
      clear IH hr
      obtain ⟨rv, rp, rn, re⟩ := r
      obtain ⟨x40, y40, u40⟩ := bNe (a := ch) 40 40 rfl n40
      clear u40
      obtain ⟨x91, y91, u91⟩ := bEq (a := ch) 91 91 rfl h91
      clear u91
      go_enter Tryd.func25, Tryd.ntmps25
      go_upto_region 1 with fail
      change Code.wp _ _ _ _ (w.alloc (.cells #[.bool false, .bool false, .slice none 0 0, .slice none 0 0, .slice none 0 0, .int .i64 0, .int .i64 0, .int .i64 0] 50))
      generalize (w.alloc (.cells #[.bool false, .bool false, .slice none 0 0, .slice none 0 0, .slice none 0 0, .int .i64 0, .int .i64 0, .int .i64 0] 50)) = v0 at *
      go_wp2_with fail
      refine (CS.out _).mono ?_
      rintro e wn ⟨rfl, h0⟩
      obtain rfl := h0.symm
      go_wp2_with fail
      refine (CH.out _).mono ?_
      rintro e w1 ⟨v, rfl, hrd, hb1⟩
      have hxl := Lib.hid X0.out.lt
      have X1 := Lib.hid (X0.out.after hb1)
      have B1 := B0.trans (hb1.mono B0.size)
      have HRD := Lib.hid hrd
      clear X0 B0 hrd hb1 CH
      go_wp2_with (refine wpList_store_box (cells := #[.bool v.l, .bool v.h, .slice v.a1 v.n1 v.c1, .slice v.a2 v.n2 v.c2, .slice v.a3 v.n3 v.c3, .int .i64 rp, .int .i64 rn, .int .i64 re]) rfl 50 _ _ rfl X1.out (by rfl) (by rfl) rfl (by kernel_rfl) (by simp [Value.oneCell']) ?_; intro u9 X9 st9)
      have B9 := st9.below w.heap.size w (Nat.le_refl _) B1
      exact bodyPost_ret (v := .agg #[.bool v.l, .bool v.h, .slice v.a1 v.n1 v.c1, .slice v.a2 v.n2 v.c2, .slice v.a3 v.n3 v.c3, .int .i64 rp, .int .i64 rn, .int .i64 re]) (box_result rfl _ _ (by rfl) X9 Tryd.underlying50 rfl (by kernel_rfl)) rfl ⟨_, HST.out, v, rfl, ((HRD.out.keep (fun k hk => st9.other k (by have := hxl.out; rcases hk with h | h; exact h.elim; omega))).mono (fun k hk => .inr (by have := hxl.out; rcases hk with h | h; exact h.elim; omega))), B9⟩
    have n91 := h91
    clear h91
    obtain ⟨d, hd⟩ : ∃ d, d = nPlain s.data.toList q := ⟨_, rfl⟩
    obtain ⟨R, hR⟩ : ∃ R, R = nAtom s.data.toList q (m + 1) := ⟨_, rfl⟩
    have HST : Hid (Nt s.data.toList none p lv m R) := Lib.hid (by rw [hR, HQ.out]; exact Nt.atom HPL.out (by rw [HCH.out]; exact HBG.out) (fun e => n40 (by rw [← HCH.out, e]; rfl)) (fun e => n91 (by rw [← HCH.out, e]; rfl)) h512)
    have HR : Hid (R = if d.e ≠ 0 then RV.err d.p d.e else ⟨.mk false false [] d.b [], d.p, m + 1, 0⟩) := Lib.hid (by rw [hR]; unfold nAtom; dsimp only; rw [← hd])
    have CP : Hid (∀ w', Calls Tryd.prog 52 #[.string s, .int .i64 q] w' (BPost d w')) := Lib.hid (fun w' => by rw [hd]; exact rplain_any s q w' hs hqs)
    clear hR hd IH
    obtain ⟨db, dp, de⟩ := d
    dsimp only at HR
    by_cases h34 : ch.toNat = 34
    case pos =>
      obtain ⟨x40, y40, u40⟩ := bNe (a := ch) 40 40 rfl n40
      clear u40
      obtain ⟨x91, y91, u91⟩ := bNe (a := ch) 91 91 rfl n91
      clear u91
      obtain ⟨x34, y34, u34⟩ := bEq (a := ch) 34 34 rfl h34
      clear u34
      go_enter Tryd.func25, Tryd.ntmps25
      go_upto_region 1 with fail
      change Code.wp _ _ _ _ (w.alloc (.cells #[.bool false, .bool false, .slice none 0 0, .slice none 0 0, .slice none 0 0, .int .i64 0, .int .i64 0, .int .i64 0] 50))
      generalize (w.alloc (.cells #[.bool false, .bool false, .slice none 0 0, .slice none 0 0, .slice none 0 0, .int .i64 0, .int .i64 0, .int .i64 0] 50)) = v0 at *
      go_wp2_with fail
      refine (CS.out _).mono ?_
      rintro e wn ⟨rfl, h0⟩
      obtain rfl := h0.symm
      go_wp2_with fail
      refine (CP.out _).mono ?_
      rintro e w1 ⟨a1, n1, c1, rfl, hs1, hi1, b1⟩
      dsimp only at hs1 ⊢
      have hxl := Lib.hid X0.out.lt
      have X1 := Lib.hid (X0.out.after b1)
      have B1 := B0.trans (b1.mono B0.size)
      have I1 := Lib.hid (hi1.mono (fun k hk => Nat.lt_of_lt_of_le hxl.out hk))
      go_upto_region 13 with (refine wpList_store_box (cells := #[.slice a1 n1 c1, .int .i64 dp, .int .i64 de]) rfl 81 _ _ rfl (Box.new _ _ _) (by rfl) (by rfl) rfl (by kernel_rfl) (by simp [Value.oneCell']) ?_; intro u2 Z2 st2)
      have b2 : Below w1.heap.size w1 u2 := st2.below w1.heap.size w1 (Nat.le_refl _) ((Below.refl _ _).alloc (Nat.le_refl _) _)
      have X2 := Lib.hid (X1.out.after b2)
      have B2 := B1.trans (b2.mono B1.size)
      have S2 := Lib.hid (hs1.after b2)
      have e0 := Z2.cell 0 rfl
      have e1 := Z2.cell 1 rfl
      have e2 := Z2.cell 2 rfl
      clear hs1 hi1 b1 X0 B0 X1 B1 st2 b2 Z2
      generalize w1.heap.size = g1 at *
      by_cases hez : de = 0
      case neg =>
        obtain ⟨z1, z2⟩ := nat_ne hez
        have HE : Hid (R = RV.err dp de) := Lib.hid (by rw [HR.out, if_pos hez])
        go_wp2_with (refine wpList_store_box (cells := #[.bool false, .bool false, .slice none 0 0, .slice none 0 0, .slice none 0 0, .int .i64 dp, .int .i64 0, .int .i64 de]) rfl 50 _ _ rfl X2.out (by rfl) (by rfl) rfl (by kernel_rfl) (by simp [Value.oneCell']) ?_; intro u9 X9 st9)
        have B9 := st9.below w.heap.size w (Nat.le_refl _) B2
        exact bodyPost_ret (v := .agg #[.bool false, .bool false, .slice none 0 0, .slice none 0 0, .slice none 0 0, .int .i64 dp, .int .i64 0, .int .i64 de]) (box_result rfl _ _ (by rfl) X9 Tryd.underlying50 rfl (by kernel_rfl)) rfl ⟨_, HST.out, rp_err HE.out B9⟩
      subst hez
      have HE : Hid (R = ⟨.mk false false [] db [], dp, m + 1, 0⟩) := Lib.hid (by rw [HR.out, if_neg (by simp)])
      go_wp2_with (refine wpList_store_box (cells := #[.bool false, .bool false, .slice none 0 0, .slice a1 n1 c1, .slice none 0 0, .int .i64 dp, .int .i64 ((m : Int) + 1), .int .i64 0]) rfl 50 _ _ rfl X2.out (by rfl) (by rfl) rfl (by kernel_rfl) (by simp [Value.oneCell']) ?_; intro u9 X9 st9)
      have B9 := st9.below w.heap.size w (Nat.le_refl _) B2
      exact bodyPost_ret (v := .agg #[.bool false, .bool false, .slice none 0 0, .slice a1 n1 c1, .slice none 0 0, .int .i64 dp, .int .i64 ((m : Int) + 1), .int .i64 0]) (box_result rfl _ _ (by rfl) X9 Tryd.underlying50 rfl (by kernel_rfl)) rfl ⟨_, HST.out, by have := rp_atom HE.out (S2.out.keepSt (I1.out.mono (fun k hk => Nat.succ_le_of_lt hk)) st9 (Nat.lt_succ_self _)) (I1.out.mono (fun k hk => Nat.le_of_lt hk)) B9; rwa [hmc] at this⟩
    have n34 := h34
    clear h34
    by_cases h35 : ch.toNat = 35
    case pos =>
      obtain ⟨x40, y40, u40⟩ := bNe (a := ch) 40 40 rfl n40
      clear u40
      obtain ⟨x91, y91, u91⟩ := bNe (a := ch) 91 91 rfl n91
      clear u91
      obtain ⟨x34, y34, u34⟩ := bNe (a := ch) 34 34 rfl n34
      clear u34
      obtain ⟨x35, y35, u35⟩ := bEq (a := ch) 35 35 rfl h35
      clear u35
      go_enter Tryd.func25, Tryd.ntmps25
      go_upto_region 1 with fail
      change Code.wp _ _ _ _ (w.alloc (.cells #[.bool false, .bool false, .slice none 0 0, .slice none 0 0, .slice none 0 0, .int .i64 0, .int .i64 0, .int .i64 0] 50))
      generalize (w.alloc (.cells #[.bool false, .bool false, .slice none 0 0, .slice none 0 0, .slice none 0 0, .int .i64 0, .int .i64 0, .int .i64 0] 50)) = v0 at *
      go_wp2_with fail
      refine (CS.out _).mono ?_
      rintro e wn ⟨rfl, h0⟩
      obtain rfl := h0.symm
      go_wp2_with fail
      refine (CP.out _).mono ?_
      rintro e w1 ⟨a1, n1, c1, rfl, hs1, hi1, b1⟩
      dsimp only at hs1 ⊢
      have hxl := Lib.hid X0.out.lt
      have X1 := Lib.hid (X0.out.after b1)
      have B1 := B0.trans (b1.mono B0.size)
      have I1 := Lib.hid (hi1.mono (fun k hk => Nat.lt_of_lt_of_le hxl.out hk))
      go_upto_region 13 with (refine wpList_store_box (cells := #[.slice a1 n1 c1, .int .i64 dp, .int .i64 de]) rfl 81 _ _ rfl (Box.new _ _ _) (by rfl) (by rfl) rfl (by kernel_rfl) (by simp [Value.oneCell']) ?_; intro u2 Z2 st2)
      have b2 : Below w1.heap.size w1 u2 := st2.below w1.heap.size w1 (Nat.le_refl _) ((Below.refl _ _).alloc (Nat.le_refl _) _)
      have X2 := Lib.hid (X1.out.after b2)
      have B2 := B1.trans (b2.mono B1.size)
      have S2 := Lib.hid (hs1.after b2)
      have e0 := Z2.cell 0 rfl
      have e1 := Z2.cell 1 rfl
      have e2 := Z2.cell 2 rfl
      clear hs1 hi1 b1 X0 B0 X1 B1 st2 b2 Z2
      generalize w1.heap.size = g1 at *
      by_cases hez : de = 0
      case neg =>
        obtain ⟨z1, z2⟩ := nat_ne hez
        have HE : Hid (R = RV.err dp de) := Lib.hid (by rw [HR.out, if_pos hez])
        go_wp2_with (refine wpList_store_box (cells := #[.bool false, .bool false, .slice none 0 0, .slice none 0 0, .slice none 0 0, .int .i64 dp, .int .i64 0, .int .i64 de]) rfl 50 _ _ rfl X2.out (by rfl) (by rfl) rfl (by kernel_rfl) (by simp [Value.oneCell']) ?_; intro u9 X9 st9)
        have B9 := st9.below w.heap.size w (Nat.le_refl _) B2
        exact bodyPost_ret (v := .agg #[.bool false, .bool false, .slice none 0 0, .slice none 0 0, .slice none 0 0, .int .i64 dp, .int .i64 0, .int .i64 de]) (box_result rfl _ _ (by rfl) X9 Tryd.underlying50 rfl (by kernel_rfl)) rfl ⟨_, HST.out, rp_err HE.out B9⟩
      subst hez
      have HE : Hid (R = ⟨.mk false false [] db [], dp, m + 1, 0⟩) := Lib.hid (by rw [HR.out, if_neg (by simp)])
      go_wp2_with (refine wpList_store_box (cells := #[.bool false, .bool false, .slice none 0 0, .slice a1 n1 c1, .slice none 0 0, .int .i64 dp, .int .i64 ((m : Int) + 1), .int .i64 0]) rfl 50 _ _ rfl X2.out (by rfl) (by rfl) rfl (by kernel_rfl) (by simp [Value.oneCell']) ?_; intro u9 X9 st9)
      have B9 := st9.below w.heap.size w (Nat.le_refl _) B2
      exact bodyPost_ret (v := .agg #[.bool false, .bool false, .slice none 0 0, .slice a1 n1 c1, .slice none 0 0, .int .i64 dp, .int .i64 ((m : Int) + 1), .int .i64 0]) (box_result rfl _ _ (by rfl) X9 Tryd.underlying50 rfl (by kernel_rfl)) rfl ⟨_, HST.out, by have := rp_atom HE.out (S2.out.keepSt (I1.out.mono (fun k hk => Nat.succ_le_of_lt hk)) st9 (Nat.lt_succ_self _)) (I1.out.mono (fun k hk => Nat.le_of_lt hk)) B9; rwa [hmc] at this⟩
    have n35 := h35
    clear h35
    by_cases h124 : ch.toNat = 124
    case pos =>
      obtain ⟨x40, y40, u40⟩ := bNe (a := ch) 40 40 rfl n40
      clear u40
      obtain ⟨x91, y91, u91⟩ := bNe (a := ch) 91 91 rfl n91
      clear u91
      obtain ⟨x34, y34, u34⟩ := bNe (a := ch) 34 34 rfl n34
      clear u34
      obtain ⟨x35, y35, u35⟩ := bNe (a := ch) 35 35 rfl n35
      clear u35
      obtain ⟨x124, y124, u124⟩ := bEq (a := ch) 124 124 rfl h124
      clear u124
      go_enter Tryd.func25, Tryd.ntmps25
      go_upto_region 1 with fail
      change Code.wp _ _ _ _ (w.alloc (.cells #[.bool false, .bool false, .slice none 0 0, .slice none 0 0, .slice none 0 0, .int .i64 0, .int .i64 0, .int .i64 0] 50))
      generalize (w.alloc (.cells #[.bool false, .bool false, .slice none 0 0, .slice none 0 0, .slice none 0 0, .int .i64 0, .int .i64 0, .int .i64 0] 50)) = v0 at *
      go_wp2_with fail
      refine (CS.out _).mono ?_
      rintro e wn ⟨rfl, h0⟩
      obtain rfl := h0.symm
      go_wp2_with fail
      refine (CP.out _).mono ?_
      rintro e w1 ⟨a1, n1, c1, rfl, hs1, hi1, b1⟩
      dsimp only at hs1 ⊢
      have hxl := Lib.hid X0.out.lt
      have X1 := Lib.hid (X0.out.after b1)
      have B1 := B0.trans (b1.mono B0.size)
      have I1 := Lib.hid (hi1.mono (fun k hk => Nat.lt_of_lt_of_le hxl.out hk))
      go_upto_region 13 with (refine wpList_store_box (cells := #[.slice a1 n1 c1, .int .i64 dp, .int .i64 de]) rfl 81 _ _ rfl (Box.new _ _ _) (by rfl) (by rfl) rfl (by kernel_rfl) (by simp [Value.oneCell']) ?_; intro u2 Z2 st2)
      have b2 : Below w1.heap.size w1 u2 := st2.below w1.heap.size w1 (Nat.le_refl _) ((Below.refl _ _).alloc (Nat.le_refl _) _)
      have X2 := Lib.hid (X1.out.after b2)
      have B2 := B1.trans (b2.mono B1.size)
      have S2 := Lib.hid (hs1.after b2)
      have e0 := Z2.cell 0 rfl
      have e1 := Z2.cell 1 rfl
      have e2 := Z2.cell 2 rfl
      clear hs1 hi1 b1 X0 B0 X1 B1 st2 b2 Z2
      generalize w1.heap.size = g1 at *
      by_cases hez : de = 0
      case neg =>
        obtain ⟨z1, z2⟩ := nat_ne hez
        have HE : Hid (R = RV.err dp de) := Lib.hid (by rw [HR.out, if_pos hez])
        go_wp2_with (refine wpList_store_box (cells := #[.bool false, .bool false, .slice none 0 0, .slice none 0 0, .slice none 0 0, .int .i64 dp, .int .i64 0, .int .i64 de]) rfl 50 _ _ rfl X2.out (by rfl) (by rfl) rfl (by kernel_rfl) (by simp [Value.oneCell']) ?_; intro u9 X9 st9)
        have B9 := st9.below w.heap.size w (Nat.le_refl _) B2
        exact bodyPost_ret (v := .agg #[.bool false, .bool false, .slice none 0 0, .slice none 0 0, .slice none 0 0, .int .i64 dp, .int .i64 0, .int .i64 de]) (box_result rfl _ _ (by rfl) X9 Tryd.underlying50 rfl (by kernel_rfl)) rfl ⟨_, HST.out, rp_err HE.out B9⟩
      subst hez
      have HE : Hid (R = ⟨.mk false false [] db [], dp, m + 1, 0⟩) := Lib.hid (by rw [HR.out, if_neg (by simp)])
      go_wp2_with (refine wpList_store_box (cells := #[.bool false, .bool false, .slice none 0 0, .slice a1 n1 c1, .slice none 0 0, .int .i64 dp, .int .i64 ((m : Int) + 1), .int .i64 0]) rfl 50 _ _ rfl X2.out (by rfl) (by rfl) rfl (by kernel_rfl) (by simp [Value.oneCell']) ?_; intro u9 X9 st9)
      have B9 := st9.below w.heap.size w (Nat.le_refl _) B2
      exact bodyPost_ret (v := .agg #[.bool false, .bool false, .slice none 0 0, .slice a1 n1 c1, .slice none 0 0, .int .i64 dp, .int .i64 ((m : Int) + 1), .int .i64 0]) (box_result rfl _ _ (by rfl) X9 Tryd.underlying50 rfl (by kernel_rfl)) rfl ⟨_, HST.out, by have := rp_atom HE.out (S2.out.keepSt (I1.out.mono (fun k hk => Nat.succ_le_of_lt hk)) st9 (Nat.lt_succ_self _)) (I1.out.mono (fun k hk => Nat.le_of_lt hk)) B9; rwa [hmc] at this⟩
    have n124 := h124
    clear h124
    obtain ⟨x40, y40, u40⟩ := bNe (a := ch) 40 40 rfl n40
    clear u40
    obtain ⟨x91, y91, u91⟩ := bNe (a := ch) 91 91 rfl n91
    clear u91
    obtain ⟨x34, y34, u34⟩ := bNe (a := ch) 34 34 rfl n34
    clear u34
    obtain ⟨x35, y35, u35⟩ := bNe (a := ch) 35 35 rfl n35
    clear u35
    obtain ⟨x124, y124, u124⟩ := bNe (a := ch) 124 124 rfl n124
    clear u124
    have HSG := Lib.hid (HSGN.out n40 n91 n34 n35 n124)
    go_enter Tryd.func25, Tryd.ntmps25
    go_upto_region 1 with fail
    change Code.wp _ _ _ _ (w.alloc (.cells #[.bool false, .bool false, .slice none 0 0, .slice none 0 0, .slice none 0 0, .int .i64 0, .int .i64 0, .int .i64 0] 50))
    generalize (w.alloc (.cells #[.bool false, .bool false, .slice none 0 0, .slice none 0 0, .slice none 0 0, .int .i64 0, .int .i64 0, .int .i64 0] 50)) = v0 at *
    go_wp2_with fail
    refine (CS.out _).mono ?_
    rintro e wn ⟨rfl, h0⟩
    obtain rfl := h0.symm
    go_wp2_with fail
    refine (rsign_any ch _).mono ?_
    unfold BitP
    rintro e wn ⟨rfl, h0⟩
    obtain rfl := h0.symm
    rw [HSG.out]
    go_wp2_with fail
    refine (CP.out _).mono ?_
    rintro e w1 ⟨a1, n1, c1, rfl, hs1, hi1, b1⟩
    dsimp only at hs1 ⊢
    have hxl := Lib.hid X0.out.lt
    have X1 := Lib.hid (X0.out.after b1)
    have B1 := B0.trans (b1.mono B0.size)
    have I1 := Lib.hid (hi1.mono (fun k hk => Nat.lt_of_lt_of_le hxl.out hk))
    go_upto_region 13 with (refine wpList_store_box (cells := #[.slice a1 n1 c1, .int .i64 dp, .int .i64 de]) rfl 81 _ _ rfl (Box.new _ _ _) (by rfl) (by rfl) rfl (by kernel_rfl) (by simp [Value.oneCell']) ?_; intro u2 Z2 st2)
    have b2 : Below w1.heap.size w1 u2 := st2.below w1.heap.size w1 (Nat.le_refl _) ((Below.refl _ _).alloc (Nat.le_refl _) _)
    have X2 := Lib.hid (X1.out.after b2)
    have B2 := B1.trans (b2.mono B1.size)
    have S2 := Lib.hid (hs1.after b2)
    have e0 := Z2.cell 0 rfl
    have e1 := Z2.cell 1 rfl
    have e2 := Z2.cell 2 rfl
    clear hs1 hi1 b1 X0 B0 X1 B1 st2 b2 Z2
    generalize w1.heap.size = g1 at *
    by_cases hez : de = 0
    case neg =>
      obtain ⟨z1, z2⟩ := nat_ne hez
      have HE : Hid (R = RV.err dp de) := Lib.hid (by rw [HR.out, if_pos hez])
      go_wp2_with (refine wpList_store_box (cells := #[.bool false, .bool false, .slice none 0 0, .slice none 0 0, .slice none 0 0, .int .i64 dp, .int .i64 0, .int .i64 de]) rfl 50 _ _ rfl X2.out (by rfl) (by rfl) rfl (by kernel_rfl) (by simp [Value.oneCell']) ?_; intro u9 X9 st9)
      have B9 := st9.below w.heap.size w (Nat.le_refl _) B2
      exact bodyPost_ret (v := .agg #[.bool false, .bool false, .slice none 0 0, .slice none 0 0, .slice none 0 0, .int .i64 dp, .int .i64 0, .int .i64 de]) (box_result rfl _ _ (by rfl) X9 Tryd.underlying50 rfl (by kernel_rfl)) rfl ⟨_, HST.out, rp_err HE.out B9⟩
    subst hez
    have HE : Hid (R = ⟨.mk false false [] db [], dp, m + 1, 0⟩) := Lib.hid (by rw [HR.out, if_neg (by simp)])
    go_wp2_with (refine wpList_store_box (cells := #[.bool false, .bool false, .slice none 0 0, .slice a1 n1 c1, .slice none 0 0, .int .i64 dp, .int .i64 ((m : Int) + 1), .int .i64 0]) rfl 50 _ _ rfl X2.out (by rfl) (by rfl) rfl (by kernel_rfl) (by simp [Value.oneCell']) ?_; intro u9 X9 st9)
    have B9 := st9.below w.heap.size w (Nat.le_refl _) B2
    exact bodyPost_ret (v := .agg #[.bool false, .bool false, .slice none 0 0, .slice a1 n1 c1, .slice none 0 0, .int .i64 dp, .int .i64 ((m : Int) + 1), .int .i64 0]) (box_result rfl _ _ (by rfl) X9 Tryd.underlying50 rfl (by kernel_rfl)) rfl ⟨_, HST.out, by have := rp_atom HE.out (S2.out.keepSt (I1.out.mono (fun k hk => Nat.succ_le_of_lt hk)) st9 (Nat.lt_succ_self _)) (I1.out.mono (fun k hk => Nat.le_of_lt hk)) B9; rwa [hmc] at this⟩
  have h40b := UInt8.toNat_inj.1 (show ch.toNat = (40 : UInt8).toNat from h40)
  by_cases hlv16 : 16 < lv
  case pos =>
    have h16' : (16 : Int) < (lv : Int) := by omega
    have HST : Hid (Nt s.data.toList none p lv m (RV.err q 4)) := Lib.hid (by rw [HQ.out]; exact Nt.long HPL.out (by rw [HCH.out]; exact HBG.out) (.inr ⟨by rw [HCH.out]; exact h40b, hlv16⟩))
    obtain ⟨x40, y40, u40⟩ := bEq (a := ch) 40 40 rfl h40
    clear u40
    clear IH h40 h40b
    go_enter Tryd.func25, Tryd.ntmps25
    go_upto_region 1 with fail
    change Code.wp _ _ _ _ (w.alloc (.cells #[.bool false, .bool false, .slice none 0 0, .slice none 0 0, .slice none 0 0, .int .i64 0, .int .i64 0, .int .i64 0] 50))
    generalize (w.alloc (.cells #[.bool false, .bool false, .slice none 0 0, .slice none 0 0, .slice none 0 0, .int .i64 0, .int .i64 0, .int .i64 0] 50)) = v0 at *
    go_wp2_with fail
    refine (CS.out _).mono ?_
    rintro e wn ⟨rfl, h0⟩
    obtain rfl := h0.symm
    go_wp2_with (refine wpList_store_box (cells := #[.bool false, .bool false, .slice none 0 0, .slice none 0 0, .slice none 0 0, .int .i64 q, .int .i64 0, .int .i64 4]) rfl 50 _ _ rfl X0.out (by rfl) (by rfl) rfl (by kernel_rfl) (by simp [Value.oneCell']) ?_; intro u9 X9 st9)
    have B9 := st9.below w.heap.size w (Nat.le_refl _) B0
    exact bodyPost_ret (v := .agg #[.bool false, .bool false, .slice none 0 0, .slice none 0 0, .slice none 0 0, .int .i64 q, .int .i64 0, .int .i64 4]) (box_result rfl _ _ (by rfl) X9 Tryd.underlying50 rfl (by kernel_rfl)) rfl ⟨_, HST.out, rp_err rfl B9⟩
  replace hlv16 : lv ≤ 16 := by omega
  have hlv16' : ¬ (16 : Int) < (lv : Int) := by omega
  have HLIST : Hid (∀ r, Nt s.data.toList (some []) (q + 1) lv (m + 1) r → Nt s.data.toList none p lv m r) := Lib.hid fun r h => Nt.list HPL.out (by rw [HCH.out]; exact h40b) h512 hlv16 (by rw [← HQ.out]; exact h)
  obtain ⟨x40, y40, u40⟩ := bEq (a := ch) 40 40 rfl h40
  clear u40
  clear h40 h40b HPL HCH HBG HSGN
  go_enter Tryd.func25, Tryd.ntmps25
  go_upto_region 1 with fail
  change Code.wp _ _ _ _ (w.alloc (.cells #[.bool false, .bool false, .slice none 0 0, .slice none 0 0, .slice none 0 0, .int .i64 0, .int .i64 0, .int .i64 0] 50))
  generalize (w.alloc (.cells #[.bool false, .bool false, .slice none 0 0, .slice none 0 0, .slice none 0 0, .int .i64 0, .int .i64 0, .int .i64 0] 50)) = v0 at *
  go_wp2_with fail
  refine (CS.out _).mono ?_
  rintro e wn ⟨rfl, h0⟩
  obtain rfl := h0.symm
  go_upto_region 17 with (refine wpList_store_box (cells := #[.bool true, .bool false, .slice none 0 0, .slice none 0 0, .slice none 0 0]) rfl 26 _ _ rfl (Box.new _ _ _) (by rfl) (by rfl) rfl (by kernel_rfl) (by simp [Value.oneCell']) ?_; intro u1 Y1 st1)
  have B1 := st1.below w.heap.size w B0.size (B0.alloc B0.size _)
  have X1 := st1.box (X0.out.alloc (.cells #[.bool false, .bool false, .slice none 0 0, .slice none 0 0, .slice none 0 0] 26)) (Nat.ne_of_lt X0.out.lt)
  have hlt1 := X0.out.lt
  have hz1 := Y1.lt
  have HO1 : Hid (OwnG u1 (v0.heap.size + 1) 5 (.slice none 0 0) 0 (newsK (fun _ => SV.nil) 0)) := Lib.hid (OwnG.nil _ _ _)
  clear X0 B0 st1 hc x40 y40 hq1 hend' CS
  generalize v0.heap.size = g at *
  go_wp2_with fail
  go_loopw [1, 3] (fun at_ cn wr => ∃ (t cnt al : Nat) (acc : List Sx) (ta : Option Addr) (tc : Nat) (K : Nat → SV), p + 1 ≤ t ∧ t ≤ s.size ∧ cnt ≤ 512 ∧ al ≤ cnt ∧ at_ = .int .i64 t ∧ cn = .int .i64 cnt ∧ Hid (al = acc.length) ∧ Hid (∀ r, Nt s.data.toList (some acc) t lv cnt r → Nt s.data.toList none p lv m r) ∧ Box wr w.heap.size 50 #[.bool false, .bool false, .slice none 0 0, .slice none 0 0, .slice none 0 0, .int .i64 0, .int .i64 0, .int .i64 0] ∧ Box wr g 26 #[.bool true, .bool false, .slice none 0 0, .slice none 0 0, .slice ta al tc] ∧ OwnG wr (g + 1) 5 (.slice ta al tc) al (newsK K al) ∧ Hid (∀ i (hi : i < acc.length), RdI (okK (fun _ => False) g (.slice ta al tc)) wr (K i) acc[i]) ∧ Below w.heap.size w wr) (fun at_ _ _ => s.size + 1 - (intOf at_).toNat)
  case atStart => exact ⟨q + 1, m + 1, 0, [], none, 0, fun _ => SV.nil, by omega, hlt, h512, Nat.zero_le _, by rw [hpc], by rw [hmc], Lib.hid rfl, HLIST, X1, Y1, HO1.out, Lib.hid (fun i hi => by cases hi), B1⟩
  case round =>
    obtain ⟨t0, cnt, al, acc, ta, tc, K, ht1, ht2, hcnt, hal, rfl, rfl, HAL, HTO, hX, hY, hO, HKD, hB⟩ := hrel
    obtain ⟨wa, rfl⟩ : ∃ wa : World, wa = wr := ⟨_, rfl⟩
    clear X1 Y1 B1 HO1 HLIST hpc hmc
    obtain ⟨t, ht⟩ : ∃ t, t = skipN s.data.toList t0 := ⟨_, rfl⟩
    have htl := skipN_le (l := s.data.toList) (p := t0) (by rw [HL.out]; exact ht2)
    rw [← ht, HL.out] at htl
    have CS : Hid (∀ w', Calls Tryd.prog 49 #[.string s, .int .i64 t0] w' (fun e w2 => e = .returned (.int .i64 t) ∧ w2 = w')) := Lib.hid (fun w' => by rw [ht]; exact rskip_any s t0 w' (by omega) ht2)
    have HT := Lib.hid ht
    obtain ⟨htl1, htl2⟩ := htl
    clear ht
    by_cases h41 : ∃ h : t < s.size, s[t] = 41
    case pos =>
      obtain ⟨htn, h41⟩ := h41
      have hgd : s.data.toList.getD t 0 = 41 := (getD_byte s t htn).symm.trans h41
      have HST : Hid (Nt s.data.toList none p lv m ⟨.mk true false [] [] acc, t + 1, cnt, 0⟩) := Lib.hid (HTO.out _ (by rw [HT.out]; exact Nt.close (by rw [← HT.out, HL.out]; exact htn) (by rw [← HT.out]; exact hgd)))
      have t0' : (0 : Int) ≤ (t : Int) := by omega
      have htn' : (t : Int) < (s.size : Int) := by omega
      have HX := Lib.hid hX
      have HY := Lib.hid hY
      clear hgd hX hY IH
      go_wp2_with fail
      refine (CS.out _).mono ?_
      rintro e wn ⟨rfl, h0⟩
      obtain rfl := h0.symm
      go_wp2_with first | (refine wpList_load_box rfl 26 _ rfl HY.out (by rfl) Tryd.underlying26 rfl (by kernel_rfl) ?_) | (refine wpList_store_box (cells := #[.bool true, .bool false, .slice none 0 0, .slice none 0 0, .slice ta al tc, .int .i64 ((t : Int) + 1), .int .i64 cnt, .int .i64 0]) rfl 50 _ _ rfl HX.out (by rfl) (by rfl) rfl (by kernel_rfl) (by simp [Value.oneCell']) ?_; intro u9 X9 st9)
      have B9 := st9.below w.heap.size w (Nat.le_refl _) hB
      obtain ⟨a', c', e', hrow, hinb⟩ := hO.row
      cases e'
      exact bodyPost_ret (v := .agg #[.bool true, .bool false, .slice none 0 0, .slice none 0 0, .slice ta al tc, .int .i64 ((t : Int) + 1), .int .i64 cnt, .int .i64 0]) (box_result rfl _ _ (by rfl) X9 Tryd.underlying50 rfl (by kernel_rfl)) rfl ⟨_, HST.out, ⟨true, false, none, 0, 0, none, 0, 0, ta, al, tc⟩, rfl, rd_list (hrow.keep (hinb.heap fun k hk => st9.other k (by omega))) (hinb.mono fun k hk => .inr (by omega)) HAL.out (fun i hi => ((HKD.out i hi).keep (fun k hk => st9.other k (hk.1.elim (fun h => h.elim) (fun h => by omega)))).mono (fun k hk => hk.1.imp id (fun h => by omega))), B9⟩
    case neg =>
      have HNC : Hid (skipN s.data.toList t0 < s.data.toList.length → s.data.toList.getD (skipN s.data.toList t0) 0 ≠ 41) := Lib.hid (fun h e => by
        rw [← HT.out] at h e
        rw [HL.out] at h
        exact h41 ⟨h, (getD_byte s t h).trans e⟩)
      have CA := IH.out t (lv + 1) cnt wa (by omega) htl2 (by omega) hcnt
      rw [show ((lv + 1 : Nat) : Int) = (lv : Int) + 1 by omega] at CA
      have HCA := Lib.hid CA
      clear CA
      have HX := Lib.hid hX
      have HY := Lib.hid hY
      clear hX hY
      by_cases htn : t < s.size
      · have t0' : (0 : Int) ≤ (t : Int) := by omega
        have htn' : (t : Int) < (s.size : Int) := by omega
        obtain ⟨ch', hc', hc1', hc2'⟩ := at_byte s t htn
        obtain ⟨y1, y2, y1y⟩ := bNe (a := ch') 41 41 rfl (fun e => h41 ⟨htn, by rw [hc', ← UInt8.toNat_inj]; exact e⟩)
        clear h41 hc1' hc2' y1y
        go_wp2_with fail
        refine (CS.out _).mono ?_
        rintro e wn ⟨rfl, h0⟩
        obtain rfl := h0.symm
        go_wp2_with fail
        refine HCA.out.mono ?_
        rintro e w1 ⟨r, hst, v, rfl, hrd, hb1⟩
        obtain ⟨vl, vh, a1, n1, c1, a2, n2, c2, a3, n3, c3⟩ := v
        obtain ⟨rv, rp, rn, re⟩ := r
        dsimp only at hrd ⊢
        have B1 := hB.trans (hb1.mono hB.size)
        have X1 := HX.out.after hb1
        have Y1 := HY.out.after hb1
        have O1 := hO.after hb1
        have HK1 := Lib.hid (fun i hi => (HKD.out i hi).after hb1)
        have hz3 := hB.size
        have hxlt := HX.out.lt
        have HOW := Lib.hid (fun k hk => (hO.lt k hk).2)
        have hylt := HY.out.lt
        have hz4 := hb1.size
        have Z1 := Box.new w1 50 #[.bool false, .bool false, .slice none 0 0, .slice none 0 0, .slice none 0 0, .int .i64 0, .int .i64 0, .int .i64 0]
        have hR1 : RdI (fun k => ((False : Prop) ∨ wa.heap.size ≤ k) ∧ k < w1.heap.size) w1 ⟨vl, vh, a1, n1, c1, a2, n2, c2, a3, n3, c3⟩ rv := hrd.there
        have HRD := Lib.hid hR1
        have HST := Lib.hid hst
        clear hrd hR1 hst HKD HX HY hO HCA CS
        go_upto_region 23 with (refine wpList_store_box (cells := #[.bool vl, .bool vh, .slice a1 n1 c1, .slice a2 n2 c2, .slice a3 n3 c3, .int .i64 rp, .int .i64 rn, .int .i64 re]) rfl 50 _ _ rfl Z1 (by rfl) (by rfl) rfl (by kernel_rfl) (by simp [Value.oneCell']) ?_; intro u2 Z2 st2)
        have B2 := st2.below w.heap.size w (by omega) (B1.alloc B1.size _)
        have b12 := st2.below w1.heap.size w1 (Nat.le_refl _) ((Below.refl _ _).alloc (Nat.le_refl _) _)
        have X2 := X1.after b12
        have Y2 := Y1.after b12
        have O2 := O1.after b12
        have HK2 := Lib.hid (fun i hi => (HK1.out i hi).after b12)
        have HR2 := Lib.hid (HRD.out.after b12)
        have hz5 := Z2.lt
        clear X1 Y1 O1 B1 HK1 HRD b12 st2 hb1 Z1
        generalize w1.heap.size = g2 at *
        have e7 : u2.cell? ⟨g2, 7, none⟩ = some (.int .i64 re) := Z2.cell 7 rfl
        have e6 : u2.cell? ⟨g2, 6, none⟩ = some (.int .i64 rn) := Z2.cell 6 rfl
        have e5 : u2.cell? ⟨g2, 5, none⟩ = some (.int .i64 rp) := Z2.cell 5 rfl
        have e4 : u2.cell? ⟨g, 4, none⟩ = some (.slice ta al tc) := Y2.cell 4 rfl
        have HXX := Lib.hid X2
        have HYY := Lib.hid Y2
        have HZZ := Lib.hid Z2
        clear X2 Y2 Z2
        by_cases he : re = 0
        case neg =>
          obtain ⟨z1, z2⟩ := nat_ne he
          have HSF := Lib.hid (HTO.out _ (Nt.fail HNC.out (by rw [← HT.out]; exact HST.out) he))
          go_wp2_with first | (refine wpList_load_box rfl 50 _ rfl HZZ.out (by rfl) Tryd.underlying50 rfl (by kernel_rfl) ?_) | (refine wpList_store_box (cells := #[.bool vl, .bool vh, .slice a1 n1 c1, .slice a2 n2 c2, .slice a3 n3 c3, .int .i64 rp, .int .i64 rn, .int .i64 re]) rfl 50 _ _ rfl HXX.out (by rfl) (by rfl) rfl (by kernel_rfl) (by simp [Value.oneCell']) ?_; intro u9 X9 st9)
          have B9 := st9.below w.heap.size w (Nat.le_refl _) B2
          exact bodyPost_ret (v := .agg #[.bool vl, .bool vh, .slice a1 n1 c1, .slice a2 n2 c2, .slice a3 n3 c3, .int .i64 rp, .int .i64 rn, .int .i64 re]) (box_result rfl _ _ (by rfl) X9 Tryd.underlying50 rfl (by kernel_rfl)) rfl ⟨_, HSF.out, ⟨vl, vh, a1, n1, c1, a2, n2, c2, a3, n3, c3⟩, rfl, (HR2.out.keep (fun k hk => st9.other k (hk.1.elim (fun h => h.elim) (fun h => by omega)))).mono (fun k hk => hk.1.imp id (fun h => by omega)), B9⟩
        case pos =>
          subst he
          obtain ⟨hp1, hp2, hp3, hp4⟩ := Nt_place HST.out rfl (by rw [HL.out]; exact htl2)
          dsimp only at hp1 hp2 hp3 hp4
          rw [HL.out] at hp2
          have hp3' := hp3 hcnt
          have hn1 : cnt < rn := Nt_more HST.out rfl
          have HSH := Lib.hid (Nt_short HST.out rfl)
          have HSD := Lib.hid (skipN_idem s.data.toList t0)
          clear hp3
          have HLD := Lib.hid (Box.range HZZ.out 0 (SV.cells (⟨vl, vh, a1, n1, c1, a2, n2, c2, a3, n3, c3⟩ : SV)).toList (fun j u hu => by match j, hu with
            | 0, hu => exact hu
            | 1, hu => exact hu
            | 2, hu => exact hu
            | 3, hu => exact hu
            | 4, hu => exact hu
            | k + 5, hu => simp [SV.cells] at hu))
          have HSR := Lib.hid (src_one u2 (⟨vl, vh, a1, n1, c1, a2, n2, c2, a3, n3, c3⟩ : SV))
          have HO3 := Lib.hid (O2.alloc (.cells (SV.cells (⟨vl, vh, a1, n1, c1, a2, n2, c2, a3, n3, c3⟩ : SV)) 26))
          have hz6 := HYY.out.lt
          have B3 := B2.alloc B2.size (.cells (SV.cells (⟨vl, vh, a1, n1, c1, a2, n2, c2, a3, n3, c3⟩ : SV)) 26)
          have HX3 := Lib.hid (HXX.out.alloc (.cells (SV.cells (⟨vl, vh, a1, n1, c1, a2, n2, c2, a3, n3, c3⟩ : SV)) 26))
          have HY3 := Lib.hid (HYY.out.alloc (.cells (SV.cells (⟨vl, vh, a1, n1, c1, a2, n2, c2, a3, n3, c3⟩ : SV)) 26))
          have HZ3 := Lib.hid (HZZ.out.alloc (.cells (SV.cells (⟨vl, vh, a1, n1, c1, a2, n2, c2, a3, n3, c3⟩ : SV)) 26))
          have HK3 := Lib.hid (fun i hi => (HK2.out i hi).after ((Below.refl _ _).alloc (Nat.le_refl _) (.cells (SV.cells (⟨vl, vh, a1, n1, c1, a2, n2, c2, a3, n3, c3⟩ : SV)) 26)))
          have HR3 := Lib.hid (HR2.out.after ((Below.refl _ _).alloc (Nat.le_refl _) (.cells (SV.cells (⟨vl, vh, a1, n1, c1, a2, n2, c2, a3, n3, c3⟩ : SV)) 26)))
          go_upto_region 25 with fail
          go_upto_region 26 with first | (refine wpList_load_sv rfl _ rfl g2 0 rfl (⟨vl, vh, a1, n1, c1, a2, n2, c2, a3, n3, c3⟩ : SV) HLD.out ?_; simp only [SV.val]) | (refine wpList_append_K rfl _ _ rfl rfl HO3.out rfl HSR.out (by omega) (by simp; omega) ?_; intro v2 w2 ho2 hgr hw2; rw [newsK_snoc] at ho2; obtain ⟨ta2, tc2, rfl, _⟩ := ho2.row; have Y3 : Box w2 g 26 #[.bool true, .bool false, .slice none 0 0, .slice none 0 0, .slice ta al tc] := (hgr.block g (by simp; omega) (fun e => by have := HO3.out.lt g e.symm; omega)).trans HY3.out; have d4 := Y3.cell 4 rfl; have f4 := Y3.frozen 4)
          have B8 : Below w.heap.size w (w2.setCell ⟨g, 4, none⟩ (.slice ta2 (al + 1) tc2)) := (B3.grown hgr (by simp; omega) (fun k hk => by have := HO3.out.lt k hk; omega)).setCell (p := ⟨g, 4, none⟩) (by show w.heap.size ≤ g; omega) _
          have Y8 : Box (w2.setCell ⟨g, 4, none⟩ (.slice ta2 (al + 1) tc2)) g 26 #[.bool true, .bool false, .slice none 0 0, .slice none 0 0, .slice ta2 (al + 1) tc2] := Y3.set 4 _
          have X8 : Box (w2.setCell ⟨g, 4, none⟩ (.slice ta2 (al + 1) tc2)) w.heap.size 50 #[.bool false, .bool false, .slice none 0 0, .slice none 0 0, .slice none 0 0, .int .i64 0, .int .i64 0, .int .i64 0] := Box.far (w := w2) ((hgr.block w.heap.size (by simp; omega) (fun e => by have := HO3.out.lt _ e.symm; omega)).trans HX3.out) ⟨g, 4, none⟩ _ (Nat.ne_of_lt hlt1)
          have Z8 : Box (w2.setCell ⟨g, 4, none⟩ (.slice ta2 (al + 1) tc2)) g2 50 #[.bool vl, .bool vh, .slice a1 n1 c1, .slice a2 n2 c2, .slice a3 n3 c3, .int .i64 rp, .int .i64 rn, .int .i64 0] := Box.far (w := w2) ((hgr.block g2 (by simp; omega) (fun e => by have h1 := HO3.out.lt _ e.symm; have h2 := O2.lt g2 e.symm; have h3 := HOW.out g2 e.symm; omega)).trans HZ3.out) ⟨g, 4, none⟩ _ (by show g2 ≠ g; omega)
          have O8 : OwnG (w2.setCell ⟨g, 4, none⟩ (.slice ta2 (al + 1) tc2)) (g + 1) 5 (.slice ta2 (al + 1) tc2) (al + 1) (newsK (fun i => if i = al then (⟨vl, vh, a1, n1, c1, a2, n2, c2, a3, n3, c3⟩ : SV) else K i) (al + 1)) := ho2.keep (by simp) (fun k hk => heap_setCell_other _ _ _ _ (by have := ho2.lt k hk; show k ≠ g; omega))
          have HK8 := Lib.hid (kids_more (v' := .slice ta2 (al + 1) tc2) HAL.out HK3.out HR3.out (fun k h => h.elim) (show g < wa.heap.size from hylt) (fun k hk => ⟨by have := HO3.out.lt k hk; omega, HOW.out k hk⟩) hgr hw2 (.slice ta2 (al + 1) tc2))
          generalize (w2.setCell ⟨g, 4, none⟩ (.slice ta2 (al + 1) tc2)) = u8 at *
          have i6 : u8.cell? ⟨g2, 6, none⟩ = some (.int .i64 rn) := Z8.cell 6 rfl
          have i5 : u8.cell? ⟨g2, 5, none⟩ = some (.int .i64 rp) := Z8.cell 5 rfl
          clear Y3 d4 f4 ho2 hgr hw2 e4 e5 e6 e7 O2 B2 B3 HX3 HY3 HZ3 HK3 HR3 HO3 HSR HLD Z8
          have HX8 := Lib.hid X8
          have HY8 := Lib.hid Y8
          clear X8 Y8
          go_wp2_with fail
          go_roundw
          case rel => exact ⟨rp, rn, al + 1, acc ++ [rv], ta2, tc2, _, by omega, hp2, hp3', by omega, rfl, rfl, Lib.hid (by have := HAL.out; simp; exact this), Lib.hid (fun r' h => HTO.out r' (Nt.more (by have := HSH.out; rw [HT.out, HSD.out] at this; exact this) (HNC.out (by have := HSH.out; rw [HT.out, HSD.out] at this; exact this)) (by rw [← HT.out]; exact HST.out) rfl h)), HX8.out, HY8.out, O8, HK8, B8⟩
          case measure => simp [intOf]; omega
      · have htn' : ¬ (t : Int) < (s.size : Int) := by omega
        clear h41
        go_wp2_with fail
        refine (CS.out _).mono ?_
        rintro e wn ⟨rfl, h0⟩
        obtain rfl := h0.symm
        go_wp2_with fail
        refine HCA.out.mono ?_
        rintro e w1 ⟨r, hst, v, rfl, hrd, hb1⟩
        obtain ⟨vl, vh, a1, n1, c1, a2, n2, c2, a3, n3, c3⟩ := v
        obtain ⟨rv, rp, rn, re⟩ := r
        dsimp only at hrd ⊢
        have B1 := hB.trans (hb1.mono hB.size)
        have X1 := HX.out.after hb1
        have Y1 := HY.out.after hb1
        have O1 := hO.after hb1
        have HK1 := Lib.hid (fun i hi => (HKD.out i hi).after hb1)
        have hz3 := hB.size
        have hxlt := HX.out.lt
        have HOW := Lib.hid (fun k hk => (hO.lt k hk).2)
        have hylt := HY.out.lt
        have hz4 := hb1.size
        have Z1 := Box.new w1 50 #[.bool false, .bool false, .slice none 0 0, .slice none 0 0, .slice none 0 0, .int .i64 0, .int .i64 0, .int .i64 0]
        have hR1 : RdI (fun k => ((False : Prop) ∨ wa.heap.size ≤ k) ∧ k < w1.heap.size) w1 ⟨vl, vh, a1, n1, c1, a2, n2, c2, a3, n3, c3⟩ rv := hrd.there
        have HRD := Lib.hid hR1
        have HST := Lib.hid hst
        clear hrd hR1 hst HKD HX HY hO HCA CS
        go_upto_region 23 with (refine wpList_store_box (cells := #[.bool vl, .bool vh, .slice a1 n1 c1, .slice a2 n2 c2, .slice a3 n3 c3, .int .i64 rp, .int .i64 rn, .int .i64 re]) rfl 50 _ _ rfl Z1 (by rfl) (by rfl) rfl (by kernel_rfl) (by simp [Value.oneCell']) ?_; intro u2 Z2 st2)
        have B2 := st2.below w.heap.size w (by omega) (B1.alloc B1.size _)
        have b12 := st2.below w1.heap.size w1 (Nat.le_refl _) ((Below.refl _ _).alloc (Nat.le_refl _) _)
        have X2 := X1.after b12
        have Y2 := Y1.after b12
        have O2 := O1.after b12
        have HK2 := Lib.hid (fun i hi => (HK1.out i hi).after b12)
        have HR2 := Lib.hid (HRD.out.after b12)
        have hz5 := Z2.lt
        clear X1 Y1 O1 B1 HK1 HRD b12 st2 hb1 Z1
        generalize w1.heap.size = g2 at *
        have e7 : u2.cell? ⟨g2, 7, none⟩ = some (.int .i64 re) := Z2.cell 7 rfl
        have e6 : u2.cell? ⟨g2, 6, none⟩ = some (.int .i64 rn) := Z2.cell 6 rfl
        have e5 : u2.cell? ⟨g2, 5, none⟩ = some (.int .i64 rp) := Z2.cell 5 rfl
        have e4 : u2.cell? ⟨g, 4, none⟩ = some (.slice ta al tc) := Y2.cell 4 rfl
        have HXX := Lib.hid X2
        have HYY := Lib.hid Y2
        have HZZ := Lib.hid Z2
        clear X2 Y2 Z2
        by_cases he : re = 0
        case neg =>
          obtain ⟨z1, z2⟩ := nat_ne he
          have HSF := Lib.hid (HTO.out _ (Nt.fail HNC.out (by rw [← HT.out]; exact HST.out) he))
          go_wp2_with first | (refine wpList_load_box rfl 50 _ rfl HZZ.out (by rfl) Tryd.underlying50 rfl (by kernel_rfl) ?_) | (refine wpList_store_box (cells := #[.bool vl, .bool vh, .slice a1 n1 c1, .slice a2 n2 c2, .slice a3 n3 c3, .int .i64 rp, .int .i64 rn, .int .i64 re]) rfl 50 _ _ rfl HXX.out (by rfl) (by rfl) rfl (by kernel_rfl) (by simp [Value.oneCell']) ?_; intro u9 X9 st9)
          have B9 := st9.below w.heap.size w (Nat.le_refl _) B2
          exact bodyPost_ret (v := .agg #[.bool vl, .bool vh, .slice a1 n1 c1, .slice a2 n2 c2, .slice a3 n3 c3, .int .i64 rp, .int .i64 rn, .int .i64 re]) (box_result rfl _ _ (by rfl) X9 Tryd.underlying50 rfl (by kernel_rfl)) rfl ⟨_, HSF.out, ⟨vl, vh, a1, n1, c1, a2, n2, c2, a3, n3, c3⟩, rfl, (HR2.out.keep (fun k hk => st9.other k (hk.1.elim (fun h => h.elim) (fun h => by omega)))).mono (fun k hk => hk.1.imp id (fun h => by omega)), B9⟩
        case pos =>
          subst he
          obtain ⟨hp1, hp2, hp3, hp4⟩ := Nt_place HST.out rfl (by rw [HL.out]; exact htl2)
          dsimp only at hp1 hp2 hp3 hp4
          rw [HL.out] at hp2
          exact absurd (Nat.lt_of_lt_of_le hp1 hp2) htn

end Go.Proofs.YtkbblhioncecmaaDoor

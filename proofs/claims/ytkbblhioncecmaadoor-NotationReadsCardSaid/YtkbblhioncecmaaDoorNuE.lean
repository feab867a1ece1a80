/- The document's reader of advanced forms: what stands behind a backslash, and in quotes. -/
import Derived.Test.YtkbblhioncecmaaDoorNuD
namespace Go.Proofs.YtkbblhioncecmaaDoor
open Go.RowKit
set_option linter.unusedSimpArgs false
set_option linter.unusedVariables false

theorem bp_mk {r : BR} {w w' : World} {a : Option Addr} {n c : Nat} (hs : Sl w' a n c r.b) (hi : InB (fun k => w.heap.size ≤ k) a n) (hb : Below w.heap.size w w') : BPost r w (.returned (.agg #[.slice a n c, .int .i64 r.p, .int .i64 r.e])) w' :=
  ⟨a, n, c, rfl, hs, hi, hb⟩
theorem esc_at_all : ∀ k : Fin 9, escL.idxOf? (escL.getD k.val 0) = some k.val := by decide +kernel
theorem esc_none_all : ∀ n : Fin 256, (∀ k : Fin 9, escL.getD k.val 0 ≠ n.val.toUInt8) → escL.idxOf? n.val.toUInt8 = none := by decide +kernel
theorem esc_none {c : UInt8} (h : ∀ k, k < 9 → escL.getD k 0 ≠ c) : escL.idxOf? c = none := by
  have := esc_none_all ⟨c.toNat, c.toNat_lt⟩ (fun k => by rw [byte_fin]; exact h k.val k.isLt)
  rwa [byte_fin] at this
theorem escTo_cell (k : Nat) (h : k < 9) : (#[.int .u8 8, .int .u8 9, .int .u8 11, .int .u8 10, .int .u8 12, .int .u8 13, .int .u8 34, .int .u8 39, .int .u8 92] : Array Value)[k]? = some (.int .u8 ((escTo.getD k 0).toNat : Int)) := by
  match k, h with
  | 0, _ => rfl
  | 1, _ => rfl
  | 2, _ => rfl
  | 3, _ => rfl
  | 4, _ => rfl
  | 5, _ => rfl
  | 6, _ => rfl
  | 7, _ => rfl
  | 8, _ => rfl
theorem escFrom_get (k : Nat) (h : k < (ByteArray.mk #[98, 116, 118, 110, 102, 114, 34, 39, 92]).size) : (ByteArray.mk #[98, 116, 118, 110, 102, 114, 34, 39, 92])[k]'h = escL.getD k 0 := getD_byte _ k h
/-- the hexadecimal digits so far -/
def hexN (j X : Nat) : Prop := (j = 1 ∧ X = 0) ∨ (j = 2 ∧ X ≤ 15) ∨ (j = 3 ∧ X ≤ 255)
theorem hexN_step {j X d : Nat} (h : hexN j X) (hj : j < 3) (hd : d < 16) : hexN (j + 1) (X * 16 + d) := by unfold hexN at *; omega
theorem hexN_le {j X : Nat} (h : hexN j X) : X ≤ 255 ∧ (j < 3 → X ≤ 15) ∧ 1 ≤ j := by unfold hexN at h; omega
set_option maxHeartbeats 16000000 in
set_option maxRecDepth 100000 in
theorem rescaped_any (s : ByteArray) (p : Nat) (w : World) (hs : s.size ≤ 100000) (hp : p ≤ s.size) : Calls Tryd.prog 91 #[.string s, .int .i64 p] w (BPost (nEsc s.data.toList p) w) := by
  obtain ⟨R, hR⟩ : ∃ R, R = nEsc s.data.toList p := ⟨_, rfl⟩
  rw [← hR]
  have HL : Hid (s.data.toList.length = s.size) := Lib.hid (by simp)
  unfold nEsc at hR
  rw [HL.out] at hR
  have HR := Lib.hid hR
  clear hR
  have B0 : Below w.heap.size w (w.alloc (.cells #[.slice none 0 0, .int .i64 0, .int .i64 0] 81)) := (Below.refl _ _).alloc (Nat.le_refl _) _
  have X0 := Lib.hid (Box.new w 81 #[.slice none 0 0, .int .i64 0, .int .i64 0])
  by_cases hend : s.size ≤ p
  case pos =>
    have hend' : (s.size : Int) ≤ (p : Int) := by omega
    have HE : Hid (R = BR.err s.size 2) := Lib.hid (by rw [HR.out, if_pos hend])
    clear HR
    go_enter Tryd.func91, Tryd.ntmps91
    go_upto_region 1 with fail
    change Code.wp _ _ _ _ (w.alloc (.cells #[.slice none 0 0, .int .i64 0, .int .i64 0] 81))
    generalize (w.alloc (.cells #[.slice none 0 0, .int .i64 0, .int .i64 0] 81)) = v0 at *
    go_wp2_with (refine wpList_store_box (cells := #[.slice none 0 0, .int .i64 s.size, .int .i64 2]) rfl 81 _ _ rfl X0.out (by rfl) (by rfl) rfl (by kernel_rfl) (by simp [Value.oneCell']) ?_; intro u9 X9 st9)
    have B9 := st9.below w.heap.size w (Nat.le_refl _) B0
    exact bodyPost_ret (v := .agg #[.slice none 0 0, .int .i64 s.size, .int .i64 2]) (box_result rfl _ _ (by rfl) X9 Tryd.underlying81 rfl (by kernel_rfl)) rfl (bp_err HE.out B9)
  have hend' : ¬ (s.size : Int) ≤ (p : Int) := by omega
  have hq0 : (0 : Int) ≤ (p : Int) := by omega
  have hq1 : (p : Int) < (s.size : Int) := by omega
  have hlt : p < s.size := by omega
  obtain ⟨c, hc, hc1, hc2⟩ := at_byte s p hlt
  replace HR : Hid (R = if 48 ≤ c.toNat ∧ c.toNat ≤ 55 then nDigs 8 s.data.toList 3 3 p 0 else if c = 120 then nDigs 16 s.data.toList 2 15 (p + 1) 0 else match escL.idxOf? c with | some i => ⟨[escTo.getD i 0], p + 1, 0⟩ | none => BR.err p 3) := Lib.hid (by rw [HR.out, if_neg hend, hc1.out]; rfl)
  clear hc1 hc2
  by_cases ho : 48 ≤ c.toNat ∧ c.toNat ≤ 55
  case pos =>
    have h1 : (48 : Int) ≤ (c.toNat : Int) := by omega
    have h2 : (c.toNat : Int) ≤ 55 := by omega
    have HE : Hid (R = nDigs 8 s.data.toList 3 3 p 0) := Lib.hid (by rw [HR.out, if_pos ho])
    clear HR ho
    go_enter Tryd.func91, Tryd.ntmps91
    go_upto_region 1 with fail
    change Code.wp _ _ _ _ (w.alloc (.cells #[.slice none 0 0, .int .i64 0, .int .i64 0] 81))
    generalize (w.alloc (.cells #[.slice none 0 0, .int .i64 0, .int .i64 0] 81)) = v0 at *
    go_wp2_with fail
    refine (roctal_any s p _ hs hp).mono ?_
    rw [← HE.out]
    rintro e w1 ⟨a, n, c1, rfl, hs1, hi1, b1⟩
    have HS1 := Lib.hid hs1
    have HI1 := Lib.hid hi1
    have HZ := Lib.hid X0.out.lt
    have X1 := Lib.hid (X0.out.after b1)
    have B1 := B0.trans (b1.mono B0.size)
    clear hs1 hi1 b1 X0 B0 HE
    obtain ⟨Rb, Rp, Re⟩ := R
    dsimp only at HS1 ⊢
    go_wp2_with (refine wpList_store_box (cells := #[.slice a n c1, .int .i64 Rp, .int .i64 Re]) rfl 81 _ _ rfl X1.out (by rfl) (by rfl) rfl (by kernel_rfl) (by simp [Value.oneCell']) ?_; intro u9 X9 st9)
    have B9 := st9.below w.heap.size w (Nat.le_refl _) B1
    exact bodyPost_ret (v := .agg #[.slice a n c1, .int .i64 Rp, .int .i64 Re]) (box_result rfl _ _ (by rfl) X9 Tryd.underlying81 rfl (by kernel_rfl)) rfl (bp_mk (r := ⟨Rb, Rp, Re⟩) (HS1.out.keepSt HI1.out st9 HZ.out) (HI1.out.mono (fun k hk => Nat.le_trans (Nat.le_of_lt HZ.out) hk)) B9)
  by_cases hx : c.toNat = 120
  case pos =>
    have h1 : (48 : Int) ≤ (c.toNat : Int) := by omega
    have h2 : ¬ (c.toNat : Int) ≤ 55 := by omega
    obtain ⟨z1, z2, z3⟩ := bEq 120 120 rfl hx
    have HRX : Hid (R = nDigs 16 s.data.toList 2 15 (p + 1) 0) := Lib.hid (by rw [HR.out, if_neg ho, if_pos (UInt8.toNat_inj.1 hx)])
    clear HR ho hx z3
    go_enter Tryd.func91, Tryd.ntmps91
    go_upto_region 1 with fail
    change Code.wp _ _ _ _ (w.alloc (.cells #[.slice none 0 0, .int .i64 0, .int .i64 0] 81))
    generalize (w.alloc (.cells #[.slice none 0 0, .int .i64 0, .int .i64 0] 81)) = v0 at *
    go_wp2_with fail
    clear h1 h2 z1 z2
    go_loopw [6, 7] (fun nn i wr => ∃ (j X : Nat), j ≤ 3 ∧ nn = .int .u8 X ∧ i = .int .i64 j ∧ Hid (hexN j X) ∧ Hid (R = nDigs 16 s.data.toList (3 - j) (if j = 1 then 15 else 16) (p + j) X) ∧ wr = v0) (fun _ i _ => 3 - (intOf i).toNat)
    case atStart => exact ⟨1, 0, by omega, rfl, rfl, Lib.hid (.inl ⟨rfl, rfl⟩), Lib.hid HRX.out, rfl⟩
    case round =>
      obtain ⟨j, X, hj, rfl, rfl, HO, HK, rfl⟩ := hrel
      obtain ⟨hX, hX2, hj1⟩ := hexN_le HO.out
      have HX2 := Lib.hid hX2
      clear HRX hX2
      by_cases hj3 : j < 3
      case neg =>
        have HE : Hid (R = ⟨[UInt8.ofNat X], p + 3, 0⟩) := Lib.hid (by rw [HK.out, show 3 - j = 0 by omega, show p + j = p + 3 by omega]; rfl)
        have hj3' : ¬ (j : Int) < 3 := by omega
        clear HK HO hj3 HX2
        go_wp2_with (refine wpList_store_box (cells := #[.slice (some ⟨wr.heap.size, 0, none⟩) 1 1, .int .i64 ((p : Int) + 3), .int .i64 0]) rfl 81 _ _ rfl (X0.out.alloc _) (by rfl) (by rfl) rfl (by kernel_rfl) (by simp [Value.oneCell']) ?_; intro u9 X9 st9)
        have B9 := st9.below w.heap.size w (Nat.le_refl _) (B0.alloc B0.size _)
        exact bodyPost_ret (v := .agg #[.slice (some ⟨wr.heap.size, 0, none⟩) 1 1, .int .i64 ((p : Int) + 3), .int .i64 0]) (box_result rfl _ _ (by rfl) X9 Tryd.underlying81 rfl (by kernel_rfl)) rfl (bp_byte (w1 := wr.alloc (.cells #[.int .u8 (X : Int)] 5)) HE.out (by omega) (by omega) X0.out.lt (Box.new _ _ _) (st9.other _ (by have := X0.out.lt; omega)) B9)
      have hj3' : (j : Int) < 3 := by omega
      have hX15 : X ≤ 15 := HX2.out hj3
      obtain ⟨Q, hQ⟩ : ∃ Q, Q = p + j := ⟨_, rfl⟩
      have qQ : (p : Int) + (j : Int) = (Q : Int) := by omega
      have HKQ : Hid (R = nDigs 16 s.data.toList ((2 - j) + 1) (if j = 1 then 15 else 16) Q X) := Lib.hid (by rw [HK.out, ← hQ, show 3 - j = (2 - j) + 1 by omega])
      clear HK HX2
      by_cases hend : s.size ≤ Q
      case pos =>
        have hend' : (s.size : Int) ≤ (Q : Int) := by omega
        have HE : Hid (R = BR.err s.size 2) := Lib.hid (by rw [HKQ.out, nDigs_short (by rw [HL.out]; exact hend), HL.out])
        clear HKQ hQ
        go_wp2_with (refine wpList_store_box (cells := #[.slice none 0 0, .int .i64 s.size, .int .i64 2]) rfl 81 _ _ rfl X0.out (by rfl) (by rfl) rfl (by kernel_rfl) (by simp [Value.oneCell']) ?_; intro u9 X9 st9)
        have B9 := st9.below w.heap.size w (Nat.le_refl _) B0
        exact bodyPost_ret (v := .agg #[.slice none 0 0, .int .i64 s.size, .int .i64 2]) (box_result rfl _ _ (by rfl) X9 Tryd.underlying81 rfl (by kernel_rfl)) rfl (bp_err HE.out B9)
      have hend' : ¬ (s.size : Int) ≤ (Q : Int) := by omega
      have hq0 : (0 : Int) ≤ (Q : Int) := by omega
      have hq1 : (Q : Int) < (s.size : Int) := by omega
      have hlt : Q < s.size := by omega
      obtain ⟨x, hxx, hc1, hc2⟩ := at_byte s Q hlt
      have HQ := Lib.hid hQ
      clear hQ hc2
      cases hv : hval x.toNat with
      | none =>
        have HE : Hid (R = BR.err Q 3) := Lib.hid (by rw [HKQ.out, nDigs_none (by rw [HL.out]; exact hlt) (by rw [hc1.out]; exact hv)])
        have q1 : isB (hval x.toNat) = false := by rw [hv]; rfl
        clear HKQ hc1 hv
        go_wp2_with fail
        refine (refValue_any x _).mono ?_
        rintro e w1 ⟨rfl, rfl⟩
        go_wp2_with (refine wpList_store_box (cells := #[.slice none 0 0, .int .i64 Q, .int .i64 3]) rfl 81 _ _ rfl X0.out (by rfl) (by rfl) rfl (by kernel_rfl) (by simp [Value.oneCell']) ?_; intro u9 X9 st9)
        have B9 := st9.below w.heap.size w (Nat.le_refl _) B0
        exact bodyPost_ret (v := .agg #[.slice none 0 0, .int .i64 Q, .int .i64 3]) (box_result rfl _ _ (by rfl) X9 Tryd.underlying81 rfl (by kernel_rfl)) rfl (bp_err HE.out B9)
      | some d =>
        have hd := hval_lt _ _ hv
        have HN : Hid (R = nDigs 16 s.data.toList (3 - (j + 1)) (if j + 1 = 1 then 15 else 16) (p + (j + 1)) (X * 16 + d)) := Lib.hid (by rw [HKQ.out, nDigs_more (by rw [HL.out]; exact hlt) (by rw [hc1.out]; exact hv) (by split <;> omega), if_neg (by omega), show 3 - (j + 1) = 2 - j by omega, show p + (j + 1) = Q + 1 by have := HQ.out; omega])
        have HB := Lib.hid (hexN_step HO.out hj3 hd)
        have q1 : isB (hval x.toNat) = true := by rw [hv]; rfl
        have q2 : valOf (hval x.toNat) = (d : Int) := by rw [hv]; rfl
        clear HKQ hc1 hv
        go_wp2_with fail
        refine (refValue_any x _).mono ?_
        rintro e w1 ⟨rfl, rfl⟩
        go_wp2_with fail
        go_roundw
        case rel => exact ⟨j + 1, X * 16 + d, by omega, by go_num, by go_num, HB, HN, trivial⟩
        case measure => simp [intOf]; omega
  obtain ⟨z1, z2, z3⟩ := bNe 120 120 rfl hx
  replace HR : Hid (R = match escL.idxOf? c with | some i => ⟨[escTo.getD i 0], p + 1, 0⟩ | none => BR.err p 3) := Lib.hid (by rw [HR.out, if_neg ho, if_neg (fun e => hx (by rw [e]; rfl))])
  have g1 : Hid (Box (w.alloc (.cells #[.slice none 0 0, .int .i64 0, .int .i64 0] 81)) w.heap.size 81 #[.slice none 0 0, .int .i64 0, .int .i64 0]) := X0
  have tail : Hid (∀ (v0 : World), Box v0 w.heap.size 81 #[.slice none 0 0, .int .i64 0, .int .i64 0] → Below w.heap.size w v0 → True) := Lib.hid (fun _ _ _ => trivial)
  clear z3 hx g1 tail
  have hcase : ((c.toNat : Int) < 48) ∨ (¬ (c.toNat : Int) < 48 ∧ ¬ (c.toNat : Int) ≤ 55) := by omega
  clear ho
  rcases hcase with h1 | ⟨h1, h2⟩
  · have hcase := True.intro
    go_enter Tryd.func91, Tryd.ntmps91
    go_upto_region 1 with fail
    change Code.wp _ _ _ _ (w.alloc (.cells #[.slice none 0 0, .int .i64 0, .int .i64 0] 81))
    generalize (w.alloc (.cells #[.slice none 0 0, .int .i64 0, .int .i64 0] 81)) = v0 at *
    go_wp2_with fail
    have X1 := Lib.hid (X0.out.alloc (.cells #[.int .u8 8, .int .u8 9, .int .u8 11, .int .u8 10, .int .u8 12, .int .u8 13, .int .u8 34, .int .u8 39, .int .u8 92] 5))
    have B1 := B0.alloc B0.size (.cells #[.int .u8 8, .int .u8 9, .int .u8 11, .int .u8 10, .int .u8 12, .int .u8 13, .int .u8 34, .int .u8 39, .int .u8 92] 5)
    have T1 := Lib.hid (Box.new v0 5 #[.int .u8 8, .int .u8 9, .int .u8 11, .int .u8 10, .int .u8 12, .int .u8 13, .int .u8 34, .int .u8 39, .int .u8 92])
    clear X0 B0 hcase
    generalize v0.heap.size = g at *
    generalize (v0.alloc (.cells #[.int .u8 8, .int .u8 9, .int .u8 11, .int .u8 10, .int .u8 12, .int .u8 13, .int .u8 34, .int .u8 39, .int .u8 92] 5)) = v1 at *
    go_loopw [74] (fun i wr => ∃ (k : Nat), k ≤ 9 ∧ i = .int .i64 k ∧ Hid (∀ j, j < k → escL.getD j 0 ≠ c) ∧ wr = v1) (fun i _ => 9 - (intOf i).toNat)
    case atStart => exact ⟨0, by omega, rfl, Lib.hid (fun j hj => by omega), rfl⟩
    case round =>
      obtain ⟨k, hk, rfl, HF, rfl⟩ := hrel
      by_cases hk9 : k < 9
      case neg =>
        have hk9' : ¬ (k : Int) < 9 := by omega
        have HE : Hid (R = BR.err p 3) := Lib.hid (by rw [HR.out, esc_none (fun j hj => HF.out j (by omega))])
        clear HR HF hk9
        go_wp2_with (refine wpList_store_box (cells := #[.slice none 0 0, .int .i64 p, .int .i64 3]) rfl 81 _ _ rfl X1.out (by rfl) (by rfl) rfl (by kernel_rfl) (by simp [Value.oneCell']) ?_; intro u9 X9 st9)
        have B9 := st9.below w.heap.size w (Nat.le_refl _) B1
        exact bodyPost_ret (v := .agg #[.slice none 0 0, .int .i64 p, .int .i64 3]) (box_result rfl _ _ (by rfl) X9 Tryd.underlying81 rfl (by kernel_rfl)) rfl (bp_err HE.out B9)
      have hk0 : (0 : Int) ≤ (k : Int) := by omega
      have hk9' : (k : Int) < 9 := by omega
      have hfr := escFrom_get k hk9
      have hto := T1.out.cell k (escTo_cell k hk9)
      obtain ⟨f, hf⟩ : ∃ f, f = escL.getD k 0 := ⟨_, rfl⟩
      obtain ⟨x, hx⟩ : ∃ x, x = escTo.getD k 0 := ⟨_, rfl⟩
      rw [← hf] at hfr
      rw [← hx] at hto
      have HFE := Lib.hid hf
      have HXE := Lib.hid hx
      clear hf hx
      by_cases hfc : f = c
      case pos =>
        subst hfc
        have y1 : ((f.toNat : Int) == (f.toNat : Int)) = true := by simp
        have HE : Hid (R = ⟨[UInt8.ofNat x.toNat], p + 1, 0⟩) := Lib.hid (by
          have e := esc_at_all ⟨k, hk9⟩
          rw [← HFE.out] at e
          rw [HR.out, e, HXE.out]
          simp)
        clear HR HF
        go_wp2_with (refine wpList_store_box (cells := #[.slice (some ⟨wr.heap.size, 0, none⟩) 1 1, .int .i64 ((p : Int) + 1), .int .i64 0]) rfl 81 _ _ rfl (X1.out.alloc _) (by rfl) (by rfl) rfl (by kernel_rfl) (by simp [Value.oneCell']) ?_; intro u9 X9 st9)
        have B9 := st9.below w.heap.size w (Nat.le_refl _) (B1.alloc B1.size _)
        exact bodyPost_ret (v := .agg #[.slice (some ⟨wr.heap.size, 0, none⟩) 1 1, .int .i64 ((p : Int) + 1), .int .i64 0]) (box_result rfl _ _ (by rfl) X9 Tryd.underlying81 rfl (by kernel_rfl)) rfl (bp_byte (w1 := wr.alloc (.cells #[.int .u8 (x.toNat : Int)] 5)) HE.out x.toNat_lt (by omega) X1.out.lt (Box.new _ _ _) (st9.other _ (by have := X1.out.lt; omega)) B9)
      obtain ⟨y1, y2⟩ := byteNe hfc
      have HF2 : Hid (∀ j, j < k + 1 → escL.getD j 0 ≠ c) := Lib.hid (fun j hj => by
        rcases Nat.lt_or_ge j k with h | h
        · exact HF.out j h
        · rw [show j = k by omega, ← HFE.out]; exact hfc)
      clear hfc
      go_wp2_with fail
      go_roundw
      case rel => exact ⟨k + 1, by omega, by go_num, HF2, trivial⟩
      case measure => simp [intOf]; omega
  · have hcase := True.intro
    go_enter Tryd.func91, Tryd.ntmps91
    go_upto_region 1 with fail
    change Code.wp _ _ _ _ (w.alloc (.cells #[.slice none 0 0, .int .i64 0, .int .i64 0] 81))
    generalize (w.alloc (.cells #[.slice none 0 0, .int .i64 0, .int .i64 0] 81)) = v0 at *
    go_wp2_with fail
    have X1 := Lib.hid (X0.out.alloc (.cells #[.int .u8 8, .int .u8 9, .int .u8 11, .int .u8 10, .int .u8 12, .int .u8 13, .int .u8 34, .int .u8 39, .int .u8 92] 5))
    have B1 := B0.alloc B0.size (.cells #[.int .u8 8, .int .u8 9, .int .u8 11, .int .u8 10, .int .u8 12, .int .u8 13, .int .u8 34, .int .u8 39, .int .u8 92] 5)
    have T1 := Lib.hid (Box.new v0 5 #[.int .u8 8, .int .u8 9, .int .u8 11, .int .u8 10, .int .u8 12, .int .u8 13, .int .u8 34, .int .u8 39, .int .u8 92])
    clear X0 B0 hcase
    generalize v0.heap.size = g at *
    generalize (v0.alloc (.cells #[.int .u8 8, .int .u8 9, .int .u8 11, .int .u8 10, .int .u8 12, .int .u8 13, .int .u8 34, .int .u8 39, .int .u8 92] 5)) = v1 at *
    go_loopw [74] (fun i wr => ∃ (k : Nat), k ≤ 9 ∧ i = .int .i64 k ∧ Hid (∀ j, j < k → escL.getD j 0 ≠ c) ∧ wr = v1) (fun i _ => 9 - (intOf i).toNat)
    case atStart => exact ⟨0, by omega, rfl, Lib.hid (fun j hj => by omega), rfl⟩
    case round =>
      obtain ⟨k, hk, rfl, HF, rfl⟩ := hrel
      by_cases hk9 : k < 9
      case neg =>
        have hk9' : ¬ (k : Int) < 9 := by omega
        have HE : Hid (R = BR.err p 3) := Lib.hid (by rw [HR.out, esc_none (fun j hj => HF.out j (by omega))])
        clear HR HF hk9
        go_wp2_with (refine wpList_store_box (cells := #[.slice none 0 0, .int .i64 p, .int .i64 3]) rfl 81 _ _ rfl X1.out (by rfl) (by rfl) rfl (by kernel_rfl) (by simp [Value.oneCell']) ?_; intro u9 X9 st9)
        have B9 := st9.below w.heap.size w (Nat.le_refl _) B1
        exact bodyPost_ret (v := .agg #[.slice none 0 0, .int .i64 p, .int .i64 3]) (box_result rfl _ _ (by rfl) X9 Tryd.underlying81 rfl (by kernel_rfl)) rfl (bp_err HE.out B9)
      have hk0 : (0 : Int) ≤ (k : Int) := by omega
      have hk9' : (k : Int) < 9 := by omega
      have hfr := escFrom_get k hk9
      have hto := T1.out.cell k (escTo_cell k hk9)
      obtain ⟨f, hf⟩ : ∃ f, f = escL.getD k 0 := ⟨_, rfl⟩
      obtain ⟨x, hx⟩ : ∃ x, x = escTo.getD k 0 := ⟨_, rfl⟩
      rw [← hf] at hfr
      rw [← hx] at hto
      have HFE := Lib.hid hf
      have HXE := Lib.hid hx
      clear hf hx
      by_cases hfc : f = c
      case pos =>
        subst hfc
        have y1 : ((f.toNat : Int) == (f.toNat : Int)) = true := by simp
        have HE : Hid (R = ⟨[UInt8.ofNat x.toNat], p + 1, 0⟩) := Lib.hid (by
          have e := esc_at_all ⟨k, hk9⟩
          rw [← HFE.out] at e
          rw [HR.out, e, HXE.out]
          simp)
        clear HR HF
        go_wp2_with (refine wpList_store_box (cells := #[.slice (some ⟨wr.heap.size, 0, none⟩) 1 1, .int .i64 ((p : Int) + 1), .int .i64 0]) rfl 81 _ _ rfl (X1.out.alloc _) (by rfl) (by rfl) rfl (by kernel_rfl) (by simp [Value.oneCell']) ?_; intro u9 X9 st9)
        have B9 := st9.below w.heap.size w (Nat.le_refl _) (B1.alloc B1.size _)
        exact bodyPost_ret (v := .agg #[.slice (some ⟨wr.heap.size, 0, none⟩) 1 1, .int .i64 ((p : Int) + 1), .int .i64 0]) (box_result rfl _ _ (by rfl) X9 Tryd.underlying81 rfl (by kernel_rfl)) rfl (bp_byte (w1 := wr.alloc (.cells #[.int .u8 (x.toNat : Int)] 5)) HE.out x.toNat_lt (by omega) X1.out.lt (Box.new _ _ _) (st9.other _ (by have := X1.out.lt; omega)) B9)
      obtain ⟨y1, y2⟩ := byteNe hfc
      have HF2 : Hid (∀ j, j < k + 1 → escL.getD j 0 ≠ c) := Lib.hid (fun j hj => by
        rcases Nat.lt_or_ge j k with h | h
        · exact HF.out j h
        · rw [show j = k by omega, ← HFE.out]; exact hfc)
      clear hfc
      go_wp2_with fail
      go_roundw
      case rel => exact ⟨k + 1, by omega, by go_num, HF2, trivial⟩
      case measure => simp [intOf]; omega

theorem nDigs_b (base : Nat) (l : List UInt8) : ∀ k first p x, (nDigs base l k first p x).b.length ≤ 1
  | 0, _, p, x => Nat.le_refl _
  | k + 1, first, p, x => by
    unfold nDigs
    split
    · exact Nat.zero_le _
    · split
      · split
        · exact nDigs_b base l k base (p + 1) _
        · exact Nat.zero_le _
      · exact Nat.zero_le _
theorem nEsc_b (l : List UInt8) (p : Nat) : (nEsc l p).b.length ≤ 1 := by
  unfold nEsc
  split
  · exact Nat.zero_le _
  · split
    · exact nDigs_b _ _ _ _ _ _
    · split
      · exact nDigs_b _ _ _ _ _ _
      · split
        · exact Nat.le_refl _
        · exact Nat.zero_le _
set_option maxHeartbeats 16000000 in
set_option maxRecDepth 100000 in
theorem rquoted_any (s : ByteArray) (p : Nat) (w : World) (hs : s.size ≤ 100000) (hp : p ≤ s.size) : Calls Tryd.prog 71 #[.string s, .int .i64 p] w (BPost (nQuote s.data.toList p) w) := by
  obtain ⟨R, hR⟩ : ∃ R, R = nQuote s.data.toList p := ⟨_, rfl⟩
  rw [← hR]
  have HR := Lib.hid hR
  have HL : Hid (s.data.toList.length = s.size) := Lib.hid (by simp)
  clear hR
  have B0 : Below w.heap.size w (w.alloc (.cells #[.slice none 0 0, .int .i64 0, .int .i64 0] 81)) := (Below.refl _ _).alloc (Nat.le_refl _) _
  have X0 := Lib.hid (Box.new w 81 #[.slice none 0 0, .int .i64 0, .int .i64 0])
  have hz0 : w.heap.size < (w.alloc (.cells #[.slice none 0 0, .int .i64 0, .int .i64 0] 81)).heap.size := X0.out.lt
  go_enter Tryd.func71, Tryd.ntmps71
  go_upto_region 1 with fail
  change Code.wp _ _ _ _ (w.alloc (.cells #[.slice none 0 0, .int .i64 0, .int .i64 0] 81))
  generalize (w.alloc (.cells #[.slice none 0 0, .int .i64 0, .int .i64 0] 81)) = v0 at *
  have B1 : Below w.heap.size w (v0.alloc (.cells #[] 5)) := B0.alloc B0.size _
  have X1 := Lib.hid (X0.out.alloc (.cells #[] 5))
  have O1 := Lib.hid (OwnB.empty v0 (w.heap.size + 1) (by omega))
  clear hz0 X0 B0
  go_wp2_with fail
  go_loopw [1, 5] (fun at' out wr => ∃ (k : Nat) (d : List UInt8), k ≤ s.size ∧ d.length ≤ k ∧ at' = .int .i64 k ∧ Hid (R = (nQuote s.data.toList k).pre d) ∧ Hid (Box wr w.heap.size 81 #[.slice none 0 0, .int .i64 0, .int .i64 0]) ∧ Hid (OwnB wr (w.heap.size + 1) out d) ∧ Below w.heap.size w wr) (fun at' _ _ => s.size + 1 - (intOf at').toNat)
  case atStart => exact ⟨p, [], hp, Nat.zero_le _, rfl, Lib.hid (by rw [HR.out, pre_nil]), X1, O1, B1⟩
  case round =>
    obtain ⟨wa, rfl⟩ : ∃ wa : World, wa = wr := ⟨_, rfl⟩
    obtain ⟨k, d, hk, hd, rfl, HRK, X, O, B⟩ := hrel
    have HB : Hid (w.heap.size + 1 ≤ wa.heap.size) := Lib.hid X.out.lt
    have BB := Lib.hid B
    clear X1 O1 B1 HR B
    by_cases hlt : k < s.size
    case neg =>
      have hge : ¬ (k : Int) < (s.size : Int) := by omega
      have HE : Hid (R = BR.err s.size 2) := Lib.hid (by rw [HRK.out, nQuote_end (by have := HL.out; omega), HL.out]; rfl)
      clear HRK hlt
      go_wp2_with (refine wpList_store_box (cells := #[.slice none 0 0, .int .i64 s.size, .int .i64 2]) rfl 81 _ _ rfl X.out (by rfl) (by rfl) rfl (by kernel_rfl) (by simp [Value.oneCell']) ?_; intro u9 X9 st9)
      have B9 := st9.below w.heap.size w (Nat.le_refl _) BB.out
      exact bodyPost_ret (v := .agg #[.slice none 0 0, .int .i64 s.size, .int .i64 2]) (box_result rfl _ _ (by rfl) X9 Tryd.underlying81 rfl (by kernel_rfl)) rfl (bp_err HE.out B9)
    have hk0 : (0 : Int) ≤ k := by omega
    have hk1 : (k : Int) < s.size := by omega
    obtain ⟨c, hc, hc1, hc2⟩ := at_byte s k hlt
    have HST := Lib.hid (nQuote_step (l := s.data.toList) (p := k) (by rw [HL.out]; exact hlt))
    rw [hc1.out] at HST
    clear hc1 hc2
    by_cases h34 : c.toNat = 34
    case pos =>
      obtain ⟨z1, z2, z3⟩ := bEq 34 34 rfl h34
      have HE : Hid (R = ⟨d, k + 1, 0⟩) := Lib.hid (by rw [HRK.out, HST.out, if_pos (UInt8.toNat_inj.1 h34)]; simp [BR.pre])
      obtain ⟨a1, n1, c1, rfl, sl1, in1⟩ := OwnB.parts O.out
      have SL1 := Lib.hid sl1
      have IN1 := Lib.hid in1
      clear HRK HST h34 z3 O sl1 in1
      go_wp2_with (refine wpList_store_box (cells := #[.slice a1 n1 c1, .int .i64 ((k : Int) + 1), .int .i64 0]) rfl 81 _ _ rfl X.out (by rfl) (by rfl) rfl (by kernel_rfl) (by simp [Value.oneCell']) ?_; intro u9 X9 st9)
      have B9 := st9.below w.heap.size w (Nat.le_refl _) BB.out
      exact bodyPost_ret (v := .agg #[.slice a1 n1 c1, .int .i64 ((k : Int) + 1), .int .i64 0]) (box_result rfl _ _ (by rfl) X9 Tryd.underlying81 rfl (by kernel_rfl)) rfl (bp_ok HE.out (by omega) (SL1.out.keepSt IN1.out st9 (Nat.lt_succ_self _)) (IN1.out.mono (fun j hj => by omega)) B9)
    obtain ⟨z1, z2, z3⟩ := bNe 34 34 rfl h34
    have hn34 : c ≠ 34 := fun e => h34 (by rw [e]; rfl)
    have HN34 := Lib.hid hn34
    clear hn34
    clear h34 z3
    by_cases h92 : c.toNat = 92
    case neg =>
      obtain ⟨y1, y2, y3⟩ := bNe 92 92 rfl h92
      have hn92 : c ≠ 92 := fun e => h92 (by rw [e]; rfl)
      have HT : Hid (R = (nQuote s.data.toList (k + 1)).pre (d ++ [c])) := Lib.hid (by rw [HRK.out, HST.out, if_neg HN34.out, if_pos hn92, pre_pre])
      clear HRK HST h92 y3 HN34 hn92
      go_wp2_with (refine wpList_append_B rfl _ _ rfl (l := d) rfl (OwnG.alloc O.out _) (l2 := [c]) rfl (sl_cell1 _ c _ rfl) (by simp; omega) (by have := HB.out; simp; omega) ?_; intro v5 w5 ho5 hg5)
      have X5 := Lib.hid ((X.out.alloc _).grown hg5 (fun j hj => by have := O.out.lt j hj; omega))
      have B5 := (BB.out.alloc (by have := HB.out; omega) _).grown hg5 (by have := HB.out; simp; omega) (fun j hj => by have := O.out.lt _ hj; omega)
      have O5 := Lib.hid ho5
      clear ho5 hg5 X O BB
      go_wp2_with fail
      go_roundw
      case rel => exact ⟨k + 1, d ++ [c], by omega, by simp; omega, by go_num, HT, X5, O5, B5⟩
      case measure => simp [intOf]; omega
    obtain ⟨y1, y2, y3⟩ := bEq 92 92 rfl h92
    obtain ⟨r, hr⟩ : ∃ r, r = nEsc s.data.toList (k + 1) := ⟨_, rfl⟩
    have HT : Hid (R = if r.e ≠ 0 then r else (nQuote s.data.toList r.p).pre (d ++ r.b)) := Lib.hid (by
      rw [HRK.out, HST.out, if_neg HN34.out, if_neg (show ¬ c ≠ 92 from fun h => h (UInt8.toNat_inj.1 h92)), ← hr]
      split
      · rename_i h; unfold BR.pre; rw [if_neg h]
      · rw [pre_pre])
    have hrp := nEsc_place s.data.toList (k + 1) (by rw [HL.out]; exact hlt)
    have hrb := nEsc_b s.data.toList (k + 1)
    rw [← hr] at hrp hrb
    rw [HL.out] at hrp
    have CE : Hid (∀ w', Calls Tryd.prog 91 #[.string s, .int .i64 ((k : Int) + 1)] w' (BPost r w')) := Lib.hid (fun w' => by
      have := rescaped_any s (k + 1) w' hs hlt
      rw [← hr] at this
      exact this)
    obtain ⟨hrp1, hrp2⟩ := hrp
    clear HRK HST h92 y3 HN34 hr
    obtain ⟨rb, rp, re⟩ := r
    dsimp only at HT hrp1 hrp2 hrb
    go_wp2_with fail
    refine (CE.out _).mono ?_
    rintro e w1 ⟨a, n, c1, rfl, hs1, hi1, b1⟩
    dsimp only at hs1 ⊢
    have X1 := Lib.hid (X.out.after b1)
    have O1 := Lib.hid (O.out.after b1)
    have B1 := Lib.hid (BB.out.trans (b1.mono BB.out.size))
    have HZ1 := Lib.hid (Nat.le_trans HB.out b1.size)
    have HS1 := Lib.hid hs1
    have HI1 : Hid (InB (fun j => wa.heap.size ≤ j ∧ j < w1.heap.size) a n) := Lib.hid (hi1.both hs1.inB)
    clear hs1 hi1 b1 X O BB CE
    go_upto_region 10 with (refine wpList_store_box (cells := #[.slice a n c1, .int .i64 rp, .int .i64 re]) rfl 81 _ _ rfl (Box.new _ _ _) (by rfl) (by rfl) rfl (by kernel_rfl) (by simp [Value.oneCell']) ?_; intro u2 Z2 st2)
    have X2 := Lib.hid (st2.box (X1.out.alloc _) (by have := HZ1.out; omega))
    have b2 : Below w1.heap.size w1 u2 := st2.below w1.heap.size w1 (Nat.le_refl _) ((Below.refl _ _).alloc (Nat.le_refl _) _)
    have O2 := Lib.hid (O1.out.after b2)
    have S2 := Lib.hid (HS1.out.after b2)
    have B2 := Lib.hid (B1.out.trans (b2.mono B1.out.size))
    have HZ2 := Lib.hid (Nat.le_trans HZ1.out b2.size)
    have Z := Lib.hid Z2
    have HG2 := Lib.hid (show w.heap.size + 1 ≤ w1.heap.size from HZ1.out)
    have hg3 := OwnG.lt O1.out
    have HG3 := Lib.hid hg3
    clear hg3
    have e0 := Z2.cell 0 rfl
    have e1 := Z2.cell 1 rfl
    have e2 := Z2.cell 2 rfl
    clear st2 b2 X1 O1 B1 HS1 HZ1 Z2
    generalize w1.heap.size = g2 at *
    by_cases he : re = 0
    case neg =>
      obtain ⟨x1, x2⟩ := nat_ne he
      have HE : Hid (R = ⟨rb, rp, re⟩) := Lib.hid (by rw [HT.out, if_pos he])
      clear HT
      go_wp2_with first | (refine wpList_load_box rfl 81 _ rfl Z.out (by rfl) Tryd.underlying81 rfl (by kernel_rfl) ?_) | (refine wpList_store_box (cells := #[.slice a n c1, .int .i64 rp, .int .i64 re]) rfl 81 _ _ rfl X2.out (by rfl) (by rfl) rfl (by kernel_rfl) (by simp [Value.oneCell']) ?_; intro u9 X9 st9)
      have B9 := st9.below w.heap.size w (Nat.le_refl _) B2.out
      rw [HE.out]
      exact bodyPost_ret (v := .agg #[.slice a n c1, .int .i64 rp, .int .i64 re]) (box_result rfl _ _ (by rfl) X9 Tryd.underlying81 rfl (by kernel_rfl)) rfl (bp_mk (r := ⟨rb, rp, re⟩) (S2.out.keepSt (HI1.out.mono (fun j hj => hj.1)) st9 HB.out) (HI1.out.mono (fun j hj => by have := HB.out; omega)) B9)
    subst he
    have HT2 : Hid (R = (nQuote s.data.toList rp).pre (d ++ rb)) := Lib.hid (by rw [HT.out, if_neg (by simp)])
    have hnb : n = rb.length := S2.out.1
    have HNB := Lib.hid hnb
    clear HT hnb
    have hn1 : n ≤ 1 := by have := HNB.out; omega
    go_wp2_with (refine wpList_append_B rfl _ _ rfl (l := d) rfl O2.out (l2 := rb) rfl S2.out (by omega) (by have := HZ2.out; omega) ?_; intro v5 w5 ho5 hg5; have e5 := (Z.out.grown hg5 (fun j hj => Ne.symm (Nat.ne_of_lt (HG3.out j hj).2))).cell 1 rfl)
    have X5 := Lib.hid (X2.out.grown hg5 (fun j hj => by have := O2.out.lt j hj; omega))
    have B5 := B2.out.grown hg5 (by have := HZ2.out; omega) (fun j hj => by have := O2.out.lt _ hj; omega)
    have O5 := Lib.hid ho5
    clear ho5 hg5 X2 O2 B2 S2 Z e0 e1 e2
    go_wp2_with fail
    go_roundw
    case rel => exact ⟨rp, d ++ rb, hrp1, by simp; omega, by go_num, HT2, X5, O5, B5⟩
    case measure => simp [intOf]; omega
end Go.Proofs.YtkbblhioncecmaaDoor

/- The document's reader of advanced forms: bytes in Base64 and digits, what stands behind a backslash. -/
import Derived.Test.YtkbblhioncecmaaDoorNuC
namespace Go.Proofs.YtkbblhioncecmaaDoor
open Go.RowKit
set_option linter.unusedSimpArgs false
set_option linter.unusedVariables false

theorem nSome_b {good : UInt8 → Bool} {en : UInt8} : ∀ (l : List UInt8) (p : Nat), (nSome good en l p).e ≠ 0 → (nSome good en l p).b = []
  | [], p, _ => rfl
  | c :: r, p, h => by
    unfold nSome at h ⊢
    split
    · rfl
    · rename_i h1; rw [if_neg h1] at h
      split
      · rfl
      · rename_i h2; rw [if_neg h2] at h
        dsimp only at h ⊢
        split
        · rename_i h3; rw [if_pos h3] at h; exact absurd rfl h
        · rename_i h3; exact nSome_b r (p + 1) h3
theorem oct_val {n : Nat} (h : 48 ≤ n ∧ n ≤ 55) : hval n = some (n - 48) := (hval_iv n).2.1 (by omega)
theorem oct_none {n d : Nat} (h : n < 48 ∨ 55 < n) (hv : hval n = some d) : 8 ≤ d := by
  unfold hval at hv
  split at hv
  · cases hv; omega
  · split at hv
    · cases hv; omega
    · split at hv
      · cases hv; omega
      · cases hv
theorem oct_bad {l : List UInt8} {k F p X : Nat} (h : p < l.length) (hc : (l.getD p 0).toNat < 48 ∨ 55 < (l.getD p 0).toNat) : nDigs 8 l (k + 1) F p X = BR.err p 3 := by
  cases hv : hval (l.getD p 0).toNat with
  | none => exact nDigs_none h hv
  | some d => exact nDigs_big h hv (by have := oct_none hc hv; omega)

set_option maxHeartbeats 8000000 in
set_option maxRecDepth 100000 in
theorem rbase64_any (en : UInt8) (s : ByteArray) (p : Nat) (w : World) (hs : s.size ≤ 100000) (hp : p ≤ s.size) : Calls Tryd.prog 73 #[.string s, .int .i64 p, .int .u8 (en.toNat : Int)] w (BPost (nB64 s.data.toList p en) w) := by
  obtain ⟨R, hR⟩ : ∃ R, R = nB64 s.data.toList p en := ⟨_, rfl⟩
  rw [← hR]
  have hlen := nSome_len b64C en (s.data.toList.drop p) p
  obtain ⟨x, hx⟩ : ∃ x, x = nSome b64C en (s.data.toList.drop p) p := ⟨_, rfl⟩
  have HR : Hid (R = if x.e ≠ 0 then BR.err x.p x.e else match unb64 x.b with | some b => ⟨b, x.p + 1, 0⟩ | none => BR.err x.p 3) := Lib.hid (by rw [hR]; unfold nB64; rw [← hx]; rfl)
  have CS : ∀ w', Calls Tryd.prog 92 #[.string s, .int .i64 p, .int .i64 64, .int .u8 (en.toNat : Int)] w' (SomeP x w') := fun w' => by rw [hx]; exact rsome64_any en s p w' hs hp
  replace CS := Lib.hid CS
  rw [← hx] at hlen
  simp only [List.length_drop, Array.length_toList] at hlen
  have hxb : x.b.length ≤ 100000 := by have : s.data.size = s.size := rfl; omega
  have hxp : x.p ≤ 100000 := by have : s.data.size = s.size := rfl; omega
  clear hR hx hlen
  obtain ⟨xb, xp, xe⟩ := x
  dsimp only at HR hxb hxp
  have B0 : Below w.heap.size w (w.alloc (.cells #[.slice none 0 0, .int .i64 0, .int .i64 0] 81)) := (Below.refl _ _).alloc (Nat.le_refl _) _
  have X0 := Lib.hid (Box.new w 81 #[.slice none 0 0, .int .i64 0, .int .i64 0])
  go_enter Tryd.func73, Tryd.ntmps73
  go_upto_region 1 with fail
  change Code.wp _ _ _ _ (w.alloc (.cells #[.slice none 0 0, .int .i64 0, .int .i64 0] 81))
  generalize (w.alloc (.cells #[.slice none 0 0, .int .i64 0, .int .i64 0] 81)) = v0 at *
  go_wp2_with fail
  refine (CS.out _).mono ?_
  rintro e w1 ⟨t, rfl, ht, b1⟩
  dsimp only at ht ⊢
  have X1 := Lib.hid (X0.out.after b1)
  have B1 := B0.trans (b1.mono B0.size)
  have HT := Lib.hid ht
  have hts : t.size ≤ 100000 := by have h : t.data.toList.length ≤ 100000 := by rw [ht]; exact hxb
                                   simpa using h
  clear ht b1 CS X0 B0
  go_upto_region 2 with (refine wpList_store_box (cells := #[.slice none 0 0, .int .i64 xp, .int .i64 xe]) rfl 81 _ _ rfl (Box.new _ _ _) (by rfl) (by rfl) rfl (by kernel_rfl) (by simp [Value.oneCell']) ?_; intro u2 Z2 st2)
  have hx1 := X1.out.lt
  have B2 := st2.below w.heap.size w B1.size (B1.alloc B1.size _)
  have X2 := Lib.hid (st2.box (X1.out.alloc _) (Nat.ne_of_lt hx1))
  have hz1 := Z2.lt
  have e2 := Z2.cell 2 rfl
  have e1 := Z2.cell 1 rfl
  have Z := Lib.hid Z2
  clear Z2 st2 B1 X1
  generalize w1.heap.size = g2 at *
  by_cases he : xe = 0
  case neg =>
    obtain ⟨z1, z2⟩ := nat_ne he
    have HE : Hid (R = BR.err xp xe) := Lib.hid (by rw [HR.out, if_pos he])
    clear HR
    go_wp2_with first | (refine wpList_load_box rfl 81 _ rfl Z.out (by rfl) Tryd.underlying81 rfl (by kernel_rfl) ?_) | (refine wpList_store_box (cells := #[.slice none 0 0, .int .i64 xp, .int .i64 xe]) rfl 81 _ _ rfl X2.out (by rfl) (by rfl) rfl (by kernel_rfl) (by simp [Value.oneCell']) ?_; intro u9 X9 st9)
    have B9 := st9.below w.heap.size w (Nat.le_refl _) B2
    exact bodyPost_ret (v := .agg #[.slice none 0 0, .int .i64 xp, .int .i64 xe]) (box_result rfl _ _ (by rfl) X9 Tryd.underlying81 rfl (by kernel_rfl)) rfl (bp_err HE.out B9)
  subst he
  have HR2 : Hid (R = match unb64 xb with | some b => ⟨b, xp + 1, 0⟩ | none => BR.err xp 3) := Lib.hid (by rw [HR.out]; simp)
  clear HR
  go_wp2_with fail
  refine (refUnbO_any t u2 hts).mono ?_
  rw [HT.out]
  cases hu : unb64 xb with
  | none =>
    rintro e w3 ⟨a, n, c, rfl, hs3, hi3, b3⟩
    have HE : Hid (R = BR.err xp 3) := Lib.hid (by rw [HR2.out, hu])
    have X3 := Lib.hid (X2.out.after b3)
    have B3 := B2.trans (b3.mono B2.size)
    have e3 := (Z.out.after b3).cell 1 rfl
    clear hs3 hi3 b3 HR2 hu X2 B2 Z e1 e2
    go_wp2_with (refine wpList_store_box (cells := #[.slice none 0 0, .int .i64 xp, .int .i64 3]) rfl 81 _ _ rfl X3.out (by rfl) (by rfl) rfl (by kernel_rfl) (by simp [Value.oneCell']) ?_; intro u9 X9 st9)
    have B9 := st9.below w.heap.size w (Nat.le_refl _) B3
    exact bodyPost_ret (v := .agg #[.slice none 0 0, .int .i64 xp, .int .i64 3]) (box_result rfl _ _ (by rfl) X9 Tryd.underlying81 rfl (by kernel_rfl)) rfl (bp_err HE.out B9)
  | some b =>
    rintro e w3 ⟨a, n, c, rfl, hs3, hi3, b3⟩
    have HE : Hid (R = ⟨b, xp + 1, 0⟩) := Lib.hid (by rw [HR2.out, hu])
    have X3 := Lib.hid (X2.out.after b3)
    have B3 := B2.trans (b3.mono B2.size)
    have e3 := (Z.out.after b3).cell 1 rfl
    have HS3 := Lib.hid hs3
    have HI3 := Lib.hid hi3
    have HZ := Lib.hid X2.out.lt
    clear hs3 hi3 b3 HR2 hu X2 B2 Z e1 e2
    go_wp2_with (refine wpList_store_box (cells := #[.slice a n c, .int .i64 ((xp : Int) + 1), .int .i64 0]) rfl 81 _ _ rfl X3.out (by rfl) (by rfl) rfl (by kernel_rfl) (by simp [Value.oneCell']) ?_; intro u9 X9 st9)
    have B9 := st9.below w.heap.size w (Nat.le_refl _) B3
    exact bodyPost_ret (v := .agg #[.slice a n c, .int .i64 ((xp : Int) + 1), .int .i64 0]) (box_result rfl _ _ (by rfl) X9 Tryd.underlying81 rfl (by kernel_rfl)) rfl (bp_ok HE.out (by omega) (HS3.out.keepSt HI3.out st9 HZ.out) (HI3.out.mono (fun k hk => Nat.le_trans (Nat.le_of_lt HZ.out) hk)) B9)

set_option maxHeartbeats 8000000 in
set_option maxRecDepth 100000 in
theorem rhex_any (s : ByteArray) (p : Nat) (w : World) (hs : s.size ≤ 100000) (hp : p ≤ s.size) : Calls Tryd.prog 72 #[.string s, .int .i64 p] w (BPost (nHex s.data.toList p) w) := by
  obtain ⟨R, hR⟩ : ∃ R, R = nHex s.data.toList p := ⟨_, rfl⟩
  rw [← hR]
  have hlen := nSome_len hexC 35 (s.data.toList.drop p) p
  obtain ⟨x, hx⟩ : ∃ x, x = nSome hexC 35 (s.data.toList.drop p) p := ⟨_, rfl⟩
  have HR : Hid (R = if x.e ≠ 0 then BR.err x.p x.e else match unhex x.b with | some b => ⟨b, x.p + 1, 0⟩ | none => BR.err x.p 3) := Lib.hid (by rw [hR]; unfold nHex; rw [← hx]; rfl)
  have CS : ∀ w', Calls Tryd.prog 92 #[.string s, .int .i64 p, .int .i64 16, .int .u8 35] w' (SomeP x w') := fun w' => by rw [hx]; exact rsome16_any 35 s p w' hs hp
  replace CS := Lib.hid CS
  rw [← hx] at hlen
  simp only [List.length_drop, Array.length_toList] at hlen
  have hxb : x.b.length ≤ 100000 := by have : s.data.size = s.size := rfl; omega
  have hxp : x.p ≤ 100000 := by have : s.data.size = s.size := rfl; omega
  clear hR hx hlen
  obtain ⟨xb, xp, xe⟩ := x
  dsimp only at HR hxb hxp
  have B0 : Below w.heap.size w (w.alloc (.cells #[.slice none 0 0, .int .i64 0, .int .i64 0] 81)) := (Below.refl _ _).alloc (Nat.le_refl _) _
  have X0 := Lib.hid (Box.new w 81 #[.slice none 0 0, .int .i64 0, .int .i64 0])
  go_enter Tryd.func72, Tryd.ntmps72
  go_upto_region 1 with fail
  change Code.wp _ _ _ _ (w.alloc (.cells #[.slice none 0 0, .int .i64 0, .int .i64 0] 81))
  generalize (w.alloc (.cells #[.slice none 0 0, .int .i64 0, .int .i64 0] 81)) = v0 at *
  go_wp2_with fail
  refine (CS.out _).mono ?_
  rintro e w1 ⟨t, rfl, ht, b1⟩
  dsimp only at ht ⊢
  have X1 := Lib.hid (X0.out.after b1)
  have B1 := B0.trans (b1.mono B0.size)
  have HT := Lib.hid ht
  have hts : t.size ≤ 100000 := by have h : t.data.toList.length ≤ 100000 := by rw [ht]; exact hxb
                                   simpa using h
  clear ht b1 CS X0 B0
  go_upto_region 2 with (refine wpList_store_box (cells := #[.slice none 0 0, .int .i64 xp, .int .i64 xe]) rfl 81 _ _ rfl (Box.new _ _ _) (by rfl) (by rfl) rfl (by kernel_rfl) (by simp [Value.oneCell']) ?_; intro u2 Z2 st2)
  have hx1 := X1.out.lt
  have B2 := st2.below w.heap.size w B1.size (B1.alloc B1.size _)
  have X2 := Lib.hid (st2.box (X1.out.alloc _) (Nat.ne_of_lt hx1))
  have hz1 := Z2.lt
  have e2 := Z2.cell 2 rfl
  have e1 := Z2.cell 1 rfl
  have Z := Lib.hid Z2
  clear Z2 st2 B1 X1
  generalize w1.heap.size = g2 at *
  by_cases he : xe = 0
  case neg =>
    obtain ⟨z1, z2⟩ := nat_ne he
    have HE : Hid (R = BR.err xp xe) := Lib.hid (by rw [HR.out, if_pos he])
    clear HR
    go_wp2_with first | (refine wpList_load_box rfl 81 _ rfl Z.out (by rfl) Tryd.underlying81 rfl (by kernel_rfl) ?_) | (refine wpList_store_box (cells := #[.slice none 0 0, .int .i64 xp, .int .i64 xe]) rfl 81 _ _ rfl X2.out (by rfl) (by rfl) rfl (by kernel_rfl) (by simp [Value.oneCell']) ?_; intro u9 X9 st9)
    have B9 := st9.below w.heap.size w (Nat.le_refl _) B2
    exact bodyPost_ret (v := .agg #[.slice none 0 0, .int .i64 xp, .int .i64 xe]) (box_result rfl _ _ (by rfl) X9 Tryd.underlying81 rfl (by kernel_rfl)) rfl (bp_err HE.out B9)
  subst he
  have HR2 : Hid (R = match unhex xb with | some b => ⟨b, xp + 1, 0⟩ | none => BR.err xp 3) := Lib.hid (by rw [HR.out]; simp)
  clear HR
  go_wp2_with fail
  refine (refUnhexO_any t u2 (by omega)).mono ?_
  rw [HT.out]
  cases hu : unhex xb with
  | none =>
    rintro e w3 ⟨a, n, c, rfl, hs3, hi3, b3⟩
    have HE : Hid (R = BR.err xp 3) := Lib.hid (by rw [HR2.out, hu])
    have X3 := Lib.hid (X2.out.after b3)
    have B3 := B2.trans (b3.mono B2.size)
    have e3 := (Z.out.after b3).cell 1 rfl
    clear hs3 hi3 b3 HR2 hu X2 B2 Z e1 e2
    go_wp2_with (refine wpList_store_box (cells := #[.slice none 0 0, .int .i64 xp, .int .i64 3]) rfl 81 _ _ rfl X3.out (by rfl) (by rfl) rfl (by kernel_rfl) (by simp [Value.oneCell']) ?_; intro u9 X9 st9)
    have B9 := st9.below w.heap.size w (Nat.le_refl _) B3
    exact bodyPost_ret (v := .agg #[.slice none 0 0, .int .i64 xp, .int .i64 3]) (box_result rfl _ _ (by rfl) X9 Tryd.underlying81 rfl (by kernel_rfl)) rfl (bp_err HE.out B9)
  | some b =>
    rintro e w3 ⟨a, n, c, rfl, hs3, hi3, b3⟩
    have HE : Hid (R = ⟨b, xp + 1, 0⟩) := Lib.hid (by rw [HR2.out, hu])
    have X3 := Lib.hid (X2.out.after b3)
    have B3 := B2.trans (b3.mono B2.size)
    have e3 := (Z.out.after b3).cell 1 rfl
    have HS3 := Lib.hid hs3
    have HI3 := Lib.hid hi3
    have HZ := Lib.hid X2.out.lt
    clear hs3 hi3 b3 HR2 hu X2 B2 Z e1 e2
    go_wp2_with (refine wpList_store_box (cells := #[.slice a n c, .int .i64 ((xp : Int) + 1), .int .i64 0]) rfl 81 _ _ rfl X3.out (by rfl) (by rfl) rfl (by kernel_rfl) (by simp [Value.oneCell']) ?_; intro u9 X9 st9)
    have B9 := st9.below w.heap.size w (Nat.le_refl _) B3
    exact bodyPost_ret (v := .agg #[.slice a n c, .int .i64 ((xp : Int) + 1), .int .i64 0]) (box_result rfl _ _ (by rfl) X9 Tryd.underlying81 rfl (by kernel_rfl)) rfl (bp_ok HE.out (by omega) (HS3.out.keepSt HI3.out st9 HZ.out) (HI3.out.mono (fun k hk => Nat.le_trans (Nat.le_of_lt HZ.out) hk)) B9)

/-- the octal digits so far -/
def octB (k X : Nat) : Prop := (k = 0 ∧ X = 0) ∨ (k = 1 ∧ X ≤ 3) ∨ (k = 2 ∧ X ≤ 31) ∨ (k = 3 ∧ X ≤ 255)
theorem octB_le {k X : Nat} (h : octB k X) : X ≤ 255 := by unfold octB at h; omega
theorem octB_step {k X d : Nat} (h : octB k X) (hk : k < 3) (hd : d ≤ 7) (h0 : k = 0 → d ≤ 3) : octB (k + 1) (X * 8 + d) := by unfold octB at *; omega
theorem bp_byte {r : BR} {X p : Nat} {z : Int} (h : r = ⟨[UInt8.ofNat X], p, 0⟩) (hX : X < 256) (hz : z = (p : Int)) {w w1 u : World} {g : Nat} (hg : w.heap.size < g) (hl : w1.heap[g]? = some (.cells #[.int .u8 (X : Int)] 5 (0, 0))) (hu : u.heap[g]? = w1.heap[g]?) (hb : Below w.heap.size w u) :
    BPost r w (.returned (.agg #[.slice (some ⟨g, 0, none⟩) 1 1, .int .i64 z, .int .i64 0])) u := by
  subst h hz
  refine ⟨_, _, _, rfl, sl_cell_nat u g X hX ?_, .inr (fun b o s e => by cases e; exact Nat.le_of_lt hg), hb⟩
  exact cell_of_row u g 0 _ 5 _ (hu.trans hl)
set_option maxHeartbeats 8000000 in
set_option maxRecDepth 100000 in
theorem roctal_any (s : ByteArray) (p : Nat) (w : World) (hs : s.size ≤ 100000) (hp : p ≤ s.size) : Calls Tryd.prog 103 #[.string s, .int .i64 p] w (BPost (nDigs 8 s.data.toList 3 3 p 0) w) := by
  obtain ⟨R, hR⟩ : ∃ R, R = nDigs 8 s.data.toList 3 3 p 0 := ⟨_, rfl⟩
  rw [← hR]
  have HR := Lib.hid hR
  have HL : Hid (s.data.toList.length = s.size) := Lib.hid (by simp)
  clear hR
  have B0 : Below w.heap.size w (w.alloc (.cells #[.slice none 0 0, .int .i64 0, .int .i64 0] 81)) := (Below.refl _ _).alloc (Nat.le_refl _) _
  have X0 := Lib.hid (Box.new w 81 #[.slice none 0 0, .int .i64 0, .int .i64 0])
  go_enter Tryd.func103, Tryd.ntmps103
  go_upto_region 1 with fail
  change Code.wp _ _ _ _ (w.alloc (.cells #[.slice none 0 0, .int .i64 0, .int .i64 0] 81))
  generalize (w.alloc (.cells #[.slice none 0 0, .int .i64 0, .int .i64 0] 81)) = v0 at *
  go_wp2_with fail
  go_loopw [5, 6] (fun nn i wr => ∃ (k X : Nat), k ≤ 3 ∧ nn = .int .i64 X ∧ i = .int .i64 k ∧ Hid (octB k X) ∧ Hid (R = nDigs 8 s.data.toList (3 - k) (if k = 0 then 3 else 8) (p + k) X) ∧ wr = v0) (fun _ i _ => 3 - (intOf i).toNat)
  case atStart => exact ⟨0, 0, by omega, rfl, rfl, Lib.hid (.inl ⟨rfl, rfl⟩), Lib.hid HR.out, rfl⟩
  case round =>
    obtain ⟨k, X, hk, rfl, rfl, HO, HK, rfl⟩ := hrel
    have hX := octB_le HO.out
    clear HR
    by_cases hk3 : k < 3
    case neg =>
      obtain ⟨K, hK⟩ : ∃ K, K = k := ⟨_, rfl⟩
      have HE : Hid (R = ⟨[UInt8.ofNat X], p + 3, 0⟩) := Lib.hid (by rw [HK.out, show 3 - k = 0 by omega, show p + k = p + 3 by omega]; rfl)
      have hk3' : ¬ (k : Int) < 3 := by omega
      have hX0 : (0 : Int) ≤ (X : Int) := by omega
      have hX1 : (X : Int) ≤ 255 := by omega
      have hgl := X0.out.lt
      clear HK HO hK hk3
      go_wp2_with (refine wpList_store_box (cells := #[.slice (some ⟨wr.heap.size, 0, none⟩) 1 1, .int .i64 ((p : Int) + 3), .int .i64 0]) rfl 81 _ _ rfl (X0.out.alloc _) (by rfl) (by rfl) rfl (by kernel_rfl) (by simp [Value.oneCell']) ?_; intro u9 X9 st9)
      have B9 := st9.below w.heap.size w (Nat.le_refl _) (B0.alloc B0.size _)
      exact bodyPost_ret (v := .agg #[.slice (some ⟨wr.heap.size, 0, none⟩) 1 1, .int .i64 ((p : Int) + 3), .int .i64 0]) (box_result rfl _ _ (by rfl) X9 Tryd.underlying81 rfl (by kernel_rfl)) rfl (bp_byte (w1 := wr.alloc (.cells #[.int .u8 (X : Int)] 5)) HE.out (by omega) (by omega) hgl (Box.new _ _ _) (st9.other _ (by omega)) B9)
    have hk3' : (k : Int) < 3 := by omega
    obtain ⟨Q, hQ⟩ : ∃ Q, Q = p + k := ⟨_, rfl⟩
    have qQ : (p : Int) + (k : Int) = (Q : Int) := by omega
    have HKQ : Hid (R = nDigs 8 s.data.toList ((2 - k) + 1) (if k = 0 then 3 else 8) Q X) := Lib.hid (by rw [HK.out, ← hQ, show 3 - k = (2 - k) + 1 by omega])
    clear HK
    by_cases hend : s.size ≤ Q
    case pos =>
      have hend' : (s.size : Int) ≤ (Q : Int) := by omega
      have HE : Hid (R = BR.err s.size 2) := Lib.hid (by rw [HKQ.out, nDigs_short (by rw [HL.out]; exact hend), HL.out])
      clear HKQ hQ
      go_wp2_with (refine wpList_store_box (cells := #[.slice none 0 0, .int .i64 s.size, .int .i64 2]) rfl 81 _ _ rfl X0.out (by rfl) (by rfl) rfl (by kernel_rfl) (by simp [Value.oneCell']) ?_; intro u9 X9 st9)
      have B9 := st9.below w.heap.size w (Nat.le_refl _) B0
      exact bodyPost_ret (v := .agg #[.slice none 0 0, .int .i64 s.size, .int .i64 2]) (box_result rfl _ _ (by rfl) X9 Tryd.underlying81 rfl (by kernel_rfl)) rfl (bp_err HE.out B9)
    have hend' : ¬ (s.size : Int) ≤ (Q : Int) := by omega
    have hq0 : (0 : Int) ≤ (Q : Int) := by omega
    have hq1 : (Q : Int) < (s.size : Int) := by omega
    have hlt : Q < s.size := by omega
    obtain ⟨c, hc, hc1, hc2⟩ := at_byte s Q hlt
    have hQ6 : Q ≤ 100003 := by omega
    have HQ := Lib.hid hQ
    clear hQ hc2
    rcases (by omega : c.toNat < 48 ∨ 55 < c.toNat ∨ (48 ≤ c.toNat ∧ c.toNat ≤ 55)) with h | h | h
    · have h1 : (c.toNat : Int) < 48 := by omega
      have HE : Hid (R = BR.err Q 3) := Lib.hid (by rw [HKQ.out, oct_bad (by rw [HL.out]; exact hlt) (by rw [hc1.out]; exact .inl h)])
      clear HKQ h hc1
      go_wp2_with (refine wpList_store_box (cells := #[.slice none 0 0, .int .i64 Q, .int .i64 3]) rfl 81 _ _ rfl X0.out (by rfl) (by rfl) rfl (by kernel_rfl) (by simp [Value.oneCell']) ?_; intro u9 X9 st9)
      have B9 := st9.below w.heap.size w (Nat.le_refl _) B0
      exact bodyPost_ret (v := .agg #[.slice none 0 0, .int .i64 Q, .int .i64 3]) (box_result rfl _ _ (by rfl) X9 Tryd.underlying81 rfl (by kernel_rfl)) rfl (bp_err HE.out B9)
    · have h1 : ¬ (c.toNat : Int) < 48 := by omega
      have h2 : (55 : Int) < (c.toNat : Int) := by omega
      have HE : Hid (R = BR.err Q 3) := Lib.hid (by rw [HKQ.out, oct_bad (by rw [HL.out]; exact hlt) (by rw [hc1.out]; exact .inr h)])
      clear HKQ h hc1
      go_wp2_with (refine wpList_store_box (cells := #[.slice none 0 0, .int .i64 Q, .int .i64 3]) rfl 81 _ _ rfl X0.out (by rfl) (by rfl) rfl (by kernel_rfl) (by simp [Value.oneCell']) ?_; intro u9 X9 st9)
      have B9 := st9.below w.heap.size w (Nat.le_refl _) B0
      exact bodyPost_ret (v := .agg #[.slice none 0 0, .int .i64 Q, .int .i64 3]) (box_result rfl _ _ (by rfl) X9 Tryd.underlying81 rfl (by kernel_rfl)) rfl (bp_err HE.out B9)
    have h1 : ¬ (c.toNat : Int) < 48 := by omega
    have h2 : ¬ (55 : Int) < (c.toNat : Int) := by omega
    have hb := c.toNat_lt
    have HV := Lib.hid (oct_val h)
    obtain ⟨d, hd⟩ : ∃ d, d = c.toNat - 48 := ⟨_, rfl⟩
    have qd : (c.toNat : Int) - 48 = (d : Int) := by omega
    have hd7 : d ≤ 7 := by omega
    rw [← hd] at HV
    have HD : Hid (c.toNat = d + 48) := Lib.hid (by omega)
    clear h hd
    by_cases hk0 : k = 0
    · obtain ⟨z1, z2⟩ : ((k : Int) == 0) = true ∧ ((k : Int) != 0) = false := by rw [hk0]; exact ⟨rfl, rfl⟩
      by_cases h51 : 51 < c.toNat
      · have h3 : (51 : Int) < (c.toNat : Int) := by omega
        have HE : Hid (R = BR.err Q 3) := Lib.hid (by rw [HKQ.out, nDigs_big (by rw [HL.out]; exact hlt) (by rw [hc1.out]; exact HV.out) (by rw [if_pos hk0]; have := HD.out; omega)])
        clear HKQ hc1 hk0 h51
        go_wp2_with (refine wpList_store_box (cells := #[.slice none 0 0, .int .i64 Q, .int .i64 3]) rfl 81 _ _ rfl X0.out (by rfl) (by rfl) rfl (by kernel_rfl) (by simp [Value.oneCell']) ?_; intro u9 X9 st9)
        have B9 := st9.below w.heap.size w (Nat.le_refl _) B0
        exact bodyPost_ret (v := .agg #[.slice none 0 0, .int .i64 Q, .int .i64 3]) (box_result rfl _ _ (by rfl) X9 Tryd.underlying81 rfl (by kernel_rfl)) rfl (bp_err HE.out B9)
      · have h3 : ¬ (51 : Int) < (c.toNat : Int) := by omega
        have HN : Hid (R = nDigs 8 s.data.toList (3 - (k + 1)) (if k + 1 = 0 then 3 else 8) (p + (k + 1)) (X * 8 + d)) := Lib.hid (by rw [HKQ.out, nDigs_more (by rw [HL.out]; exact hlt) (by rw [hc1.out]; exact HV.out) (by rw [if_pos hk0]; have := HD.out; omega), if_neg (by omega), show 3 - (k + 1) = 2 - k by omega, show p + (k + 1) = Q + 1 by have := HQ.out; omega])
        have HB := Lib.hid (octB_step HO.out hk3 hd7 (fun _ => by have := HD.out; omega))
        clear HKQ hc1 hk0 h51
        go_wp2_with fail
        go_roundw
        case rel => exact ⟨k + 1, X * 8 + d, by omega, by go_num, by go_num, HB, HN, trivial⟩
        case measure => simp [intOf]; omega
    · obtain ⟨z1, z2⟩ : ((k : Int) == 0) = false ∧ ((k : Int) != 0) = true := nat_ne hk0
      have HN : Hid (R = nDigs 8 s.data.toList (3 - (k + 1)) (if k + 1 = 0 then 3 else 8) (p + (k + 1)) (X * 8 + d)) := Lib.hid (by rw [HKQ.out, nDigs_more (by rw [HL.out]; exact hlt) (by rw [hc1.out]; exact HV.out) (by rw [if_neg hk0]; omega), if_neg (by omega), show 3 - (k + 1) = 2 - k by omega, show p + (k + 1) = Q + 1 by have := HQ.out; omega])
      have HB := Lib.hid (octB_step HO.out hk3 hd7 (fun h => absurd h hk0))
      clear HKQ hc1 hk0
      go_wp2_with fail
      go_roundw
      case rel => exact ⟨k + 1, X * 8 + d, by omega, by go_num, by go_num, HB, HN, trivial⟩
      case measure => simp [intOf]; omega
end Go.Proofs.YtkbblhioncecmaaDoor

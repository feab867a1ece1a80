/- The document's reader of advanced forms: the end, and the whole. -/
import Derived.Test.YtkbblhioncecmaaDoorNuG
import Derived.Test.YtkbblhioncecmaaDoorNtK
namespace Go.Proofs.YtkbblhioncecmaaDoor
open Go.RowKit
set_option linter.unusedSimpArgs false
set_option linter.unusedVariables false

/-- what is told of what was read -/
def EndC (l : List UInt8) (r : RV) (sx : Sx) (p e : Nat) : Prop :=
  (r.e ≠ 0 ∧ sx = Sx.nil ∧ p = r.p ∧ e = r.e) ∨ (r.e = 0 ∧ skipN l r.p < l.length ∧ sx = Sx.nil ∧ p = skipN l r.p ∧ e = 5) ∨
    (r.e = 0 ∧ l.length ≤ skipN l r.p ∧ r.v.may = false ∧ sx = Sx.nil ∧ p = l.length ∧ e = 4) ∨ (r.e = 0 ∧ l.length ≤ skipN l r.p ∧ r.v.may = true ∧ sx = r.v ∧ p = 0 ∧ e = 0)
def EndP (ok : Nat → Prop) (l : List UInt8) (r : RV) (w : World) (e : Ending) (w' : World) : Prop :=
  ∃ (v : SV) (s : Sx) (p x : Nat), EndC l r s p x ∧ e = .returned (.tuple #[.agg #[.bool v.l, .bool v.h, .slice v.a1 v.n1 v.c1, .slice v.a2 v.n2 v.c2, .slice v.a3 v.n3 v.c3], .int .i64 p, .int .i64 x]) ∧ RdI ok w' v s ∧ Below w.heap.size w w'
set_option maxHeartbeats 8000000 in
set_option maxRecDepth 100000 in
theorem rended_any (ok : Nat → Prop) (s : ByteArray) (hs : s.size ≤ 100000) (v : SV) (r : RV) (w : World) (hr : RdI ok w v r.v) (hok : ∀ k, ok k → k < w.heap.size) (hp : r.e = 0 → r.p ≤ s.size) (hb : r.e = 0 → r.v.nodes ≤ 1000000 ∧ r.v.deep ≤ 1000000 ∧ r.v.form.length ≤ 1000000000000) :
    Calls Tryd.prog 24 #[.string s, .agg #[.bool v.l, .bool v.h, .slice v.a1 v.n1 v.c1, .slice v.a2 v.n2 v.c2, .slice v.a3 v.n3 v.c3, .int .i64 r.p, .int .i64 r.n, .int .i64 r.e]] w (EndP ok s.data.toList r w) := by
  have HL : Hid (s.data.toList.length = s.size) := Lib.hid (by simp)
  have HRD := Lib.hid hr
  have HP := Lib.hid hp
  have HBD := Lib.hid hb
  have HOK := Lib.hid hok
  obtain ⟨vl, vh, a1, n1, c1, a2, n2, c2, a3, n3, c3⟩ := v
  obtain ⟨rv, rp, rn, re⟩ := r
  dsimp only at HRD HP HBD ⊢
  clear hr hp hb hok
  have B0 : Below w.heap.size w ((w.alloc (.cells #[.bool vl, .bool vh, .slice a1 n1 c1, .slice a2 n2 c2, .slice a3 n3 c3, .int .i64 rp, .int .i64 rn, .int .i64 re] 50)).alloc (.cells #[.bool false, .bool false, .slice none 0 0, .slice none 0 0, .slice none 0 0] 26)) := ((Below.refl _ _).alloc (Nat.le_refl _) _).alloc (by simp) _
  have Z0 : Hid (Box ((w.alloc (.cells #[.bool vl, .bool vh, .slice a1 n1 c1, .slice a2 n2 c2, .slice a3 n3 c3, .int .i64 rp, .int .i64 rn, .int .i64 re] 50)).alloc (.cells #[.bool false, .bool false, .slice none 0 0, .slice none 0 0, .slice none 0 0] 26)) w.heap.size 50 #[.bool vl, .bool vh, .slice a1 n1 c1, .slice a2 n2 c2, .slice a3 n3 c3, .int .i64 rp, .int .i64 rn, .int .i64 re]) := Lib.hid ((Box.new _ _ _).alloc _)
  have X0 : Hid (Box ((w.alloc (.cells #[.bool vl, .bool vh, .slice a1 n1 c1, .slice a2 n2 c2, .slice a3 n3 c3, .int .i64 rp, .int .i64 rn, .int .i64 re] 50)).alloc (.cells #[.bool false, .bool false, .slice none 0 0, .slice none 0 0, .slice none 0 0] 26)) (w.heap.size + 1) 26 #[.bool false, .bool false, .slice none 0 0, .slice none 0 0, .slice none 0 0]) := Lib.hid (by have := Box.new (w.alloc (.cells #[.bool vl, .bool vh, .slice a1 n1 c1, .slice a2 n2 c2, .slice a3 n3 c3, .int .i64 rp, .int .i64 rn, .int .i64 re] 50)) 26 #[.bool false, .bool false, .slice none 0 0, .slice none 0 0, .slice none 0 0]; simpa using this)
  go_enter Tryd.func24, Tryd.ntmps24
  go_upto_region 1 with fail
  change Code.wp _ _ _ _ ((w.alloc (.cells #[.bool vl, .bool vh, .slice a1 n1 c1, .slice a2 n2 c2, .slice a3 n3 c3, .int .i64 rp, .int .i64 rn, .int .i64 re] 50)).alloc (.cells #[.bool false, .bool false, .slice none 0 0, .slice none 0 0, .slice none 0 0] 26))
  generalize ((w.alloc (.cells #[.bool vl, .bool vh, .slice a1 n1 c1, .slice a2 n2 c2, .slice a3 n3 c3, .int .i64 rp, .int .i64 rn, .int .i64 re] 50)).alloc (.cells #[.bool false, .bool false, .slice none 0 0, .slice none 0 0, .slice none 0 0] 26)) = u2 at *
  have B2 := B0
  have HZZ := Z0
  have HXX := X0
  have HR2 := Lib.hid (HRD.out.there.mono (ok' := fun k => k < w.heap.size ∧ ok k) (fun k hk => ⟨hk.2, hk.1⟩))
  replace HR2 := Lib.hid (HR2.out.keep (fun k hk => B2.block k hk.1))
  have e7 : u2.cell? ⟨w.heap.size, 7, none⟩ = some (.int .i64 re) := HZZ.out.cell 7 rfl
  have e5 : u2.cell? ⟨w.heap.size, 5, none⟩ = some (.int .i64 rp) := HZZ.out.cell 5 rfl
  clear B0 Z0 X0 HRD
  by_cases he : re = 0
  case neg =>
    obtain ⟨z1, z2⟩ := nat_ne he
    clear HP HBD
    go_upto_region 2 with fail
    have hKS : Keeps (fun w' => Box w' w.heap.size 50 #[.bool vl, .bool vh, .slice a1 n1 c1, .slice a2 n2 c2, .slice a3 n3 c3, .int .i64 rp, .int .i64 rn, .int .i64 re]) := fun w w' h b => h.after b
    refine wp_region_U (w := u2) (fun w' => Box w' w.heap.size 50 #[.bool vl, .bool vh, .slice a1 n1 c1, .slice a2 n2 c2, .slice a3 n3 c3, .int .i64 rp, .int .i64 rn, .int .i64 re]) rfl HZZ.out.drew ?_
    refine wpU_val 0 hKS rfl (by kernel_rfl) (by kernel_rfl) (by kernel_rfl) rfl (fun _ _ _ _ h => h) (.agg #[.bool false, .bool false, .slice none 0 0, .slice none 0 0, .slice none 0 0]) (fun w' h => by simp [go_sem]) ?_
    simp only [Act.put, List.setIfInBounds_toArray, List.set_cons_zero, List.set_cons_succ]
    refine wpU_val 1 hKS rfl (by kernel_rfl) (by kernel_rfl) (by kernel_rfl) rfl (fun _ _ _ _ h => h) (.pointer (some ⟨w.heap.size, 5, none⟩)) (fun w' h => by simp [go_sem]) ?_
    simp only [Act.put, List.setIfInBounds_toArray, List.set_cons_zero, List.set_cons_succ]
    refine wpU_val 2 hKS rfl (by kernel_rfl) (by kernel_rfl) (by kernel_rfl) rfl (fun _ _ _ _ h => h) (.int .i64 rp) (fun w' h => by simp [go_sem, h.cell 5 rfl]) ?_
    simp only [Act.put, List.setIfInBounds_toArray, List.set_cons_zero, List.set_cons_succ]
    refine wpU_val 3 hKS rfl (by kernel_rfl) (by kernel_rfl) (by kernel_rfl) rfl (fun _ _ _ _ h => h) (.pointer (some ⟨w.heap.size, 7, none⟩)) (fun w' h => by simp [go_sem]) ?_
    simp only [Act.put, List.setIfInBounds_toArray, List.set_cons_zero, List.set_cons_succ]
    refine wpU_val 4 hKS rfl (by kernel_rfl) (by kernel_rfl) (by kernel_rfl) rfl (fun _ _ _ _ h => h) (.int .i64 re) (fun w' h => by simp [go_sem, h.cell 7 rfl]) ?_
    simp only [Act.put, List.setIfInBounds_toArray, List.set_cons_zero, List.set_cons_succ]
    refine wpU_store_box (cells := #[.bool false, .bool false, .slice none 0 0, .slice none 0 0, .slice none 0 0]) 5 rfl (by kernel_rfl) rfl 26 _ _ rfl HXX.out.drew (by rfl) (by rfl) rfl (by kernel_rfl) (by simp [Value.oneCell']) ?_
    intro w8 u9 b8 s8 X9 st9
    refine ⟨st9.box s8 (by omega), ?_⟩
    simp only [Act.put, List.setIfInBounds_toArray, List.set_cons_zero, List.set_cons_succ]
    refine wpU_val 6 hKS rfl (by kernel_rfl) (by kernel_rfl) (by kernel_rfl) rfl (fun _ _ _ _ h => h) (.int .i64 rp) (fun w' h => by simp [go_sem]) ?_
    simp only [Act.put, List.setIfInBounds_toArray, List.set_cons_zero, List.set_cons_succ]
    refine wpU_val 7 hKS rfl (by kernel_rfl) (by kernel_rfl) (by kernel_rfl) rfl (fun _ _ _ _ h => h) (.int .i64 re) (fun w' h => by simp [go_sem]) ?_
    simp only [Act.put, List.setIfInBounds_toArray, List.set_cons_zero, List.set_cons_succ]
    refine wpU_done (by kernel_rfl) ?_
    intro w9 b9 s9
    have HX9 := Lib.hid (X9.after b9)
    have B9 := (st9.below w.heap.size w (Nat.le_succ _) (B2.drew.trans (b8.mono B2.size))).trans (b9.mono (Nat.le_trans (Nat.le_trans B2.size b8.size) (Nat.le_of_eq st9.size.symm)))
    clear X9 b9 s9 hKS b8 s8 st9
    go_wp2_with fail
    exact bodyPost_ret (v := .tuple #[.agg #[.bool false, .bool false, .slice none 0 0, .slice none 0 0, .slice none 0 0], .int .i64 rp, .int .i64 re]) (box_result22 (p := 4) (q := 5) (r := 6) rfl _ _ (by rfl) HX9.out Tryd.underlying26 rfl (by kernel_rfl)) rfl ⟨⟨false, false, none, 0, 0, none, 0, 0, none, 0, 0⟩, Sx.nil, rp, re, .inl ⟨he, rfl, rfl, rfl⟩, rfl, rd_nil _ _, B9⟩
  subst he
  have hrp := HP.out rfl
  obtain ⟨q, hq⟩ : ∃ q, q = skipN s.data.toList rp := ⟨_, rfl⟩
  have hql := skipN_le (l := s.data.toList) (p := rp) (by rw [HL.out]; exact hrp)
  rw [← hq, HL.out] at hql
  have CS : Hid (∀ w', Calls Tryd.prog 49 #[.string s, .int .i64 rp] w' (fun e w2 => e = .returned (.int .i64 q) ∧ w2 = w')) := Lib.hid (fun w' => by rw [hq]; exact rskip_any s rp w' (by omega) hrp)
  have HQ := Lib.hid hq
  obtain ⟨hql1, hql2⟩ := hql
  clear hq
  go_wp2_with fail
  refine (CS.out _).mono ?_
  rintro e wn ⟨rfl, h0⟩
  obtain rfl := h0.symm
  clear CS
  by_cases hmore : q < s.size
  case pos =>
    have hmore' : (q : Int) < (s.size : Int) := by omega
    have HE : Hid (EndC s.data.toList ⟨rv, rp, rn, 0⟩ Sx.nil q 5) := Lib.hid (.inr (.inl ⟨rfl, by rw [← HQ.out, HL.out]; exact hmore, rfl, HQ.out, rfl⟩))
    go_wp2_with (refine wpList_store_box (cells := #[.bool false, .bool false, .slice none 0 0, .slice none 0 0, .slice none 0 0]) rfl 26 _ _ rfl HXX.out (by rfl) (by rfl) rfl (by kernel_rfl) (by simp [Value.oneCell']) ?_; intro u9 X9 st9)
    have B9 := st9.below w.heap.size w (by omega) B2
    exact bodyPost_ret (v := .tuple #[.agg #[.bool false, .bool false, .slice none 0 0, .slice none 0 0, .slice none 0 0], .int .i64 q, .int .i64 5]) (box_result22 (p := 4) (q := 5) (r := 6) rfl _ _ (by rfl) X9 Tryd.underlying26 rfl (by kernel_rfl)) rfl ⟨⟨false, false, none, 0, 0, none, 0, 0, none, 0, 0⟩, Sx.nil, _, _, HE.out, rfl, rd_nil _ _, B9⟩
  have hmore' : ¬ (q : Int) < (s.size : Int) := by omega
  have HLD := Lib.hid (Box.range HZZ.out 0 (SV.cells (⟨vl, vh, a1, n1, c1, a2, n2, c2, a3, n3, c3⟩ : SV)).toList (fun j u hu => by match j, hu with
    | 0, hu => exact hu
    | 1, hu => exact hu
    | 2, hu => exact hu
    | 3, hu => exact hu
    | 4, hu => exact hu
    | k + 5, hu => simp [SV.cells] at hu))
  have CM := Lib.hid (refMay_any rv (⟨vl, vh, a1, n1, c1, a2, n2, c2, a3, n3, c3⟩ : SV) u2 (HR2.out.mono (fun _ _ => trivial)) (by have := (HBD.out (by trivial)).1; omega) (by have := (HBD.out (by trivial)).2.1; omega) (fun _ => by have := (HBD.out (by trivial)).2.2; omega))
  go_wp2_with (refine wpList_load_sv rfl _ rfl w.heap.size 0 rfl (⟨vl, vh, a1, n1, c1, a2, n2, c2, a3, n3, c3⟩ : SV) HLD.out ?_; simp only [SV.val])
  refine CM.out.mono ?_
  rintro e w3 ⟨rfl, b3⟩
  have HXX' := Lib.hid (HXX.out.after b3)
  have HZZ' := Lib.hid (HZZ.out.after b3)
  have HR3 := Lib.hid (HR2.out.after b3)
  have B3 := B2.trans (b3.mono B2.size)
  clear HXX HZZ HR2 B2 b3 CM HLD e5 e7
  have HXX := HXX'
  have HZZ := HZZ'
  have B2 := B3
  clear HXX' HZZ' B3
  cases hmy : rv.may with
  | false =>
    have HE : Hid (EndC s.data.toList ⟨rv, rp, rn, 0⟩ Sx.nil s.size 4) := Lib.hid (.inr (.inr (.inl ⟨rfl, by rw [← HQ.out, HL.out]; omega, hmy, rfl, HL.out.symm, rfl⟩)))
    clear hmy
    go_wp2_with (refine wpList_store_box (cells := #[.bool false, .bool false, .slice none 0 0, .slice none 0 0, .slice none 0 0]) rfl 26 _ _ rfl HXX.out (by rfl) (by rfl) rfl (by kernel_rfl) (by simp [Value.oneCell']) ?_; intro u9 X9 st9)
    have B9 := st9.below w.heap.size w (by omega) B2
    exact bodyPost_ret (v := .tuple #[.agg #[.bool false, .bool false, .slice none 0 0, .slice none 0 0, .slice none 0 0], .int .i64 s.size, .int .i64 4]) (box_result22 (p := 4) (q := 5) (r := 6) rfl _ _ (by rfl) X9 Tryd.underlying26 rfl (by kernel_rfl)) rfl ⟨⟨false, false, none, 0, 0, none, 0, 0, none, 0, 0⟩, Sx.nil, _, _, HE.out, rfl, rd_nil _ _, B9⟩
  | true =>
    have HE : Hid (EndC s.data.toList ⟨rv, rp, rn, 0⟩ rv 0 0) := Lib.hid (.inr (.inr (.inr ⟨rfl, by rw [← HQ.out, HL.out]; omega, hmy, rfl, rfl, rfl⟩)))
    have HLD := Lib.hid (Box.range HZZ.out 0 (SV.cells (⟨vl, vh, a1, n1, c1, a2, n2, c2, a3, n3, c3⟩ : SV)).toList (fun j u hu => by match j, hu with
      | 0, hu => exact hu
      | 1, hu => exact hu
      | 2, hu => exact hu
      | 3, hu => exact hu
      | 4, hu => exact hu
      | k + 5, hu => simp [SV.cells] at hu))
    clear hmy
    go_wp2_with first | (refine wpList_load_sv rfl _ rfl w.heap.size 0 rfl (⟨vl, vh, a1, n1, c1, a2, n2, c2, a3, n3, c3⟩ : SV) HLD.out ?_; simp only [SV.val]) | (refine wpList_store_box (cells := #[.bool vl, .bool vh, .slice a1 n1 c1, .slice a2 n2 c2, .slice a3 n3 c3]) rfl 26 _ _ rfl HXX.out (by rfl) (by rfl) rfl (by kernel_rfl) (by simp [Value.oneCell']) ?_; intro u9 X9 st9)
    have B9 := st9.below w.heap.size w (by omega) B2
    exact bodyPost_ret (v := .tuple #[.agg #[.bool vl, .bool vh, .slice a1 n1 c1, .slice a2 n2 c2, .slice a3 n3 c3], .int .i64 0, .int .i64 0]) (box_result22 (p := 4) (q := 5) (r := 6) rfl _ _ (by rfl) X9 Tryd.underlying26 rfl (by kernel_rfl)) rfl ⟨(⟨vl, vh, a1, n1, c1, a2, n2, c2, a3, n3, c3⟩ : SV), rv, _, _, HE.out, rfl, ((HR3.out.keep (fun k hk => st9.other k (by have := hk.1; omega))).mono (fun k hk => hk.2)), B9⟩

/-- the bounds that the document's count wants -/
theorem nt_bounds {l : List UInt8} {r : RV} (h : Nt l none 0 1 0 r) (hl : l.length < 100000) (he : r.e = 0) : r.p ≤ l.length ∧ (r.v.nodes ≤ 1000000 ∧ r.v.deep ≤ 1000000 ∧ r.v.form.length ≤ 1000000000000) := by
  obtain ⟨h1, h2⟩ := Nt_ok h hl he (by decide) (by decide) (Nat.zero_le _)
  have h3 := Nt_place h he (Nat.zero_le _)
  have h4 := deep_broad _ _ h1
  have h5 := form_broad _ _ h1
  have h6 := h3.2.2.1 (by omega)
  refine ⟨h3.2.1, by omega, by omega, ?_⟩
  have : r.v.nodes ≤ 512 := by omega
  omega
set_option maxHeartbeats 8000000 in
set_option maxRecDepth 100000 in
theorem rread_any (s : ByteArray) (w : World) : Calls Tryd.prog 10 #[.string s] w (ReadP (Nt s.data.toList none 0 1 0) s.data.toList w) := by
  have HL : Hid (s.data.toList.length = s.size) := Lib.hid (by simp)
  have B0 : Below w.heap.size w (w.alloc (.cells #[.bool false, .bool false, .slice none 0 0, .slice none 0 0, .slice none 0 0] 26)) := (Below.refl _ _).alloc (Nat.le_refl _) _
  have X0 := Lib.hid (Box.new w 26 #[.bool false, .bool false, .slice none 0 0, .slice none 0 0, .slice none 0 0])
  go_enter Tryd.func10, Tryd.ntmps10
  go_upto_region 1 with fail
  change Code.wp _ _ _ _ (w.alloc (.cells #[.bool false, .bool false, .slice none 0 0, .slice none 0 0, .slice none 0 0] 26))
  generalize (w.alloc (.cells #[.bool false, .bool false, .slice none 0 0, .slice none 0 0, .slice none 0 0] 26)) = v0 at *
  by_cases hlong : 16384 < s.size
  case pos =>
    have hlong' : (16384 : Int) < (s.size : Int) := by omega
    go_wp2_with (refine wpList_store_box (cells := #[.bool false, .bool false, .slice none 0 0, .slice none 0 0, .slice none 0 0]) rfl 26 _ _ rfl X0.out (by rfl) (by rfl) rfl (by kernel_rfl) (by simp [Value.oneCell']) ?_; intro u9 X9 st9)
    have B9 := st9.below w.heap.size w (Nat.le_refl _) B0
    exact bodyPost_ret (v := .tuple #[.agg #[.bool false, .bool false, .slice none 0 0, .slice none 0 0, .slice none 0 0], .int .i64 16384, .int .i64 4]) (box_result22 (p := 2) (q := 3) (r := 4) rfl _ _ (by rfl) X9 Tryd.underlying26 rfl (by kernel_rfl)) rfl ⟨SV.nil, Sx.nil, 16384, 4, .inl ⟨by rw [HL.out]; exact hlong, rfl, rfl, rfl⟩, rfl, rd_nil _ _, B9⟩
  have hlong' : ¬ (16384 : Int) < (s.size : Int) := by omega
  have hs : s.size ≤ 16384 := by omega
  have HXL := Lib.hid X0.out.lt
  go_wp2_with fail
  refine (rvalue_any s (by omega) (s.size + 1) 0 1 0 v0 (by omega) (Nat.zero_le _) (by omega) (by omega)).mono ?_
  rintro e w1 ⟨r, hst, v, rfl, hrd, hb1⟩
  have HST := Lib.hid hst
  have HRD := Lib.hid hrd.there
  have X1 := Lib.hid (X0.out.after hb1)
  have B1 := B0.trans (hb1.mono B0.size)
  have CE := Lib.hid (rended_any _ s (by omega) v r w1 HRD.out (fun k hk => hk.2) (fun he => by have := (nt_bounds HST.out (by rw [HL.out]; omega) he).1; rwa [HL.out] at this) (fun he => (nt_bounds HST.out (by rw [HL.out]; omega) he).2))
  clear hst hrd hb1 X0 B0 HRD
  obtain ⟨rv, rp, rn, re⟩ := r
  dsimp only at CE ⊢
  go_wp2_with fail
  refine CE.out.mono ?_
  rintro e w2 ⟨v2, sx, p, x, hE, rfl, hrd2, b2⟩
  have HE := Lib.hid hE
  have HRD := Lib.hid hrd2
  have X2 := Lib.hid (X1.out.after b2)
  have B2 := B1.trans (b2.mono B1.size)
  clear hE hrd2 b2 X1 B1 CE
  obtain ⟨vl, vh, a1, n1, c1, a2, n2, c2, a3, n3, c3⟩ := v2
  dsimp only
  go_wp2_with (refine wpList_store_box (cells := #[.bool vl, .bool vh, .slice a1 n1 c1, .slice a2 n2 c2, .slice a3 n3 c3]) rfl 26 _ _ rfl X2.out (by rfl) (by rfl) rfl (by kernel_rfl) (by simp [Value.oneCell']) ?_; intro u9 X9 st9)
  have B9 := st9.below w.heap.size w (Nat.le_refl _) B2
  exact bodyPost_ret (v := .tuple #[.agg #[.bool vl, .bool vh, .slice a1 n1 c1, .slice a2 n2 c2, .slice a3 n3 c3], .int .i64 p, .int .i64 x]) (box_result22 (p := 2) (q := 3) (r := 4) rfl _ _ (by rfl) X9 Tryd.underlying26 rfl (by kernel_rfl)) rfl ⟨⟨vl, vh, a1, n1, c1, a2, n2, c2, a3, n3, c3⟩, sx, p, x, .inr ⟨by rw [HL.out]; exact hs, _, HST.out, HE.out⟩, rfl, ((HRD.out.keep (fun k hk => st9.other k (by have := HXL.out; rcases hk.1 with h | h; exact h.elim; omega))).mono (fun k hk => by have := HXL.out; rcases hk.1 with h | h; exact h.elim; omega)), B9⟩
end Go.Proofs.YtkbblhioncecmaaDoor

/- The document's Of, Ends. -/
import Derived.Test.YticjhogofoffmaaDoorCrN
namespace Go.Proofs.YticjhogofoffmaaDoor
open Go.RowKit
set_option linter.unusedSimpArgs false
set_option linter.unusedVariables false

/-- what 'Of' answers -/
def OfP (ok : Nat → Prop) (k : Sx) (l : List UInt8) (w : World) (e : Ending) (w' : World) : Prop :=
  (refOf k l = true ∧ ∃ u : SV, e = .returned (.tuple #[.agg #[.bool u.l, .bool u.h, .slice u.a1 u.n1 u.c1, .slice u.a2 u.n2 u.c2, .slice u.a3 u.n3 u.c3], .bool true]) ∧ RdI ok w' u (k.ks.getD 1 Sx.nil) ∧ Below w.heap.size w w') ∨
  (refOf k l = false ∧ e = .returned (.tuple #[.agg #[.bool false, .bool false, .slice none 0 0, .slice none 0 0, .slice none 0 0], .bool false]) ∧ Below w.heap.size w w')

set_option maxHeartbeats 8000000 in
set_option maxRecDepth 100000 in
theorem refOf_any (ok : Nat → Prop) (k : Sx) (t : ByteArray) (tl : List UInt8) (htl : t.toList = tl) (v : SV) (w : World) (hr : RdI ok w v k) : Calls Tryd.prog 32 #[v.val, .string t] w (OfP ok k tl w) := by
  obtain ⟨kl, kh, khi, kda, ks⟩ := k
  have HRV : Hid (Rd w _ _) := Lib.hid (hr.mono (fun _ _ => trivial))
  obtain ⟨e1, e2, _, _, hn, hnc, hcm, K, hrow, hk⟩ := hr.parts
  obtain ⟨vl, vh, va1, vn1, vc1, va2, vn2, vc2, va3, vn3, vc3⟩ := v
  replace hn : vn3 = ks.length := hn
  replace hnc : vn3 ≤ vc3 := hnc
  replace hcm : vc3 ≤ maxLen := hcm
  unfold maxLen at hcm
  replace hk : ∀ i (hi : i < ks.length), RdI ok w (K i) ks[i] := hk
  replace hrow : RowAt w va3 vn3 vc3 K := hrow
  have HN := Lib.hid hn
  have HK := Lib.hid hk
  have HROW := Lib.hid hrow
  unfold SV.val
  show Calls _ _ #[.agg #[.bool vl, .bool vh, .slice va1 vn1 vc1, .slice va2 vn2 vc2, .slice va3 vn3 vc3], _] _ _
  have B : Below w.heap.size w ((w.alloc (.cells #[.bool vl, .bool vh, .slice va1 vn1 vc1, .slice va2 vn2 vc2, .slice va3 vn3 vc3] 37)).alloc (.cells #[.bool false, .bool false, .slice none 0 0, .slice none 0 0, .slice none 0 0] 37)) := ((Below.refl _ _).alloc (Nat.le_refl _) _).alloc (by simp) _
  have V : Hid (Box ((w.alloc (.cells #[.bool vl, .bool vh, .slice va1 vn1 vc1, .slice va2 vn2 vc2, .slice va3 vn3 vc3] 37)).alloc (.cells #[.bool false, .bool false, .slice none 0 0, .slice none 0 0, .slice none 0 0] 37)) w.heap.size 37 #[.bool vl, .bool vh, .slice va1 vn1 vc1, .slice va2 vn2 vc2, .slice va3 vn3 vc3]) := Lib.hid ((Box.new _ _ _).alloc _)
  have X : Hid (Box ((w.alloc (.cells #[.bool vl, .bool vh, .slice va1 vn1 vc1, .slice va2 vn2 vc2, .slice va3 vn3 vc3] 37)).alloc (.cells #[.bool false, .bool false, .slice none 0 0, .slice none 0 0, .slice none 0 0] 37)) (w.heap.size + 1) 37 #[.bool false, .bool false, .slice none 0 0, .slice none 0 0, .slice none 0 0]) := Lib.hid (by
    have := Box.new (w.alloc (.cells #[.bool vl, .bool vh, .slice va1 vn1 vc1, .slice va2 vn2 vc2, .slice va3 vn3 vc3] 37)) 37 #[.bool false, .bool false, .slice none 0 0, .slice none 0 0, .slice none 0 0]
    simpa using this)
  have C1 := Lib.hid (fun w' h => head_any (.mk kl kh khi kda ks) t ⟨vl, vh, va1, vn1, vc1, va2, vn2, vc2, va3, vn3, vc3⟩ w' h)
  rw [headB_eq _ _ tl htl] at C1
  have HO : Hid (refOf (.mk kl kh khi kda ks) tl = (headL (.mk kl kh khi kda ks) tl && decide (ks.length = 2))) := Lib.hid rfl
  generalize headL (.mk kl kh khi kda ks) tl = r1 at *
  clear hr e1 e2 hn hk hrow
  go_enter Tryd.func32, Tryd.ntmps32
  go_upto_region 1 with fail
  change Code.wp _ _ _ _ ((w.alloc (.cells #[.bool vl, .bool vh, .slice va1 vn1 vc1, .slice va2 vn2 vc2, .slice va3 vn3 vc3] 37)).alloc (.cells #[.bool false, .bool false, .slice none 0 0, .slice none 0 0, .slice none 0 0] 37))
  generalize ((w.alloc (.cells #[.bool vl, .bool vh, .slice va1 vn1 vc1, .slice va2 vn2 vc2, .slice va3 vn3 vc3] 37)).alloc (.cells #[.bool false, .bool false, .slice none 0 0, .slice none 0 0, .slice none 0 0] 37)) = x0 at *
  go_wp2_with (refine wpList_load_boxG 37 _ rfl V.out (by rfl) Tryd.underlying37 rfl (by kernel_rfl) rfl ?_)
  refine (C1.out x0 (HRV.out.after B)).mono ?_
  rintro e x1 ⟨rfl, bx1⟩
  replace V := Lib.hid (V.out.after bx1)
  replace X := Lib.hid (X.out.after bx1)
  replace B := B.trans (bx1.mono B.size)
  clear bx1
  have v4 := V.out.cell 4 rfl
  cases r1 with
  | false =>
    have HF : Hid (refOf (.mk kl kh khi kda ks) tl = false) := Lib.hid (by rw [HO.out]; rfl)
    go_upto_region 2 with fail
    go_wp2_with (refine wpList_store_box (cells := #[.bool false, .bool false, .slice none 0 0, .slice none 0 0, .slice none 0 0]) rfl 37 _ _ rfl X.out (by rfl) (by rfl) rfl (by kernel_rfl) (by simp [Value.oneCell']) ?_; intro u9 X9 st9)
    have B9 := st9.below w.heap.size w (by omega) B
    exact bodyPost_ret (v := .tuple #[.agg #[.bool false, .bool false, .slice none 0 0, .slice none 0 0, .slice none 0 0], .bool false]) (box_result2 (p := 4) (q := 5) rfl _ _ (by rfl) X9 Tryd.underlying37 rfl (by kernel_rfl)) rfl (.inr ⟨HF.out, rfl, B9⟩)
  | true =>
    by_cases h2 : vn3 = 2
    case neg =>
      have hq2 : ((vn3 : Int) != 2) = true := by simp; omega
      have HH := Lib.hid h2
      clear h2
      have HF : Hid (refOf (.mk kl kh khi kda ks) tl = false) := Lib.hid (by rw [HO.out]; rw [decide_eq_false (by have := HN.out; have := HH.out; omega)]; rfl)
      go_upto_region 2 with fail
      go_wp2_with (refine wpList_store_box (cells := #[.bool false, .bool false, .slice none 0 0, .slice none 0 0, .slice none 0 0]) rfl 37 _ _ rfl X.out (by rfl) (by rfl) rfl (by kernel_rfl) (by simp [Value.oneCell']) ?_; intro u9 X9 st9)
      have B9 := st9.below w.heap.size w (by omega) B
      exact bodyPost_ret (v := .tuple #[.agg #[.bool false, .bool false, .slice none 0 0, .slice none 0 0, .slice none 0 0], .bool false]) (box_result2 (p := 4) (q := 5) rfl _ _ (by rfl) X9 Tryd.underlying37 rfl (by kernel_rfl)) rfl (.inr ⟨HF.out, rfl, B9⟩)
    case pos =>
      subst h2
      obtain ⟨k0, k1, rfl⟩ : ∃ k0 k1, ks = [k0, k1] := by
        have := HN.out
        rcases ks with _ | ⟨a, _ | ⟨b, _ | ⟨c, r⟩⟩⟩ <;> simp at this
        exact ⟨_, _, rfl⟩
      have R1 : Hid (RdI ok w (K 1) k1) := Lib.hid (HK.out 1 (by simp))
      obtain ⟨b, o, rfl, hl1⟩ := (HROW.out.after B).range (i := 1) (by omega)
      replace hl1 := Lib.hid hl1
      have HF : Hid (refOf (.mk kl kh khi kda [k0, k1]) tl = true) := Lib.hid (by rw [HO.out]; rfl)
      generalize (K 1) = u1 at *
      obtain ⟨ul, uh, ua1, un1, uc1, ua2, un2, uc2, ua3, un3, uc3⟩ := u1
      go_upto_region 3 with fail
      go_wp2_with first | (refine wpList_load_midW rfl 37 _ rfl b _ rfl _ _ hl1.out Tryd.underlying37 rfl (by kernel_rfl) ?_) | (refine wpList_store_box (cells := #[.bool ul, .bool uh, .slice ua1 un1 uc1, .slice ua2 un2 uc2, .slice ua3 un3 uc3]) rfl 37 _ _ rfl X.out (by rfl) (by rfl) rfl (by kernel_rfl) (by simp [Value.oneCell']) ?_; intro u9 X9 st9)
      have B9 := st9.below w.heap.size w (by omega) B
      exact bodyPost_ret (v := .tuple #[.agg #[.bool ul, .bool uh, .slice ua1 un1 uc1, .slice ua2 un2 uc2, .slice ua3 un3 uc3], .bool true]) (box_result2 (p := 4) (q := 5) rfl _ _ (by rfl) X9 Tryd.underlying37 rfl (by kernel_rfl)) rfl (.inl ⟨HF.out, ⟨ul, uh, ua1, un1, uc1, ua2, un2, uc2, ua3, un3, uc3⟩, rfl, R1.out.after B9, B9⟩)

theorem OfP.out {ok : Nat → Prop} {k : Sx} {l : List UInt8} {w w' : World} {e : Ending} (h : OfP ok k l w e w') : ∃ u : SV, e = .returned (.tuple #[.agg #[.bool u.l, .bool u.h, .slice u.a1 u.n1 u.c1, .slice u.a2 u.n2 u.c2, .slice u.a3 u.n3 u.c3], .bool (refOf k l)]) ∧ RdI ok w' u (if refOf k l then k.ks.getD 1 Sx.nil else Sx.nil) ∧ Below w.heap.size w w' := by
  rcases h with ⟨h1, u, rfl, h2, h3⟩ | ⟨h1, rfl, h3⟩
  · exact ⟨u, by rw [h1], by rw [h1]; exact h2, h3⟩
  · exact ⟨SV.nil, by rw [h1]; rfl, by rw [h1]; exact rd_nil _ _, h3⟩

/-- what 'Ends' answers -/
def REndP (ks : List Sx) (w : World) (e : Ending) (w' : World) : Prop :=
  ∃ x : W4, e = .returned (.tuple #[.agg #[.bool x.p, .int .i64 x.f, .bool x.q, .int .i64 x.t], .bool (refEnds ks).isSome]) ∧ (∀ y, refEnds ks = some y → x = y) ∧ Below w.heap.size w w'
theorem refEnds_one (k : Sx) : refEnds [k] = match refWin k with | some x => if x.p || x.q then some x else none | none => none := rfl
theorem refEnds_more (k k2 : Sx) (r : List Sx) : refEnds (k :: k2 :: r) = none := rfl

set_option maxHeartbeats 8000000 in
set_option maxRecDepth 100000 in
theorem refEnds_any (a : Option Addr) (n c : Nat) (K : Nat → SV) (ks : List Sx) (w : World) (hr : RowAt w a n c K) (hn : n = ks.length) (hk : ∀ i (hi : i < ks.length), Rd w (K i) ks[i]) : Calls Tryd.prog 34 #[.slice a n c] w (REndP ks w) := by
  have HN := Lib.hid hn
  have HK := Lib.hid hk
  have HROW := Lib.hid hr
  have hle : n ≤ c := hr.1
  have hcm : c ≤ maxLen := hr.2.1
  unfold maxLen at hcm
  have B : Below w.heap.size w (w.alloc (.cells #[.bool false, .int .i64 0, .bool false, .int .i64 0] 27)) := (Below.refl _ _).alloc (Nat.le_refl _) _
  have X : Hid (Box (w.alloc (.cells #[.bool false, .int .i64 0, .bool false, .int .i64 0] 27)) w.heap.size 27 #[.bool false, .int .i64 0, .bool false, .int .i64 0]) := Lib.hid (Box.new _ _ _)
  clear hr hk hn
  go_enter Tryd.func34, Tryd.ntmps34
  go_upto_region 1 with fail
  change Code.wp _ _ _ _ (w.alloc (.cells #[.bool false, .int .i64 0, .bool false, .int .i64 0] 27))
  generalize (w.alloc (.cells #[.bool false, .int .i64 0, .bool false, .int .i64 0] 27)) = x0 at *
  rcases ks with _ | ⟨k, r⟩
  · skip
    obtain rfl : n = 0 := by have := HN.out; simpa using this
    go_wp2_with (refine wpList_store_box (cells := #[.bool false, .int .i64 0, .bool false, .int .i64 0]) rfl 27 _ _ rfl X.out (by rfl) (by rfl) rfl (by kernel_rfl) (by simp [Value.oneCell']) ?_; intro u9 X9 st9)
    have B9 := st9.below w.heap.size w (Nat.le_refl _) B
    exact bodyPost_ret (v := .tuple #[.agg #[.bool false, .int .i64 0, .bool false, .int .i64 0], .bool true]) (box_result2 (p := 2) (q := 3) rfl _ _ (by rfl) X9 Tryd.underlying27 rfl (by kernel_rfl)) rfl ⟨W4.nil, rfl, fun y h => by cases h; rfl, B9⟩
  · skip
    have hn1 : 1 ≤ n := by have := HN.out; simp at this; omega
    have hn0 : ((n : Int) == 0) = false := by simp; omega
    have hn2 : (0 : Int) < n := by omega
    obtain ⟨b, o, rfl, hl⟩ := (HROW.out.after B).range (i := 0) (by omega)
    replace hl := Lib.hid hl
    have R0 : Hid (Rd w (K 0) k) := Lib.hid (HK.out 0 (by simp))
    go_wp2_with (refine wpList_load_midW rfl 37 _ rfl b _ rfl _ _ hl.out Tryd.underlying37 rfl (by kernel_rfl) ?_)
    refine (refWinGet_any k (K 0) x0 (R0.out.after B)).mono ?_
    rintro e z1 hP
    obtain ⟨x, ok, rfl, hx, bz1⟩ : ∃ (x : W4) (ok : Bool), e = .returned (.tuple #[.agg #[.bool x.p, .int .i64 x.f, .bool x.q, .int .i64 x.t], .bool ok]) ∧ (if ok then refWin k = some x else refWin k = none) ∧ Below x0.heap.size x0 z1 := by
      rcases hP with ⟨x, h1, h2, h3⟩ | ⟨h1, h2, h3⟩
      · exact ⟨x, true, h2, h1, h3⟩
      · exact ⟨W4.nil, false, h2, h1, h3⟩
    clear hP hl
    have HX := Lib.hid hx
    clear hx
    replace X := Lib.hid (X.out.after bz1)
    replace B := B.trans (bz1.mono B.size)
    clear bz1
    obtain ⟨xp, xf, xq, xt⟩ := x
    dsimp only at HX ⊢
    go_upto_region 4 with (refine wpList_store_box (cells := #[.bool xp, .int .i64 xf, .bool xq, .int .i64 xt]) rfl 27 _ _ rfl (Box.new _ _ _) (by rfl) (by rfl) rfl (by kernel_rfl) (by simp [Value.oneCell']) ?_; intro u9 X9 st9)
    have HXY : Hid (w.heap.size < z1.heap.size) := Lib.hid X.out.lt
    have bs1 : Below z1.heap.size z1 u9 := st9.below z1.heap.size z1 (Nat.le_refl _) ((Below.refl _ _).alloc (Nat.le_refl _) _)
    have Y := Lib.hid X9
    replace X := Lib.hid (X.out.after bs1)
    replace B := B.trans (bs1.mono B.size)
    clear bs1 st9 X9
    generalize u9 = x1 at *
    generalize z1.heap.size = yb at *
    have hxy : w.heap.size < yb := HXY.out
    have hKS : Keeps (fun w' => Box w' yb 27 #[.bool xp, .int .i64 xf, .bool xq, .int .i64 xt]) := fun w1 w2 h b => h.after b
    refine wp_region_U (w := x1) (fun w' => Box w' yb 27 #[.bool xp, .int .i64 xf, .bool xq, .int .i64 xt]) rfl (hKS _ _ Y.out (Below.refl _ _).drew) ?_
    refine wpU_val 0 hKS rfl (by kernel_rfl) (by kernel_rfl) (by kernel_rfl) rfl (fun _ _ _ _ h => h) (.agg #[.bool xp, .int .i64 xf, .bool xq, .int .i64 xt]) (fun w' h => run_load_box rfl h (by simp [go_sem]) Tryd.underlying27 rfl (by kernel_rfl)) ?_
    simp only [Act.put, List.setIfInBounds_toArray, List.set_cons_zero, List.set_cons_succ]
    cases ok with
    | false =>
      have HX2 : Hid (refWin k = none) := HX
      refine wpU_val 1 hKS rfl (by kernel_rfl) (by kernel_rfl) (by kernel_rfl) rfl (fun _ _ _ _ h => h) (.bool false) (fun w' h => by simp [go_sem]) ?_
      simp only [Act.put, List.setIfInBounds_toArray, List.set_cons_zero, List.set_cons_succ]
      refine wpU_val 2 hKS rfl (by kernel_rfl) (by kernel_rfl) (by kernel_rfl) rfl (fun _ _ _ _ h => h) (.bool false) (fun w' h => by simp [go_sem]) ?_
      simp only [Act.put, List.setIfInBounds_toArray, List.set_cons_zero, List.set_cons_succ]
      refine wpU_skip 3 hKS rfl (by kernel_rfl) (by kernel_rfl) (by kernel_rfl) rfl (fun _ _ _ _ h => h) ?_
      simp only [Act.put, List.setIfInBounds_toArray, List.set_cons_zero, List.set_cons_succ]
      refine wpU_skip 4 hKS rfl (by kernel_rfl) (by kernel_rfl) (by kernel_rfl) rfl (fun _ _ _ _ h => h) ?_
      simp only [Act.put, List.setIfInBounds_toArray, List.set_cons_zero, List.set_cons_succ]
      refine wpU_skip 5 hKS rfl (by kernel_rfl) (by kernel_rfl) (by kernel_rfl) rfl (fun _ _ _ _ h => h) ?_
      simp only [Act.put, List.setIfInBounds_toArray, List.set_cons_zero, List.set_cons_succ]
      refine wpU_val 6 hKS rfl (by kernel_rfl) (by kernel_rfl) (by kernel_rfl) rfl (fun _ _ _ _ h => h) (.bool false) (fun w' h => by simp [go_sem]) ?_
      simp only [Act.put, List.setIfInBounds_toArray, List.set_cons_zero, List.set_cons_succ]
      refine wpU_val 7 hKS rfl (by kernel_rfl) (by kernel_rfl) (by kernel_rfl) rfl (fun _ _ _ _ h => h) (.bool false) (fun w' h => by simp [go_sem]) ?_
      simp only [Act.put, List.setIfInBounds_toArray, List.set_cons_zero, List.set_cons_succ]
      refine wpU_skip 8 hKS rfl (by kernel_rfl) (by kernel_rfl) (by kernel_rfl) rfl (fun _ _ _ _ h => h) ?_
      simp only [Act.put, List.setIfInBounds_toArray, List.set_cons_zero, List.set_cons_succ]
      refine wpU_skip 9 hKS rfl (by kernel_rfl) (by kernel_rfl) (by kernel_rfl) rfl (fun _ _ _ _ h => h) ?_
      simp only [Act.put, List.setIfInBounds_toArray, List.set_cons_zero, List.set_cons_succ]
      refine wpU_skip 10 hKS rfl (by kernel_rfl) (by kernel_rfl) (by kernel_rfl) rfl (fun _ _ _ _ h => h) ?_
      simp only [Act.put, List.setIfInBounds_toArray, List.set_cons_zero, List.set_cons_succ]
      refine wpU_skip 11 hKS rfl (by kernel_rfl) (by kernel_rfl) (by kernel_rfl) rfl (fun _ _ _ _ h => h) ?_
      simp only [Act.put, List.setIfInBounds_toArray, List.set_cons_zero, List.set_cons_succ]
      refine wpU_skip 12 hKS rfl (by kernel_rfl) (by kernel_rfl) (by kernel_rfl) rfl (fun _ _ _ _ h => h) ?_
      simp only [Act.put, List.setIfInBounds_toArray, List.set_cons_zero, List.set_cons_succ]
      refine wpU_skip 13 hKS rfl (by kernel_rfl) (by kernel_rfl) (by kernel_rfl) rfl (fun _ _ _ _ h => h) ?_
      simp only [Act.put, List.setIfInBounds_toArray, List.set_cons_zero, List.set_cons_succ]
      refine wpU_val 14 hKS rfl (by kernel_rfl) (by kernel_rfl) (by kernel_rfl) rfl (fun _ _ _ _ h => h) (.bool false) (fun w' h => by simp [go_sem]) ?_
      simp only [Act.put, List.setIfInBounds_toArray, List.set_cons_zero, List.set_cons_succ]
      refine wpU_store_box (cells := #[.bool xp, .int .i64 xf, .bool xq, .int .i64 xt]) 15 rfl (by kernel_rfl) rfl 27 (.tmp 2) (.tmp 17) rfl X.out.drew (by simp [go_sem]) (by simp [go_sem]) (by rfl) (by kernel_rfl) (by simp [Value.oneCell']) ?_
      intro n1 n2 bn sS X8 stn
      refine ⟨stn.box sS (by omega), ?_⟩
      simp only [Act.put, List.setIfInBounds_toArray, List.set_cons_zero, List.set_cons_succ]
      refine wpU_val 16 hKS rfl (by kernel_rfl) (by kernel_rfl) (by kernel_rfl) rfl (fun _ _ _ _ h => h) (.bool false) (fun w' h => by simp [go_sem]) ?_
      simp only [Act.put, List.setIfInBounds_toArray, List.set_cons_zero, List.set_cons_succ]
      refine wpU_done (by kernel_rfl) ?_
      intro n3 b3 _
      have B8 := stn.below w.heap.size w (Nat.le_refl _) (B.drew.trans (bn.mono B.size))
      have B9 := B8.trans (b3.mono B8.size)
      have X9 := X8.after b3
      clear stn X8 sS hKS bn b3 B8
      go_wp2_with fail
      exact bodyPost_ret (v := .tuple #[.agg #[.bool xp, .int .i64 xf, .bool xq, .int .i64 xt], .bool false]) (box_result2 (p := 2) (q := 3) rfl _ _ (by rfl) X9 Tryd.underlying27 rfl (by kernel_rfl)) rfl ⟨⟨xp, xf, xq, xt⟩, by have h : refEnds (k :: r) = none := (by cases r with | nil => rw [refEnds_one, HX2.out] | cons => rfl); rw [h]; rfl, (fun y hy => absurd hy (by have h : refEnds (k :: r) = none := (by cases r with | nil => rw [refEnds_one, HX2.out] | cons => rfl); rw [h]; simp)), B9⟩
    | true =>
      have HX2 : Hid (refWin k = some ⟨xp, xf, xq, xt⟩) := HX
      refine wpU_val 1 hKS rfl (by kernel_rfl) (by kernel_rfl) (by kernel_rfl) rfl (fun _ _ _ _ h => h) (.bool true) (fun w' h => by simp [go_sem]) ?_
      simp only [Act.put, List.setIfInBounds_toArray, List.set_cons_zero, List.set_cons_succ]
      refine wpU_val 2 hKS rfl (by kernel_rfl) (by kernel_rfl) (by kernel_rfl) rfl (fun _ _ _ _ h => h) (.bool true) (fun w' h => by simp [go_sem]) ?_
      simp only [Act.put, List.setIfInBounds_toArray, List.set_cons_zero, List.set_cons_succ]
      refine wpU_val 3 hKS rfl (by kernel_rfl) (by kernel_rfl) (by kernel_rfl) rfl (fun _ _ _ _ h => h) (.slice (some ⟨b, o, none⟩) n c) (fun w' h => by simp [go_sem]) ?_
      simp only [Act.put, List.setIfInBounds_toArray, List.set_cons_zero, List.set_cons_succ]
      refine wpU_val 4 hKS rfl (by kernel_rfl) (by kernel_rfl) (by kernel_rfl) rfl (fun _ _ _ _ h => h) (.int .i64 n) (fun w' h => by simp [go_sem]) ?_
      simp only [Act.put, List.setIfInBounds_toArray, List.set_cons_zero, List.set_cons_succ]
      rcases r with _ | ⟨k2, r⟩
      rotate_left
      · skip
        have hne : ((n : Int) == 1) = false := by have := HN.out; simp at this; simp; omega
        refine wpU_val 5 hKS rfl (by kernel_rfl) (by kernel_rfl) (by kernel_rfl) rfl (fun _ _ _ _ h => h) (.bool false) (fun w' h => by simp [go_sem]; simpa using hne) ?_
        simp only [Act.put, List.setIfInBounds_toArray, List.set_cons_zero, List.set_cons_succ]
        refine wpU_val 6 hKS rfl (by kernel_rfl) (by kernel_rfl) (by kernel_rfl) rfl (fun _ _ _ _ h => h) (.bool false) (fun w' h => by simp [go_sem]) ?_
        simp only [Act.put, List.setIfInBounds_toArray, List.set_cons_zero, List.set_cons_succ]
        refine wpU_val 7 hKS rfl (by kernel_rfl) (by kernel_rfl) (by kernel_rfl) rfl (fun _ _ _ _ h => h) (.bool false) (fun w' h => by simp [go_sem]) ?_
        simp only [Act.put, List.setIfInBounds_toArray, List.set_cons_zero, List.set_cons_succ]
        refine wpU_skip 8 hKS rfl (by kernel_rfl) (by kernel_rfl) (by kernel_rfl) rfl (fun _ _ _ _ h => h) ?_
        simp only [Act.put, List.setIfInBounds_toArray, List.set_cons_zero, List.set_cons_succ]
        refine wpU_skip 9 hKS rfl (by kernel_rfl) (by kernel_rfl) (by kernel_rfl) rfl (fun _ _ _ _ h => h) ?_
        simp only [Act.put, List.setIfInBounds_toArray, List.set_cons_zero, List.set_cons_succ]
        refine wpU_skip 10 hKS rfl (by kernel_rfl) (by kernel_rfl) (by kernel_rfl) rfl (fun _ _ _ _ h => h) ?_
        simp only [Act.put, List.setIfInBounds_toArray, List.set_cons_zero, List.set_cons_succ]
        refine wpU_skip 11 hKS rfl (by kernel_rfl) (by kernel_rfl) (by kernel_rfl) rfl (fun _ _ _ _ h => h) ?_
        simp only [Act.put, List.setIfInBounds_toArray, List.set_cons_zero, List.set_cons_succ]
        refine wpU_skip 12 hKS rfl (by kernel_rfl) (by kernel_rfl) (by kernel_rfl) rfl (fun _ _ _ _ h => h) ?_
        simp only [Act.put, List.setIfInBounds_toArray, List.set_cons_zero, List.set_cons_succ]
        refine wpU_skip 13 hKS rfl (by kernel_rfl) (by kernel_rfl) (by kernel_rfl) rfl (fun _ _ _ _ h => h) ?_
        simp only [Act.put, List.setIfInBounds_toArray, List.set_cons_zero, List.set_cons_succ]
        refine wpU_val 14 hKS rfl (by kernel_rfl) (by kernel_rfl) (by kernel_rfl) rfl (fun _ _ _ _ h => h) (.bool false) (fun w' h => by simp [go_sem]) ?_
        simp only [Act.put, List.setIfInBounds_toArray, List.set_cons_zero, List.set_cons_succ]
        refine wpU_store_box (cells := #[.bool xp, .int .i64 xf, .bool xq, .int .i64 xt]) 15 rfl (by kernel_rfl) rfl 27 (.tmp 2) (.tmp 17) rfl X.out.drew (by simp [go_sem]) (by simp [go_sem]) (by rfl) (by kernel_rfl) (by simp [Value.oneCell']) ?_
        intro n1 n2 bn sS X8 stn
        refine ⟨stn.box sS (by omega), ?_⟩
        simp only [Act.put, List.setIfInBounds_toArray, List.set_cons_zero, List.set_cons_succ]
        refine wpU_val 16 hKS rfl (by kernel_rfl) (by kernel_rfl) (by kernel_rfl) rfl (fun _ _ _ _ h => h) (.bool false) (fun w' h => by simp [go_sem]) ?_
        simp only [Act.put, List.setIfInBounds_toArray, List.set_cons_zero, List.set_cons_succ]
        refine wpU_done (by kernel_rfl) ?_
        intro n3 b3 _
        have B8 := stn.below w.heap.size w (Nat.le_refl _) (B.drew.trans (bn.mono B.size))
        have B9 := B8.trans (b3.mono B8.size)
        have X9 := X8.after b3
        clear stn X8 sS hKS bn b3 B8
        go_wp2_with fail
        exact bodyPost_ret (v := .tuple #[.agg #[.bool xp, .int .i64 xf, .bool xq, .int .i64 xt], .bool false]) (box_result2 (p := 2) (q := 3) rfl _ _ (by rfl) X9 Tryd.underlying27 rfl (by kernel_rfl)) rfl ⟨⟨xp, xf, xq, xt⟩, by rw [refEnds_more]; rfl, (fun y hy => by rw [refEnds_more] at hy; cases hy), B9⟩
      obtain rfl : n = 1 := by have := HN.out; simpa using this
      refine wpU_val 5 hKS rfl (by kernel_rfl) (by kernel_rfl) (by kernel_rfl) rfl (fun _ _ _ _ h => h) (.bool true) (fun w' h => by simp [go_sem]) ?_
      simp only [Act.put, List.setIfInBounds_toArray, List.set_cons_zero, List.set_cons_succ]
      refine wpU_val 6 hKS rfl (by kernel_rfl) (by kernel_rfl) (by kernel_rfl) rfl (fun _ _ _ _ h => h) (.bool true) (fun w' h => by simp [go_sem]) ?_
      simp only [Act.put, List.setIfInBounds_toArray, List.set_cons_zero, List.set_cons_succ]
      refine wpU_val 7 hKS rfl (by kernel_rfl) (by kernel_rfl) (by kernel_rfl) rfl (fun _ _ _ _ h => h) (.bool true) (fun w' h => by simp [go_sem]) ?_
      simp only [Act.put, List.setIfInBounds_toArray, List.set_cons_zero, List.set_cons_succ]
      refine wpU_val 8 hKS rfl (by kernel_rfl) (by kernel_rfl) (by kernel_rfl) rfl (fun _ _ _ _ h => h) (.pointer (some ⟨yb, 0, none⟩)) (fun w' h => by simp [go_sem]) ?_
      simp only [Act.put, List.setIfInBounds_toArray, List.set_cons_zero, List.set_cons_succ]
      refine wpU_val 9 hKS rfl (by kernel_rfl) (by kernel_rfl) (by kernel_rfl) rfl (fun _ _ _ _ h => h) (.bool xp) (fun w' h => by have := h.cell 0 rfl; simp [go_sem, this]) ?_
      simp only [Act.put, List.setIfInBounds_toArray, List.set_cons_zero, List.set_cons_succ]
      refine wpU_val 10 hKS rfl (by kernel_rfl) (by kernel_rfl) (by kernel_rfl) rfl (fun _ _ _ _ h => h) (.bool xp) (fun w' h => by simp [go_sem]) ?_
      simp only [Act.put, List.setIfInBounds_toArray, List.set_cons_zero, List.set_cons_succ]
      cases xp with
      | true =>
        refine wpU_skip 11 hKS rfl (by kernel_rfl) (by kernel_rfl) (by kernel_rfl) rfl (fun _ _ _ _ h => h) ?_
        simp only [Act.put, List.setIfInBounds_toArray, List.set_cons_zero, List.set_cons_succ]
        refine wpU_skip 12 hKS rfl (by kernel_rfl) (by kernel_rfl) (by kernel_rfl) rfl (fun _ _ _ _ h => h) ?_
        simp only [Act.put, List.setIfInBounds_toArray, List.set_cons_zero, List.set_cons_succ]
        refine wpU_val 13 hKS rfl (by kernel_rfl) (by kernel_rfl) (by kernel_rfl) rfl (fun _ _ _ _ h => h) (.bool true) (fun w' h => by simp [go_sem]) ?_
        simp only [Act.put, List.setIfInBounds_toArray, List.set_cons_zero, List.set_cons_succ]
        refine wpU_val 14 hKS rfl (by kernel_rfl) (by kernel_rfl) (by kernel_rfl) rfl (fun _ _ _ _ h => h) (.bool true) (fun w' h => by simp [go_sem]) ?_
        simp only [Act.put, List.setIfInBounds_toArray, List.set_cons_zero, List.set_cons_succ]
        refine wpU_store_box (cells := #[.bool true, .int .i64 xf, .bool xq, .int .i64 xt]) 15 rfl (by kernel_rfl) rfl 27 (.tmp 2) (.tmp 17) rfl X.out.drew (by simp [go_sem]) (by simp [go_sem]) (by rfl) (by kernel_rfl) (by simp [Value.oneCell']) ?_
        intro n1 n2 bn sS X8 stn
        refine ⟨stn.box sS (by omega), ?_⟩
        simp only [Act.put, List.setIfInBounds_toArray, List.set_cons_zero, List.set_cons_succ]
        refine wpU_val 16 hKS rfl (by kernel_rfl) (by kernel_rfl) (by kernel_rfl) rfl (fun _ _ _ _ h => h) (.bool true) (fun w' h => by simp [go_sem]) ?_
        simp only [Act.put, List.setIfInBounds_toArray, List.set_cons_zero, List.set_cons_succ]
        refine wpU_done (by kernel_rfl) ?_
        intro n3 b3 _
        have B8 := stn.below w.heap.size w (Nat.le_refl _) (B.drew.trans (bn.mono B.size))
        have B9 := B8.trans (b3.mono B8.size)
        have X9 := X8.after b3
        clear stn X8 sS hKS bn b3 B8
        go_wp2_with fail
        exact bodyPost_ret (v := .tuple #[.agg #[.bool true, .int .i64 xf, .bool xq, .int .i64 xt], .bool true]) (box_result2 (p := 2) (q := 3) rfl _ _ (by rfl) X9 Tryd.underlying27 rfl (by kernel_rfl)) rfl ⟨⟨true, xf, xq, xt⟩, by rw [refEnds_one, HX2.out]; rfl, (fun y hy => by rw [refEnds_one, HX2.out] at hy; simpa using hy), B9⟩
      | false =>
        refine wpU_val 11 hKS rfl (by kernel_rfl) (by kernel_rfl) (by kernel_rfl) rfl (fun _ _ _ _ h => h) (.pointer (some ⟨yb, 2, none⟩)) (fun w' h => by simp [go_sem]) ?_
        simp only [Act.put, List.setIfInBounds_toArray, List.set_cons_zero, List.set_cons_succ]
        refine wpU_val 12 hKS rfl (by kernel_rfl) (by kernel_rfl) (by kernel_rfl) rfl (fun _ _ _ _ h => h) (.bool xq) (fun w' h => by have := h.cell 2 rfl; simp [go_sem, this]) ?_
        simp only [Act.put, List.setIfInBounds_toArray, List.set_cons_zero, List.set_cons_succ]
        refine wpU_val 13 hKS rfl (by kernel_rfl) (by kernel_rfl) (by kernel_rfl) rfl (fun _ _ _ _ h => h) (.bool xq) (fun w' h => by simp [go_sem]) ?_
        simp only [Act.put, List.setIfInBounds_toArray, List.set_cons_zero, List.set_cons_succ]
        refine wpU_val 14 hKS rfl (by kernel_rfl) (by kernel_rfl) (by kernel_rfl) rfl (fun _ _ _ _ h => h) (.bool xq) (fun w' h => by simp [go_sem]) ?_
        simp only [Act.put, List.setIfInBounds_toArray, List.set_cons_zero, List.set_cons_succ]
        refine wpU_store_box (cells := #[.bool false, .int .i64 xf, .bool xq, .int .i64 xt]) 15 rfl (by kernel_rfl) rfl 27 (.tmp 2) (.tmp 17) rfl X.out.drew (by simp [go_sem]) (by simp [go_sem]) (by rfl) (by kernel_rfl) (by simp [Value.oneCell']) ?_
        intro n1 n2 bn sS X8 stn
        refine ⟨stn.box sS (by omega), ?_⟩
        simp only [Act.put, List.setIfInBounds_toArray, List.set_cons_zero, List.set_cons_succ]
        refine wpU_val 16 hKS rfl (by kernel_rfl) (by kernel_rfl) (by kernel_rfl) rfl (fun _ _ _ _ h => h) (.bool xq) (fun w' h => by simp [go_sem]) ?_
        simp only [Act.put, List.setIfInBounds_toArray, List.set_cons_zero, List.set_cons_succ]
        refine wpU_done (by kernel_rfl) ?_
        intro n3 b3 _
        have B8 := stn.below w.heap.size w (Nat.le_refl _) (B.drew.trans (bn.mono B.size))
        have B9 := B8.trans (b3.mono B8.size)
        have X9 := X8.after b3
        clear stn X8 sS hKS bn b3 B8
        go_wp2_with fail
        exact bodyPost_ret (v := .tuple #[.agg #[.bool false, .int .i64 xf, .bool xq, .int .i64 xt], .bool xq]) (box_result2 (p := 2) (q := 3) rfl _ _ (by rfl) X9 Tryd.underlying27 rfl (by kernel_rfl)) rfl ⟨⟨false, xf, xq, xt⟩, by rw [refEnds_one, HX2.out]; cases xq <;> rfl, (fun y hy => by rw [refEnds_one, HX2.out] at hy; cases xq <;> simp at hy ⊢ <;> exact hy), B9⟩

end Go.Proofs.YticjhogofoffmaaDoor

/- A window of a value: the program's window.Get. -/
import Derived.Test.YticjhogofoffmaaDoorCrJ
import Derived.Deep.CutRange
import Derived.Deep.Cut
namespace Go.Proofs.YticjhogofoffmaaDoor
open Go.RowKit
set_option linter.unusedSimpArgs false
set_option linter.unusedVariables false

theorem eq_str (a b : List UInt8) (r : Bool) (h : (a == b) = r) (w : World) : (binOp .eql 9 (.string ⟨a.toArray⟩) (.string ⟨b.toArray⟩)).run Tryd.prog w = .ok (.bool r) w := by
  subst h
  have : ((⟨a.toArray⟩ : ByteArray) == ⟨b.toArray⟩) = (a == b) := by
    show (a.toArray == b.toArray) = (a == b)
    simp
  simp [go_sem, this]
theorem winStep_n (x : W4) (k : Sx) (h : k.ks.length ≠ 2) : winStep x k = x := by
  obtain ⟨_, _, _, _, ks⟩ := k
  match ks, h with
  | [], _ => rfl
  | [_], _ => rfl
  | [_, _], h => exact absurd rfl h
  | _ :: _ :: _ :: _, _ => rfl
theorem winStep_2 (x : W4) (k : Sx) (h : k.ks.length = 2) : winStep x k = if (k.ks[0]'(by omega)).da = nbL then ⟨dateOk (k.ks[1]'(by omega)).da, dateV (k.ks[1]'(by omega)).da, x.q, x.t⟩ else if (k.ks[0]'(by omega)).da = naL then ⟨x.p, x.f, dateOk (k.ks[1]'(by omega)).da, dateV (k.ks[1]'(by omega)).da⟩ else x := by
  obtain ⟨_, _, _, _, ks⟩ := k
  match ks, h with
  | [_, _], h => rfl
def winTo (ks : List Sx) (k : Nat) : W4 := (ks.tail.take k).foldl winStep W4.nil
theorem winTo_snoc (ks : List Sx) (k : Nat) (h : k + 1 < ks.length) : winTo ks (k + 1) = winStep (winTo ks k) ks[k + 1] := by
  unfold winTo
  rw [List.take_succ_eq_append_getElem (by simp; omega), List.foldl_append]
  simp
theorem winTo_all (l h : Bool) (hi da : List UInt8) (ks : List Sx) (k : Nat) (hk : ks.length ≤ k + 1) : winTo ks k = winFold (.mk l h hi da ks) := by
  unfold winTo winFold
  rw [List.take_of_length_le (by simp; omega)]
  rfl
/-- what getting a window answers -/
def WinG (s : Sx) (w : World) (e : Ending) (w' : World) : Prop :=
  (∃ x : W4, winGet s = some x ∧ e = .returned (.tuple #[.agg #[.bool x.p, .int .i64 x.f, .bool x.q, .int .i64 x.t], .int .i64 0]) ∧ Below w.heap.size w w') ∨
  (winGet s = none ∧ e = .returned (.tuple #[.agg #[.bool false, .int .i64 0, .bool false, .int .i64 0], .int .i64 11]) ∧ Below w.heap.size w w')

set_option maxHeartbeats 8000000 in
set_option maxRecDepth 100000 in
theorem winGet_any (s : Sx) (v : SV) (w : World) (hr : Rd w v s) (mm : Nat) (hw : s.wide mm = false) : Calls Tryd.prog 29 #[v.val] w (WinG s w) := by
  obtain ⟨kl, kh, khi, kda, ks⟩ := s
  have HW : Hid (∀ k ∈ ks, k.wide (mm + 1) = false) := Lib.hid (wide_no hw).2.2.2.2
  have HRV := Lib.hid hr
  obtain ⟨e1, e2, _, _, hn, hnc, hcm, K, hrow, hk⟩ := hr.parts
  obtain ⟨vl, vh, va1, vn1, vc1, va2, vn2, vc2, va3, vn3, vc3⟩ := v
  replace hn : vn3 = ks.length := hn
  replace hnc : vn3 ≤ vc3 := hnc
  replace hcm : vc3 ≤ maxLen := hcm
  unfold maxLen at hcm
  replace hk : ∀ i (hi : i < ks.length), Rd w (K i) ks[i] := hk
  replace hrow : RowAt w va3 vn3 vc3 K := hrow
  have HN := Lib.hid hn
  have HK := Lib.hid hk
  have HROW := Lib.hid hrow
  unfold SV.val
  show Calls _ _ #[.agg #[.bool vl, .bool vh, .slice va1 vn1 vc1, .slice va2 vn2 vc2, .slice va3 vn3 vc3]] _ _
  have B : Below w.heap.size w (((w.alloc (.cells #[.bool vl, .bool vh, .slice va1 vn1 vc1, .slice va2 vn2 vc2, .slice va3 vn3 vc3] 37)).alloc (.cells #[.bool false, .int .i64 0, .bool false, .int .i64 0] 27)).alloc (.cells #[.bool false, .int .i64 0, .bool false, .int .i64 0] 27)) := (((Below.refl _ _).alloc (Nat.le_refl _) _).alloc (by simp) _).alloc (by simp; omega) _
  have V : Hid (Box (((w.alloc (.cells #[.bool vl, .bool vh, .slice va1 vn1 vc1, .slice va2 vn2 vc2, .slice va3 vn3 vc3] 37)).alloc (.cells #[.bool false, .int .i64 0, .bool false, .int .i64 0] 27)).alloc (.cells #[.bool false, .int .i64 0, .bool false, .int .i64 0] 27)) w.heap.size 37 #[.bool vl, .bool vh, .slice va1 vn1 vc1, .slice va2 vn2 vc2, .slice va3 vn3 vc3]) := Lib.hid (((Box.new _ _ _).alloc _).alloc _)
  have X : Hid (Box (((w.alloc (.cells #[.bool vl, .bool vh, .slice va1 vn1 vc1, .slice va2 vn2 vc2, .slice va3 vn3 vc3] 37)).alloc (.cells #[.bool false, .int .i64 0, .bool false, .int .i64 0] 27)).alloc (.cells #[.bool false, .int .i64 0, .bool false, .int .i64 0] 27)) (w.heap.size + 1) 27 #[.bool false, .int .i64 0, .bool false, .int .i64 0]) := Lib.hid (by
    have := Box.new (w.alloc (.cells #[.bool vl, .bool vh, .slice va1 vn1 vc1, .slice va2 vn2 vc2, .slice va3 vn3 vc3] 37)) 27 #[.bool false, .int .i64 0, .bool false, .int .i64 0]
    simp only [World.size_alloc] at this
    exact Box.alloc this _)
  have G : Hid (Box (((w.alloc (.cells #[.bool vl, .bool vh, .slice va1 vn1 vc1, .slice va2 vn2 vc2, .slice va3 vn3 vc3] 37)).alloc (.cells #[.bool false, .int .i64 0, .bool false, .int .i64 0] 27)).alloc (.cells #[.bool false, .int .i64 0, .bool false, .int .i64 0] 27)) (w.heap.size + 2) 27 #[.bool false, .int .i64 0, .bool false, .int .i64 0]) := Lib.hid (by
    have := Box.new ((w.alloc (.cells #[.bool vl, .bool vh, .slice va1 vn1 vc1, .slice va2 vn2 vc2, .slice va3 vn3 vc3] 37)).alloc (.cells #[.bool false, .int .i64 0, .bool false, .int .i64 0] 27)) 27 #[.bool false, .int .i64 0, .bool false, .int .i64 0]
    simpa using this)
  clear hr e1 e2 hn hk hrow hw
  go_enter Tryd.func29, Tryd.ntmps29
  go_upto_region 2 with fail
  change Code.wp _ _ _ _ (((w.alloc (.cells #[.bool vl, .bool vh, .slice va1 vn1 vc1, .slice va2 vn2 vc2, .slice va3 vn3 vc3] 37)).alloc (.cells #[.bool false, .int .i64 0, .bool false, .int .i64 0] 27)).alloc (.cells #[.bool false, .int .i64 0, .bool false, .int .i64 0] 27))
  generalize (((w.alloc (.cells #[.bool vl, .bool vh, .slice va1 vn1 vc1, .slice va2 vn2 vc2, .slice va3 vn3 vc3] 37)).alloc (.cells #[.bool false, .int .i64 0, .bool false, .int .i64 0] 27)).alloc (.cells #[.bool false, .int .i64 0, .bool false, .int .i64 0] 27)) = x0 at *
  have x4 := V.out.cell 4 rfl
  go_upto_if 14 with fail
  go_cut [3] from 5 to 54 (fun s3 wx => s3 = .int .i64 0 ∧ Box wx w.heap.size 37 #[.bool vl, .bool vh, .slice va1 vn1 vc1, .slice va2 vn2 vc2, .slice va3 vn3 vc3] ∧ Box wx (w.heap.size + 1) 27 #[.bool false, .int .i64 0, .bool false, .int .i64 0] ∧ Box wx (w.heap.size + 2) 27 #[.bool (winFold (.mk kl kh khi kda ks)).p, .int .i64 (winFold (.mk kl kh khi kda ks)).f, .bool (winFold (.mk kl kh khi kda ks)).q, .int .i64 (winFold (.mk kl kh khi kda ks)).t] ∧ Below w.heap.size w wx)
  case first =>
    by_cases h0 : vn3 = 0
    case pos =>
      subst h0
      have HE : Hid (W4.nil = winFold (.mk kl kh khi kda ks)) := Lib.hid (winTo_all kl kh khi kda ks 0 (by have := HN.out; omega))
      go_wp2_with fail
      go_meet
      rw [← HE.out]
      exact ⟨rfl, V.out, X.out, G.out, B⟩
    case neg =>
      have h0p : (0 : Int) < vn3 := by omega
      by_cases h1 : vn3 = 1
      case pos =>
        subst h1
        obtain ⟨b, o, rfl, _⟩ := HROW.out.range (i := 0) (by omega)
        by_cases hc1 : vc3 = 1
        case pos =>
          subst hc1
          have HE : Hid (W4.nil = winFold (.mk kl kh khi kda ks)) := Lib.hid (winTo_all kl kh khi kda ks 0 (by have := HN.out; omega))
          go_wp2_with fail
          go_loopw [19] (fun i wr => i = .int .i64 0 ∧ wr = x0) (fun _ _ => 0)
          case atStart => exact ⟨rfl, rfl⟩
          case round =>
            obtain ⟨rfl, rfl⟩ := hrel
            go_wp2_with fail
            go_meet
            rw [← HE.out]
            exact ⟨rfl, V.out, X.out, G.out, B⟩
        case neg =>
          have hc2 : (1 : Int) < vc3 := by omega
          have HE : Hid (W4.nil = winFold (.mk kl kh khi kda ks)) := Lib.hid (winTo_all kl kh khi kda ks 0 (by have := HN.out; omega))
          go_wp2_with fail
          go_loopw [19] (fun i wr => i = .int .i64 0 ∧ wr = x0) (fun _ _ => 0)
          case atStart => exact ⟨rfl, rfl⟩
          case round =>
            obtain ⟨rfl, rfl⟩ := hrel
            go_wp2_with fail
            go_meet
            rw [← HE.out]
            exact ⟨rfl, V.out, X.out, G.out, B⟩
      case neg =>
        obtain ⟨b, o, rfl, _⟩ := HROW.out.range (i := 0) (by omega)
        have hc2 : (1 : Int) < vc3 := by omega
        have hn2 : (2 : Int) ≤ vn3 := by omega
        go_wp2_with fail
        go_loopw [19] (fun i wr => ∃ (k : Nat) (x : W4), k + 1 ≤ vn3 ∧ i = .int .i64 k ∧ Hid (x = winTo ks k) ∧ Box wr w.heap.size 37 #[.bool vl, .bool vh, .slice va1 vn1 vc1, .slice va2 vn2 vc2, .slice (some ⟨b, o, none⟩) vn3 vc3] ∧ Box wr (w.heap.size + 1) 27 #[.bool false, .int .i64 0, .bool false, .int .i64 0] ∧ Box wr (w.heap.size + 2) 27 #[.bool x.p, .int .i64 x.f, .bool x.q, .int .i64 x.t] ∧ Below w.heap.size w wr) (fun i _ => vn3 - (intOf i).toNat)
        case atStart => exact ⟨0, W4.nil, by omega, rfl, Lib.hid rfl, V.out, X.out, G.out, B⟩
        case round =>
          clear x4 V X G B
          obtain ⟨k, x, hk1, rfl, hx, V, X, G, B⟩ := hrel
          obtain ⟨xp, xf, xq, xt⟩ := x
          dsimp only at G
          replace V := Lib.hid V
          replace X := Lib.hid X
          replace G := Lib.hid G
          by_cases hlt : k + 1 < vn3
          case neg =>
            have hlt2 : ¬ (k : Int) < (vn3 : Int) - 1 := by omega
            have HE : Hid (W4.mk xp xf xq xt = winFold (.mk kl kh khi kda ks)) := Lib.hid (hx.out.trans (winTo_all kl kh khi kda ks k (by have := HN.out; omega)))
            go_wp2_with fail
            go_meet
            rw [← HE.out]
            exact ⟨rfl, V.out, X.out, G.out, B⟩
          case pos =>
            have hlt2 : (k : Int) < (vn3 : Int) - 1 := by omega
            have hkl : k + 1 < ks.length := by have := HN.out; omega
            have HWK : Hid ((ks[k + 1]'hkl).wide (mm + 1) = false) := Lib.hid (HW.out _ (List.getElem_mem hkl))
            have HTO := Lib.hid (winTo_snoc ks k hkl)
            have HRK := Lib.hid (HK.out (k + 1) hkl)
            obtain ⟨b', o', er, hld⟩ := (HROW.out.after B).range (i := k + 1) (by omega)
            cases er
            rw [← hx.out] at HTO
            clear hx
            generalize (ks[k + 1]'hkl) = kid at *
            rw [show o + (k + 1) * 5 = o + 5 + k * 5 by omega] at hld
            replace hld := Lib.hid hld
            obtain ⟨_, _, _, _, hn1, hnc1, hcm1, K1, hrow1, hk1⟩ := HRK.out.parts
            have HROW1 := Lib.hid hrow1
            have HK1 := Lib.hid hk1
            unfold maxLen at hcm1
            clear hrow1 hk1
            generalize (K (k + 1)) = kv at *
            obtain ⟨ul, uh, ua1, un1, uc1, ua2, un2, uc2, ua3, un3, uc3⟩ := kv
            replace hn1 : un3 = kid.ks.length := hn1
            replace hnc1 : un3 ≤ uc3 := hnc1
            replace hcm1 : uc3 ≤ 2 ^ 63 - 1 := hcm1
            replace HROW1 : Hid (RowAt w ua3 un3 uc3 K1) := HROW1
            have HN1 := Lib.hid hn1
            clear hn1
            go_upto_region 6 with first | (refine wpList_load_midW rfl 37 _ rfl b _ rfl _ _ hld.out Tryd.underlying37 rfl (by kernel_rfl) ?_) | (refine wpList_store_box (cells := #[.bool ul, .bool uh, .slice ua1 un1 uc1, .slice ua2 un2 uc2, .slice ua3 un3 uc3]) rfl 37 _ _ rfl (Box.new _ _ _) (by rfl) (by rfl) rfl (by kernel_rfl) (by simp [Value.oneCell']) ?_; intro u9 X9 st9)
            have bs1 : Below wr.heap.size wr u9 := st9.below wr.heap.size wr (Nat.le_refl _) ((Below.refl _ _).alloc (Nat.le_refl _) _)
            have Y6 := Lib.hid X9
            replace V := Lib.hid (V.out.after bs1)
            replace X := Lib.hid (X.out.after bs1)
            replace G := Lib.hid (G.out.after bs1)
            replace B := B.trans (bs1.mono B.size)
            clear bs1 st9 X9
            generalize u9 = x1 at *
            clear hld
            have y4 := Y6.out.cell 4 rfl
            by_cases h2 : un3 = 2
            case neg =>
              have q2 : ((un3 : Int) != 2) = true := by simp; omega
              have HS : Hid (W4.mk xp xf xq xt = winTo ks (k + 1)) := Lib.hid (by rw [HTO.out, winStep_n _ _ (by have := HN1.out; omega)])
              clear h2
              go_wp2_with fail
              go_roundw
              case rel => exact ⟨k + 1, ⟨xp, xf, xq, xt⟩, by omega, by go_num, HS, V.out, X.out, G.out, B⟩
              case measure => simp [intOf]; omega
            case pos =>
              subst h2
              obtain ⟨b1, o1, rfl, hl0⟩ := (HROW1.out.after B).range (i := 0) (by omega)
              obtain ⟨b1, o1, e1, hl1⟩ := (HROW1.out.after B).range (i := 1) (by omega)
              cases e1
              have c1 : x1.cell? ⟨b1, o1 + 8, none⟩ = some (.slice (K1 1).a2 (K1 1).n2 (K1 1).c2) := by have := hl1 3 _ rfl; rwa [show o1 + 1 * 5 + 3 = o1 + 8 by omega] at this
              clear hl0 hl1
              have HSD := Lib.hid ((HK1.out 1 (by have := HN1.out; omega)).parts.2.2.2.1.after B)
              have HS0 := Lib.hid ((HK1.out 0 (by have := HN1.out; omega)).parts.2.2.2.1)
              have HLE : Hid ((kid.ks[1]'(by have := HN1.out; omega)).da.length ≤ 5000) := Lib.hid (wide_no ((wide_no HWK.out).2.2.2.2 _ (List.getElem_mem _))).2.2.2.1
              have HS2 := Lib.hid (winStep_2 ⟨xp, xf, xq, xt⟩ kid HN1.out.symm)
              dsimp only at HS2
              rw [HS2.out] at HTO
              clear HS2
              generalize (kid.ks[1]'(by have := HN1.out; omega)).da = dl at *
              generalize (kid.ks[0]'(by have := HN1.out; omega)).da = wl at *
              have hny : w.heap.size + 2 < x1.heap.size := G.out.lt
              go_wp2_with fail
              refine (get_any _ _ _ dl x1 HSD.out (by have := HLE.out; omega)).mono ?_
              rintro e x2 ⟨rfl, bx2⟩
              replace V := Lib.hid (V.out.after bx2)
              replace X := Lib.hid (X.out.after bx2)
              replace G := Lib.hid (G.out.after bx2)
              replace Y6 := Lib.hid (Y6.out.after bx2)
              replace B := B.trans (bx2.mono B.size)
              clear bx2
              have y4 := Y6.out.cell 4 rfl
              have c0 : x2.cell? ⟨b1, o1 + 3, none⟩ = some (.slice (K1 0).a2 (K1 0).n2 (K1 0).c2) := by obtain ⟨b2, o2, e2, hl0⟩ := (HROW1.out.after B).range (i := 0) (by omega); cases e2; have := hl0 3 _ rfl; rwa [show o1 + 0 * 5 + 3 = o1 + 3 by omega] at this
              have hcv := conv_sl (HS0.out.after B)
              clear HSD
              have g0 := G.out.cell 0 rfl
              have g1 := G.out.cell 1 rfl
              have g2 := G.out.cell 2 rfl
              have g3 := G.out.cell 3 rfl
              have f0 := G.out.frozen 0
              have f1 := G.out.frozen 1
              have f2 := G.out.frozen 2
              have f3 := G.out.frozen 3
              generalize dateV dl = dn at *
              generalize dateOk dl = dk at *
              by_cases hb : wl = nbL
              case pos =>
                have HS : Hid (W4.mk dk dn xq xt = winTo ks (k + 1)) := Lib.hid (by rw [HTO.out, if_pos hb])
                have hwb : (wl == [110, 111, 116, 45, 98, 101, 102, 111, 114, 101]) = true := (beq_iff_eq.2 hb)
                clear hb
                go_upto_region 13 with fail
                have G8 : Box ((x2.setCell ⟨w.heap.size + 2, 0, none⟩ (.bool dk)).setCell ⟨w.heap.size + 2, 1, none⟩ (.int .i64 dn)) (w.heap.size + 2) 27 #[.bool (W4.mk dk dn xq xt).p, .int .i64 (W4.mk dk dn xq xt).f, .bool (W4.mk dk dn xq xt).q, .int .i64 (W4.mk dk dn xq xt).t] := (G.out.set 0 _).set 1 _
                have V8 : Box ((x2.setCell ⟨w.heap.size + 2, 0, none⟩ (.bool dk)).setCell ⟨w.heap.size + 2, 1, none⟩ (.int .i64 dn)) w.heap.size 37 #[.bool vl, .bool vh, .slice va1 vn1 vc1, .slice va2 vn2 vc2, .slice (some ⟨b, o, none⟩) vn3 vc3] := (V.out.far ⟨w.heap.size + 2, 0, none⟩ _ (by show w.heap.size ≠ w.heap.size + 2; omega)).far ⟨w.heap.size + 2, 1, none⟩ _ (by show w.heap.size ≠ w.heap.size + 2; omega)
                have X8 : Box ((x2.setCell ⟨w.heap.size + 2, 0, none⟩ (.bool dk)).setCell ⟨w.heap.size + 2, 1, none⟩ (.int .i64 dn)) (w.heap.size + 1) 27 #[.bool false, .int .i64 0, .bool false, .int .i64 0] := (X.out.far ⟨w.heap.size + 2, 0, none⟩ _ (by show w.heap.size + 1 ≠ w.heap.size + 2; omega)).far ⟨w.heap.size + 2, 1, none⟩ _ (by show w.heap.size + 1 ≠ w.heap.size + 2; omega)
                have B8 : Below w.heap.size w ((x2.setCell ⟨w.heap.size + 2, 0, none⟩ (.bool dk)).setCell ⟨w.heap.size + 2, 1, none⟩ (.int .i64 dn)) := (B.setCell (p := ⟨w.heap.size + 2, 0, none⟩) (by show w.heap.size ≤ w.heap.size + 2; omega) _).setCell (p := ⟨w.heap.size + 2, 1, none⟩) (by show w.heap.size ≤ w.heap.size + 2; omega) _
                clear g0 g1 g2 g3 f0 f1 f2 f3 y4 c0 V X G B Y6 hcv
                generalize ((x2.setCell ⟨w.heap.size + 2, 0, none⟩ (.bool dk)).setCell ⟨w.heap.size + 2, 1, none⟩ (.int .i64 dn)) = u8 at *
                have V := Lib.hid V8
                have X := Lib.hid X8
                have G := Lib.hid G8
                have B := B8
                clear V8 X8 G8 B8
                go_wp2_with fail
                go_roundw
                case rel => exact ⟨k + 1, (W4.mk dk dn xq xt), by omega, by go_num, HS, V.out, X.out, G.out, B⟩
                case measure => simp [intOf]; omega
              case neg =>
                have hwb : (wl == [110, 111, 116, 45, 98, 101, 102, 111, 114, 101]) = false := (beq_eq_false_iff_ne.2 hb)
                by_cases ha : wl = naL
                case pos =>
                  have HS : Hid (W4.mk xp xf dk dn = winTo ks (k + 1)) := Lib.hid (by rw [HTO.out, if_neg hb, if_pos ha])
                  have hwa : (wl == [110, 111, 116, 45, 97, 102, 116, 101, 114]) = true := (beq_iff_eq.2 ha)
                  clear ha hb
                  go_upto_region 13 with fail
                  have G8 : Box ((x2.setCell ⟨w.heap.size + 2, 2, none⟩ (.bool dk)).setCell ⟨w.heap.size + 2, 3, none⟩ (.int .i64 dn)) (w.heap.size + 2) 27 #[.bool (W4.mk xp xf dk dn).p, .int .i64 (W4.mk xp xf dk dn).f, .bool (W4.mk xp xf dk dn).q, .int .i64 (W4.mk xp xf dk dn).t] := (G.out.set 2 _).set 3 _
                  have V8 : Box ((x2.setCell ⟨w.heap.size + 2, 2, none⟩ (.bool dk)).setCell ⟨w.heap.size + 2, 3, none⟩ (.int .i64 dn)) w.heap.size 37 #[.bool vl, .bool vh, .slice va1 vn1 vc1, .slice va2 vn2 vc2, .slice (some ⟨b, o, none⟩) vn3 vc3] := (V.out.far ⟨w.heap.size + 2, 2, none⟩ _ (by show w.heap.size ≠ w.heap.size + 2; omega)).far ⟨w.heap.size + 2, 3, none⟩ _ (by show w.heap.size ≠ w.heap.size + 2; omega)
                  have X8 : Box ((x2.setCell ⟨w.heap.size + 2, 2, none⟩ (.bool dk)).setCell ⟨w.heap.size + 2, 3, none⟩ (.int .i64 dn)) (w.heap.size + 1) 27 #[.bool false, .int .i64 0, .bool false, .int .i64 0] := (X.out.far ⟨w.heap.size + 2, 2, none⟩ _ (by show w.heap.size + 1 ≠ w.heap.size + 2; omega)).far ⟨w.heap.size + 2, 3, none⟩ _ (by show w.heap.size + 1 ≠ w.heap.size + 2; omega)
                  have B8 : Below w.heap.size w ((x2.setCell ⟨w.heap.size + 2, 2, none⟩ (.bool dk)).setCell ⟨w.heap.size + 2, 3, none⟩ (.int .i64 dn)) := (B.setCell (p := ⟨w.heap.size + 2, 2, none⟩) (by show w.heap.size ≤ w.heap.size + 2; omega) _).setCell (p := ⟨w.heap.size + 2, 3, none⟩) (by show w.heap.size ≤ w.heap.size + 2; omega) _
                  clear g0 g1 g2 g3 f0 f1 f2 f3 y4 c0 V X G B Y6 hcv
                  generalize ((x2.setCell ⟨w.heap.size + 2, 2, none⟩ (.bool dk)).setCell ⟨w.heap.size + 2, 3, none⟩ (.int .i64 dn)) = u8 at *
                  have V := Lib.hid V8
                  have X := Lib.hid X8
                  have G := Lib.hid G8
                  have B := B8
                  clear V8 X8 G8 B8
                  go_wp2_with fail
                  go_roundw
                  case rel => exact ⟨k + 1, (W4.mk xp xf dk dn), by omega, by go_num, HS, V.out, X.out, G.out, B⟩
                  case measure => simp [intOf]; omega
                case neg =>
                  have hwa : (wl == [110, 111, 116, 45, 97, 102, 116, 101, 114]) = false := (beq_eq_false_iff_ne.2 ha)
                  have HS : Hid (W4.mk xp xf xq xt = winTo ks (k + 1)) := Lib.hid (by rw [HTO.out, if_neg hb, if_neg ha])
                  clear ha hb
                  go_wp2_with fail
                  go_roundw
                  case rel => exact ⟨k + 1, ⟨xp, xf, xq, xt⟩, by omega, by go_num, HS, V.out, X.out, G.out, B⟩
                  case measure => simp [intOf]; omega
  case rest =>
    clear x4 V X G B
    obtain ⟨rfl, V, X, G, B⟩ := hcut
    replace V := Lib.hid V
    replace X := Lib.hid X
    replace G := Lib.hid G
    have HWG : Hid (winGet (.mk kl kh khi kda ks) = if (winFold (.mk kl kh khi kda ks)).may && (winS (winFold (.mk kl kh khi kda ks))).same (.mk kl kh khi kda ks) then some (winFold (.mk kl kh khi kda ks)) else none) := Lib.hid rfl
    generalize (winFold (.mk kl kh khi kda ks)) = x at *
    go_wp2_with (refine wpList_load_box rfl 27 _ rfl G.out (by rfl) Tryd.underlying27 rfl (by kernel_rfl) ?_)
    refine (winPut_any x.p x.f x.q x.t wc).mono ?_
    rintro e z1 hP
    replace hP : WinP x _ _ _ := hP
    obtain ⟨⟨tl, th, ta1, tn1, tc1, ta2, tn2, tc2, ta3, tn3, tc3⟩, er, rfl, rt, hk, bz1⟩ := hP.out
    clear hP
    have HKK := Lib.hid hk
    clear hk
    replace rt := Lib.hid rt
    replace V := Lib.hid (V.out.after bz1)
    replace X := Lib.hid (X.out.after bz1)
    replace G := Lib.hid (G.out.after bz1)
    replace B := B.trans (bz1.mono B.size)
    clear bz1
    go_upto_region 15 with (refine wpList_store_box (cells := #[.bool tl, .bool th, .slice ta1 tn1 tc1, .slice ta2 tn2 tc2, .slice ta3 tn3 tc3]) rfl 37 _ _ rfl (Box.new _ _ _) (by rfl) (by rfl) rfl (by kernel_rfl) (by simp [Value.oneCell']) ?_; intro u9 X9 st9)
    have bs1 : Below z1.heap.size z1 u9 := st9.below z1.heap.size z1 (Nat.le_refl _) ((Below.refl _ _).alloc (Nat.le_refl _) _)
    have Y9 := Lib.hid X9
    replace V := Lib.hid (V.out.after bs1)
    replace X := Lib.hid (X.out.after bs1)
    replace G := Lib.hid (G.out.after bs1)
    replace rt := Lib.hid (rt.out.after bs1)
    replace B := B.trans (bs1.mono B.size)
    clear bs1 st9 X9
    generalize u9 = x1 at *
    rcases HKK.out with ⟨rfl, hk⟩ | ⟨rfl, hk⟩
    · skip
      replace hk := Lib.hid hk
      clear HKK
      rw [hk.out] at rt
      replace rt : Hid (RdI _ _ _ (winS x)) := rt
      have HS := Lib.hid (fun w' h1 h2 => same_any (winS x) (.mk kl kh khi kda ks) ⟨tl, th, ta1, tn1, tc1, ta2, tn2, tc2, ta3, tn3, tc3⟩ ⟨vl, vh, va1, vn1, vc1, va2, vn2, vc2, va3, vn3, vc3⟩ w' h1 h2)
      obtain ⟨r, hr⟩ : ∃ r, r = (winS x).same (.mk kl kh khi kda ks) := ⟨_, rfl⟩
      simp only [← hr] at HS
      have HRR := Lib.hid hr
      clear hr
      go_wp2_with first | (refine wpList_load_box rfl 37 _ rfl V.out (by rfl) Tryd.underlying37 rfl (by kernel_rfl) ?_) | (refine wpList_load_box rfl 37 _ rfl Y9.out (by rfl) Tryd.underlying37 rfl (by kernel_rfl) ?_)
      refine (HS.out x1 (rt.out.mono (fun _ _ => trivial)) (HRV.out.after B)).mono ?_
      rintro e x2 ⟨rfl, bx2⟩
      replace V := Lib.hid (V.out.after bx2)
      replace X := Lib.hid (X.out.after bx2)
      replace G := Lib.hid (G.out.after bx2)
      replace rt := Lib.hid (rt.out.after bx2)
      replace Y9 := Lib.hid (Y9.out.after bx2)
      replace B := B.trans (bx2.mono B.size)
      clear bx2
      clear HS rt Y9
      cases r with
      | false =>
        have HF : Hid (winGet (.mk kl kh khi kda ks) = none) := Lib.hid (by rw [HWG.out]; rw [hk.out, ← HRR.out]; rfl)
        go_wp2_with (refine wpList_store_box (cells := #[.bool false, .int .i64 0, .bool false, .int .i64 0]) rfl 27 _ _ rfl X.out (by rfl) (by rfl) rfl (by kernel_rfl) (by simp [Value.oneCell']) ?_; intro u9 X9 st9)
        have B9 := st9.below w.heap.size w (by omega) B
        exact bodyPost_ret (v := .tuple #[.agg #[.bool false, .int .i64 0, .bool false, .int .i64 0], .int .i64 11]) (box_result2 (p := 2) (q := 3) rfl _ _ (by rfl) X9 Tryd.underlying27 rfl (by kernel_rfl)) rfl (.inr ⟨HF.out, rfl, B9⟩)
      | true =>
        have HF : Hid (winGet (.mk kl kh khi kda ks) = some x) := Lib.hid (by rw [HWG.out, hk.out, ← HRR.out]; rfl)
        go_wp2_with first | (refine wpList_load_box rfl 27 _ rfl G.out (by rfl) Tryd.underlying27 rfl (by kernel_rfl) ?_) | (refine wpList_store_box (cells := #[.bool x.p, .int .i64 x.f, .bool x.q, .int .i64 x.t]) rfl 27 _ _ rfl X.out (by rfl) (by rfl) rfl (by kernel_rfl) (by simp [Value.oneCell']) ?_; intro u9 X9 st9)
        have B9 := st9.below w.heap.size w (by omega) B
        exact bodyPost_ret (v := .tuple #[.agg #[.bool x.p, .int .i64 x.f, .bool x.q, .int .i64 x.t], .int .i64 0]) (box_result2 (p := 2) (q := 3) rfl _ _ (by rfl) X9 Tryd.underlying27 rfl (by kernel_rfl)) rfl (.inl ⟨x, HF.out, rfl, B9⟩)
    · skip
      replace hk := Lib.hid hk
      clear HKK rt
      have HF : Hid (winGet (.mk kl kh khi kda ks) = none) := Lib.hid (by rw [HWG.out]; rw [hk.out]; rfl)
      go_wp2_with (refine wpList_store_box (cells := #[.bool false, .int .i64 0, .bool false, .int .i64 0]) rfl 27 _ _ rfl X.out (by rfl) (by rfl) rfl (by kernel_rfl) (by simp [Value.oneCell']) ?_; intro u9 X9 st9)
      have B9 := st9.below w.heap.size w (by omega) B
      exact bodyPost_ret (v := .tuple #[.agg #[.bool false, .int .i64 0, .bool false, .int .i64 0], .int .i64 11]) (box_result2 (p := 2) (q := 3) rfl _ _ (by rfl) X9 Tryd.underlying27 rfl (by kernel_rfl)) rfl (.inr ⟨HF.out, rfl, B9⟩)

end Go.Proofs.YticjhogofoffmaaDoor

/- The document's Same of lists; the program's May of lists. -/
import Derived.Test.YticjhogofoffmaaDoorCrM
import Derived.Test.YticjhogofoffmaaDoorCrL
namespace Go.Proofs.YticjhogofoffmaaDoor
open Go.RowKit
set_option linter.unusedSimpArgs false
set_option linter.unusedVariables false

def W4.same (x y : W4) : Bool := x.p == y.p && (x.f == y.f && (x.q == y.q && x.t == y.t))
def Cr.same (c d : Cr) : Bool := keySame c.s c.l d.s d.l && (c.x.same d.x && c.ls == d.ls)
theorem Cr.same_refl (c : Cr) : c.same c = true := by simp [Cr.same, keySame, W4.same]
theorem take_more {ls ls2 : List (List UInt8)} {k : Nat} (h : k < ls.length) (h2 : k < ls2.length) (e : ls.take k = ls2.take k) (e2 : ls[k] = ls2[k]) : ls.take (k + 1) = ls2.take (k + 1) := by
  rw [List.take_succ_eq_append_getElem h, List.take_succ_eq_append_getElem h2, e, e2]

set_option maxHeartbeats 8000000 in
set_option maxRecDepth 100000 in
theorem refCrlSame_any (s : Bool) (ka : Option Addr) (kn kc : Nat) (l : List UInt8) (a : Option Addr) (n c : Nat) (Z : Nat → S3) (ls : List (List UInt8)) (p : Bool) (f : Int) (q : Bool) (t : Int)
    (s2 : Bool) (ka2 : Option Addr) (kn2 kc2 : Nat) (l2 : List UInt8) (a2 : Option Addr) (n2 c2 : Nat) (Z2 : Nat → S3) (ls2 : List (List UInt8)) (p2 : Bool) (f2 : Int) (q2 : Bool) (t2 : Int) (w : World)
    (hs : Sl w ka kn kc l) (hr : RowS w a n c Z ls) (hs2 : Sl w ka2 kn2 kc2 l2) (hr2 : RowS w a2 n2 c2 Z2 ls2) :
    Calls Tryd.prog 15 #[.agg #[.bool s, .slice ka kn kc, .slice a n c, .bool p, .int .i64 f, .bool q, .int .i64 t], .agg #[.bool s2, .slice ka2 kn2 kc2, .slice a2 n2 c2, .bool p2, .int .i64 f2, .bool q2, .int .i64 t2]] w fun e w' => e = .returned (.bool ((Cr.mk s l ls ⟨p, f, q, t⟩).same ⟨s2, l2, ls2, ⟨p2, f2, q2, t2⟩⟩)) ∧ Below w.heap.size w w' := by
  have HR := Lib.hid hr
  have HR2 := Lib.hid hr2
  have HN := Lib.hid hr.2.2.2.1
  have HN2 := Lib.hid hr2.2.2.2.1
  have hle : n ≤ c := hr.1
  have hcm : c ≤ maxLen := hr.2.1
  have hle2 : n2 ≤ c2 := hr2.1
  have hcm2 : c2 ≤ maxLen := hr2.2.1
  unfold maxLen at hcm hcm2
  have HC := Lib.hid (show (Cr.mk s l ls ⟨p, f, q, t⟩).same ⟨s2, l2, ls2, ⟨p2, f2, q2, t2⟩⟩ = (keySame s l s2 l2 && ((p == p2 && (f == f2 && (q == q2 && t == t2))) && ls == ls2)) from rfl)
  generalize (Cr.mk s l ls ⟨p, f, q, t⟩).same ⟨s2, l2, ls2, ⟨p2, f2, q2, t2⟩⟩ = R at *
  have C := Lib.hid (fun w' h1 h2 => refKeySame_any s ka kn kc l s2 ka2 kn2 kc2 l2 w' h1 h2)
  generalize keySame s l s2 l2 = r1 at *
  have HS := Lib.hid hs
  have HS2 := Lib.hid hs2
  have B : Below w.heap.size w ((w.alloc (.cells #[.bool s, .slice ka kn kc, .slice a n c, .bool p, .int .i64 f, .bool q, .int .i64 t] 29)).alloc (.cells #[.bool s2, .slice ka2 kn2 kc2, .slice a2 n2 c2, .bool p2, .int .i64 f2, .bool q2, .int .i64 t2] 29)) := ((Below.refl _ _).alloc (Nat.le_refl _) _).alloc (by simp) _
  have V : Hid (Box ((w.alloc (.cells #[.bool s, .slice ka kn kc, .slice a n c, .bool p, .int .i64 f, .bool q, .int .i64 t] 29)).alloc (.cells #[.bool s2, .slice ka2 kn2 kc2, .slice a2 n2 c2, .bool p2, .int .i64 f2, .bool q2, .int .i64 t2] 29)) w.heap.size 29 #[.bool s, .slice ka kn kc, .slice a n c, .bool p, .int .i64 f, .bool q, .int .i64 t]) := Lib.hid ((Box.new _ _ _).alloc _)
  have X : Hid (Box ((w.alloc (.cells #[.bool s, .slice ka kn kc, .slice a n c, .bool p, .int .i64 f, .bool q, .int .i64 t] 29)).alloc (.cells #[.bool s2, .slice ka2 kn2 kc2, .slice a2 n2 c2, .bool p2, .int .i64 f2, .bool q2, .int .i64 t2] 29)) (w.heap.size + 1) 29 #[.bool s2, .slice ka2 kn2 kc2, .slice a2 n2 c2, .bool p2, .int .i64 f2, .bool q2, .int .i64 t2]) := Lib.hid (by
    have := Box.new (w.alloc (.cells #[.bool s, .slice ka kn kc, .slice a n c, .bool p, .int .i64 f, .bool q, .int .i64 t] 29)) 29 #[.bool s2, .slice ka2 kn2 kc2, .slice a2 n2 c2, .bool p2, .int .i64 f2, .bool q2, .int .i64 t2]
    simpa using this)
  clear hr hr2 hs hs2
  go_enter Tryd.func15, Tryd.ntmps15
  go_upto_region 1 with fail
  change Code.wp _ _ _ _ ((w.alloc (.cells #[.bool s, .slice ka kn kc, .slice a n c, .bool p, .int .i64 f, .bool q, .int .i64 t] 29)).alloc (.cells #[.bool s2, .slice ka2 kn2 kc2, .slice a2 n2 c2, .bool p2, .int .i64 f2, .bool q2, .int .i64 t2] 29))
  generalize ((w.alloc (.cells #[.bool s, .slice ka kn kc, .slice a n c, .bool p, .int .i64 f, .bool q, .int .i64 t] 29)).alloc (.cells #[.bool s2, .slice ka2 kn2 kc2, .slice a2 n2 c2, .bool p2, .int .i64 f2, .bool q2, .int .i64 t2] 29)) = x0 at *
  go_wp2_with first | (refine wpList_load_midG 24 _ rfl w.heap.size 0 rfl [.bool s, .slice ka kn kc] _ (Box.mid V.out 0 _ (mid2 rfl rfl)) Tryd.underlying24 rfl (by kernel_rfl) rfl ?_) | (refine wpList_load_midG 24 _ rfl (w.heap.size + 1) 0 rfl [.bool s2, .slice ka2 kn2 kc2] _ (Box.mid X.out 0 _ (mid2 rfl rfl)) Tryd.underlying24 rfl (by kernel_rfl) rfl ?_)
  refine (C.out x0 (HS.out.after B) (HS2.out.after B)).mono ?_
  rintro e x1 ⟨rfl, bx1⟩
  replace V := Lib.hid (V.out.after bx1)
  replace X := Lib.hid (X.out.after bx1)
  replace B := B.trans (bx1.mono B.size)
  clear bx1
  cases r1 with
  | false =>
    have HF : Hid (R = false) := Lib.hid (by rw [HC.out]; rfl)
    go_upto_region 2 with fail
    go_wp2_with fail
    go_ret
    exact ⟨by rw [HF.out]; rfl, B⟩
  | true =>
    have x2 := V.out.cell 2 rfl
    have y2 := X.out.cell 2 rfl
    by_cases hp : p = p2
    case neg =>
      have ep : (p == p2) = false := by simp [hp]
      have Ep := Lib.hid ep
      clear hp
      have HF : Hid (R = false) := Lib.hid (by rw [HC.out, Ep.out]; simp)
      go_upto_region 2 with first | (refine wpList_load_midG 27 _ rfl w.heap.size 3 rfl [.bool p, .int .i64 f, .bool q, .int .i64 t] _ (Box.mid V.out 3 _ (mid4 rfl rfl rfl rfl)) Tryd.underlying27 rfl (by kernel_rfl) rfl ?_) | (refine wpList_load_midG 27 _ rfl (w.heap.size + 1) 3 rfl [.bool p2, .int .i64 f2, .bool q2, .int .i64 t2] _ (Box.mid X.out 3 _ (mid4 rfl rfl rfl rfl)) Tryd.underlying27 rfl (by kernel_rfl) rfl ?_)
      go_wp2_with fail
      go_ret
      exact ⟨by rw [HF.out]; rfl, B⟩
    case pos =>
      have ep : (p == p2) = true := by simp [hp]
      have Ep := Lib.hid ep
      clear hp
      by_cases hf : f = f2
      case neg =>
        have ef : (f == f2) = false := by simp [hf]
        have Ef := Lib.hid ef
        clear hf
        have HF : Hid (R = false) := Lib.hid (by rw [HC.out, Ef.out]; simp)
        go_upto_region 2 with first | (refine wpList_load_midG 27 _ rfl w.heap.size 3 rfl [.bool p, .int .i64 f, .bool q, .int .i64 t] _ (Box.mid V.out 3 _ (mid4 rfl rfl rfl rfl)) Tryd.underlying27 rfl (by kernel_rfl) rfl ?_) | (refine wpList_load_midG 27 _ rfl (w.heap.size + 1) 3 rfl [.bool p2, .int .i64 f2, .bool q2, .int .i64 t2] _ (Box.mid X.out 3 _ (mid4 rfl rfl rfl rfl)) Tryd.underlying27 rfl (by kernel_rfl) rfl ?_)
        go_wp2_with fail
        go_ret
        exact ⟨by rw [HF.out]; rfl, B⟩
      case pos =>
        have ef : (f == f2) = true := by simp [hf]
        have Ef := Lib.hid ef
        clear hf
        by_cases hq : q = q2
        case neg =>
          have eq : (q == q2) = false := by simp [hq]
          have Eq := Lib.hid eq
          clear hq
          have HF : Hid (R = false) := Lib.hid (by rw [HC.out, Eq.out]; simp)
          go_upto_region 2 with first | (refine wpList_load_midG 27 _ rfl w.heap.size 3 rfl [.bool p, .int .i64 f, .bool q, .int .i64 t] _ (Box.mid V.out 3 _ (mid4 rfl rfl rfl rfl)) Tryd.underlying27 rfl (by kernel_rfl) rfl ?_) | (refine wpList_load_midG 27 _ rfl (w.heap.size + 1) 3 rfl [.bool p2, .int .i64 f2, .bool q2, .int .i64 t2] _ (Box.mid X.out 3 _ (mid4 rfl rfl rfl rfl)) Tryd.underlying27 rfl (by kernel_rfl) rfl ?_)
          go_wp2_with fail
          go_ret
          exact ⟨by rw [HF.out]; rfl, B⟩
        case pos =>
          have eq : (q == q2) = true := by simp [hq]
          have Eq := Lib.hid eq
          clear hq
          by_cases ht : t = t2
          case neg =>
            have et : (t == t2) = false := by simp [ht]
            have Et := Lib.hid et
            clear ht
            have HF : Hid (R = false) := Lib.hid (by rw [HC.out, Et.out]; simp)
            go_upto_region 2 with first | (refine wpList_load_midG 27 _ rfl w.heap.size 3 rfl [.bool p, .int .i64 f, .bool q, .int .i64 t] _ (Box.mid V.out 3 _ (mid4 rfl rfl rfl rfl)) Tryd.underlying27 rfl (by kernel_rfl) rfl ?_) | (refine wpList_load_midG 27 _ rfl (w.heap.size + 1) 3 rfl [.bool p2, .int .i64 f2, .bool q2, .int .i64 t2] _ (Box.mid X.out 3 _ (mid4 rfl rfl rfl rfl)) Tryd.underlying27 rfl (by kernel_rfl) rfl ?_)
            go_wp2_with fail
            go_ret
            exact ⟨by rw [HF.out]; rfl, B⟩
          case pos =>
            have et : (t == t2) = true := by simp [ht]
            have Et := Lib.hid et
            clear ht
            have HC2 : Hid (R = (ls == ls2)) := Lib.hid (by rw [HC.out, Ep.out, Ef.out, Eq.out, Et.out]; simp)
            by_cases hn : n = n2
            case neg =>
              have hq1 : ((n : Int) != n2) = true := by simp; omega
              have HF : Hid (R = false) := Lib.hid (by rw [HC2.out]; exact beq_eq_false_iff_ne.2 (fun h => by have h1 := HN.out; have h2 := HN2.out; rw [h] at h1; omega))
              clear hn
              go_upto_region 2 with first | (refine wpList_load_midG 27 _ rfl w.heap.size 3 rfl [.bool p, .int .i64 f, .bool q, .int .i64 t] _ (Box.mid V.out 3 _ (mid4 rfl rfl rfl rfl)) Tryd.underlying27 rfl (by kernel_rfl) rfl ?_) | (refine wpList_load_midG 27 _ rfl (w.heap.size + 1) 3 rfl [.bool p2, .int .i64 f2, .bool q2, .int .i64 t2] _ (Box.mid X.out 3 _ (mid4 rfl rfl rfl rfl)) Tryd.underlying27 rfl (by kernel_rfl) rfl ?_)
              go_wp2_with fail
              go_ret
              exact ⟨by rw [HF.out]; rfl, B⟩
            case pos =>
              have hq1 : ((n : Int) != n2) = false := by simp; omega
              have HNN := Lib.hid hn
              clear hn
              go_upto_region 3 with first | (refine wpList_load_midG 27 _ rfl w.heap.size 3 rfl [.bool p, .int .i64 f, .bool q, .int .i64 t] _ (Box.mid V.out 3 _ (mid4 rfl rfl rfl rfl)) Tryd.underlying27 rfl (by kernel_rfl) rfl ?_) | (refine wpList_load_midG 27 _ rfl (w.heap.size + 1) 3 rfl [.bool p2, .int .i64 f2, .bool q2, .int .i64 t2] _ (Box.mid X.out 3 _ (mid4 rfl rfl rfl rfl)) Tryd.underlying27 rfl (by kernel_rfl) rfl ?_)
              have x2 := V.out.cell 2 rfl
              go_wp2_with fail
              go_loopw [31] (fun i wr => ∃ k : Nat, k ≤ n ∧ i = .int .i64 k ∧ Hid (ls.take k = ls2.take k) ∧ Below x1.heap.size x1 wr) (fun i _ => n - (intOf i).toNat)
              case atStart => exact ⟨0, Nat.zero_le _, rfl, Lib.hid rfl, Below.refl _ _⟩
              case round =>
                obtain ⟨k, hk, rfl, heq, hb⟩ := hrel
                replace B := B.trans (hb.mono B.size)
                replace V := Lib.hid (V.out.after hb)
                replace X := Lib.hid (X.out.after hb)
                clear x2 y2
                by_cases hlt : k < n
                case neg =>
                  have hlt2 : ¬ (k : Int) < n := by omega
                  have HF : Hid (R = true) := Lib.hid (by rw [HC2.out]; have h1 := HN.out; have h2 := HN2.out; have h3 := HNN.out; have h4 := heq.out; rw [List.take_of_length_le (by omega), List.take_of_length_le (by omega)] at h4; rw [h4]; simp)
                  go_wp2_with fail
                  go_ret
                  exact ⟨by rw [HF.out]; rfl, B⟩
                case pos =>
                  obtain ⟨b, o, rfl, hcl⟩ := (HR.out.after B).cellS hlt
                  obtain ⟨b2, o2, rfl, hcl2⟩ := (HR2.out.after B).cellS (show k < n2 by have := HNN.out; omega)
                  have hkl : k < ls.length := by have := HN.out; omega
                  have hkl2 : k < ls2.length := by have := HN2.out; have := HNN.out; omega
                  have HZ := Lib.hid ((HR.out.2.2.2.2.2 k hkl).after B)
                  have HZ2 := Lib.hid ((HR2.out.2.2.2.2.2 k hkl2).after B)
                  obtain ⟨r, hrr⟩ : ∃ r, r = !(ls[k]'hkl == ls2[k]'hkl2) := ⟨_, rfl⟩
                  have hbl : b < wr.heap.size := cell_lt hcl
                  have hbl2 : b2 < wr.heap.size := cell_lt hcl2
                  have hk0 : (0 : Int) ≤ k := by omega
                  have hk1 : (k : Int) < n := by omega
                  have hk2 : (k : Int) < n2 := by have := HNN.out; omega
                  have hlt2 : k < n2 := by have := HNN.out; omega
                  go_upto_region 6 with fail
                  refine wp_region_made wr.heap.size wr rfl (by kernel_rfl) (Below.refl _ _) ?_
                  refine wpQ_run rfl (.pointer (some ⟨w.heap.size, 2, none⟩)) (fun w' hw => by simp [go_sem]) ?_
                  simp only [Act.put, List.setIfInBounds_toArray, List.set_cons_zero, List.set_cons_succ]
                  refine wpQ_run rfl (.slice (some ⟨b, o, none⟩) n c) (fun w' hw => by have := (V.out.after hw).cell 2 rfl; simp [go_sem, this]) ?_
                  simp only [Act.put, List.setIfInBounds_toArray, List.set_cons_zero, List.set_cons_succ]
                  refine wpQ_run rfl (.int .i64 k) (fun w' hw => by simp [go_sem]) ?_
                  simp only [Act.put, List.setIfInBounds_toArray, List.set_cons_zero, List.set_cons_succ]
                  refine wpQ_run rfl (.pointer (some ⟨b, o + k, none⟩)) (fun w' hw => by simp [go_sem, hk0, hk1, hlt]) ?_
                  simp only [Act.put, List.setIfInBounds_toArray, List.set_cons_zero, List.set_cons_succ]
                  refine wpQ_run rfl (.slice (Z k).a (Z k).n (Z k).c) (fun w' hw => by have := (World.cell?_of_block (a := ⟨b, o + k, none⟩) (hw.block b hbl)).trans hcl; simp [go_sem, this]) ?_
                  simp only [Act.put, List.setIfInBounds_toArray, List.set_cons_zero, List.set_cons_succ]
                  refine wpQ_run rfl ((.string ⟨(ls[k]'hkl).toArray⟩)) (fun w' hw => by have := conv_sl (HZ.out.after hw); simp [go_sem, this]) ?_
                  simp only [Act.put, List.setIfInBounds_toArray, List.set_cons_zero, List.set_cons_succ]
                  refine wpQ_run rfl (.pointer (some ⟨w.heap.size + 1, 2, none⟩)) (fun w' hw => by simp [go_sem]) ?_
                  simp only [Act.put, List.setIfInBounds_toArray, List.set_cons_zero, List.set_cons_succ]
                  refine wpQ_run rfl (.slice (some ⟨b2, o2, none⟩) n2 c2) (fun w' hw => by have := (X.out.after hw).cell 2 rfl; simp [go_sem, this]) ?_
                  simp only [Act.put, List.setIfInBounds_toArray, List.set_cons_zero, List.set_cons_succ]
                  refine wpQ_run rfl (.int .i64 k) (fun w' hw => by simp [go_sem]) ?_
                  simp only [Act.put, List.setIfInBounds_toArray, List.set_cons_zero, List.set_cons_succ]
                  refine wpQ_run rfl (.pointer (some ⟨b2, o2 + k, none⟩)) (fun w' hw => by simp [go_sem, hk0, hk2, hlt2]) ?_
                  simp only [Act.put, List.setIfInBounds_toArray, List.set_cons_zero, List.set_cons_succ]
                  refine wpQ_run rfl (.slice (Z2 k).a (Z2 k).n (Z2 k).c) (fun w' hw => by have := (World.cell?_of_block (a := ⟨b2, o2 + k, none⟩) (hw.block b2 hbl2)).trans hcl2; simp [go_sem, this]) ?_
                  simp only [Act.put, List.setIfInBounds_toArray, List.set_cons_zero, List.set_cons_succ]
                  refine wpQ_run rfl ((.string ⟨(ls2[k]'hkl2).toArray⟩)) (fun w' hw => by have := conv_sl (HZ2.out.after hw); simp [go_sem, this]) ?_
                  simp only [Act.put, List.setIfInBounds_toArray, List.set_cons_zero, List.set_cons_succ]
                  refine wpQ_run rfl (.bool r) (fun w' hw => by rw [hrr]; simp [go_sem]; try rfl) ?_
                  simp only [Act.put, List.setIfInBounds_toArray, List.set_cons_zero, List.set_cons_succ]
                  intro w1 hb1
                  replace hrr := Lib.hid hrr
                  have B1 := B.trans (hb1.mono B.size)
                  have D1 := hb.trans (hb1.mono hb.size)
                  clear HZ HZ2 V X B hb hb1 hcl hcl2
                  cases r with
                  | true =>
                    have HF : Hid (R = false) := Lib.hid (by rw [HC2.out]; refine beq_eq_false_iff_ne.2 (fun h => ?_); subst h; have := hrr.out; simp at this)
                    go_wp2_with fail
                    go_ret
                    exact ⟨by rw [HF.out]; rfl, B1⟩
                  | false =>
                    go_wp2_with fail
                    go_roundw
                    case rel => exact ⟨k + 1, by omega, by go_num, Lib.hid (take_more hkl hkl2 heq.out (by have := hrr.out; simpa using this)), D1⟩
                    case measure => simp [intOf]; omega

set_option maxHeartbeats 8000000 in
set_option maxRecDepth 100000 in
theorem crlMay_any (s : Bool) (a : Option Addr) (n c : Nat) (l : List UInt8) (sa : Option Addr) (sn sc : Nat) (Z : Nat → S3) (ls : List (List UInt8)) (p : Bool) (f : Int) (q : Bool) (t : Int) (w : World) (hs : Sl w a n c l) (hn : n ≤ 100000) (hr : RowS w sa sn sc Z ls) (hl : ∀ l ∈ ls, l.length ≤ 100000) (ht : Tab w) : Calls Tryd.prog 20 #[.agg #[.bool s, .slice a n c, .slice sa sn sc, .bool p, .int .i64 f, .bool q, .int .i64 t]] w fun e w' => e = .returned (.bool (Cr.mk s l ls ⟨p, f, q, t⟩).may) ∧ Below w.heap.size w w' := by
  have C := Lib.hid (fun w' h1 h2 h3 => crlPut_any s a n c l sa sn sc Z ls p f q t w' h1 hn h2 hl h3)
  have HS := Lib.hid hs
  have HR := Lib.hid hr
  have HT := Lib.hid ht
  generalize (Cr.mk s l ls ⟨p, f, q, t⟩) = cr at *
  have B : Below w.heap.size w (w.alloc (.cells #[.bool s, .slice a n c, .slice sa sn sc, .bool p, .int .i64 f, .bool q, .int .i64 t] 29)) := (Below.refl _ _).alloc (Nat.le_refl _) _
  have V : Hid (Box (w.alloc (.cells #[.bool s, .slice a n c, .slice sa sn sc, .bool p, .int .i64 f, .bool q, .int .i64 t] 29)) w.heap.size 29 #[.bool s, .slice a n c, .slice sa sn sc, .bool p, .int .i64 f, .bool q, .int .i64 t]) := Lib.hid (Box.new _ _ _)
  clear hs hr ht hl
  go_enter Tryd.func20, Tryd.ntmps20
  go_upto_region 1 with fail
  change Code.wp _ _ _ _ (w.alloc (.cells #[.bool s, .slice a n c, .slice sa sn sc, .bool p, .int .i64 f, .bool q, .int .i64 t] 29))
  generalize (w.alloc (.cells #[.bool s, .slice a n c, .slice sa sn sc, .bool p, .int .i64 f, .bool q, .int .i64 t] 29)) = x0 at *
  go_wp2_with (refine wpList_load_box rfl 29 _ rfl V.out (by rfl) Tryd.underlying29 rfl (by kernel_rfl) ?_)
  refine (C.out x0 (HS.out.after B) (HR.out.after B) (HT.out.after B)).mono ?_
  rintro e z1 hP
  obtain ⟨⟨tl, th, ta1, tn1, tc1, ta2, tn2, tc2, ta3, tn3, tc3⟩, er, rfl, rt, hk, bz1⟩ := hP.out
  clear hP rt
  have HK := Lib.hid hk
  clear hk
  replace V := Lib.hid (V.out.after bz1)
  replace B := B.trans (bz1.mono B.size)
  clear bz1
  go_upto_region 2 with (refine wpList_store_box (cells := #[.bool tl, .bool th, .slice ta1 tn1 tc1, .slice ta2 tn2 tc2, .slice ta3 tn3 tc3]) rfl 37 _ _ rfl (Box.new _ _ _) (by rfl) (by rfl) rfl (by kernel_rfl) (by simp [Value.oneCell']) ?_; intro u9 X9 st9)
  have bs1 : Below z1.heap.size z1 u9 := st9.below z1.heap.size z1 (Nat.le_refl _) ((Below.refl _ _).alloc (Nat.le_refl _) _)
  have Y := Lib.hid X9
  replace V := Lib.hid (V.out.after bs1)
  replace B := B.trans (bs1.mono B.size)
  clear bs1 st9 X9
  generalize u9 = x1 at *
  rcases HK.out with ⟨rfl, hk⟩ | ⟨rfl, hk⟩
  · skip
    replace hk := Lib.hid hk
    go_wp2_with fail
    go_ret
    exact ⟨by rw [hk.out]; rfl, B⟩
  · skip
    replace hk := Lib.hid hk
    go_wp2_with fail
    go_ret
    exact ⟨by rw [hk.out]; rfl, B⟩

end Go.Proofs.YticjhogofoffmaaDoor

/- The law NotationReads: the walk. -/
import Derived.Test.YtkbblhioncecmaaDoorNv2
import Derived.Test.YtkbblhioncecmaaDoorNuH
namespace Go.Proofs.YtkbblhioncecmaaDoor
open Go.RowKit
set_option linter.unusedSimpArgs false
set_option linter.unusedVariables false

theorem GotN.det {Rel : RV → Prop} (hR : ∀ r r', Rel r → Rel r' → r = r') {l : List UInt8} {s s' : Sx} {p p' e e' : Nat} (h : GotN Rel l s p e) (h' : GotN Rel l s' p' e') : s = s' ∧ p = p' ∧ e = e' := by
  rcases h with ⟨h1, h2, h3, h4⟩ | ⟨h1, r, hr, h2⟩
  · rcases h' with ⟨_, h2', h3', h4'⟩ | ⟨h1', _⟩
    · exact ⟨h2.trans h2'.symm, h3.trans h3'.symm, h4.trans h4'.symm⟩
    · omega
  · rcases h' with ⟨h1', _⟩ | ⟨_, r', hr', h2'⟩
    · omega
    · obtain rfl := hR _ _ hr hr'
      rcases h2 with ⟨a, b, c, d⟩ | ⟨a, a', b, c, d⟩ | ⟨a, a', a'', b, c, d⟩ | ⟨a, a', a'', b, c, d⟩ <;> rcases h2' with ⟨a1, b1, c1, d1⟩ | ⟨a1, a2, b1, c1, d1⟩ | ⟨a1, a2, a3, b1, c1, d1⟩ | ⟨a1, a2, a3, b1, c1, d1⟩ <;>
        first | exact ⟨b.trans b1.symm, c.trans c1.symm, d.trans d1.symm⟩ | (exfalso; omega) | (exfalso; rw [a''] at a3; cases a3)
set_option maxHeartbeats 16000000 in
set_option maxRecDepth 100000 in
theorem NotationReads_walk (s : ByteArray) (w : World) (ht : Tab w) (hs : s.size ≤ maxLen) : Calls Tryd.prog 3 #[.string s] w fun e w' => e = .returned (.bool true) ∧ Below w.heap.size w w' := by
  have HT := Lib.hid ht
  have B : Below w.heap.size w w := Below.refl _ _
  clear ht
  by_cases hlong : 20000 < s.size
  case pos =>
    have hlong' : (20000 : Int) < (s.size : Int) := by omega
    go_enter Tryd.func3, Tryd.ntmps3
    go_wp2_with fail
    refine (awake_any _ HT.out).mono ?_
    rintro e x99 ⟨rfl, bx99⟩
    replace B := B.trans (bx99.mono B.size)
    go_wp2_with fail
    go_ret
    exact ⟨rfl, B⟩
  have hlong' : ¬ (20000 : Int) < (s.size : Int) := by omega
  go_enter Tryd.func3, Tryd.ntmps3
  go_wp2_with fail
  refine (readN_any s w HT.out).mono ?_
  rintro e x1 ⟨v, sx, p, x, hg, rfl, rd, bx1⟩
  obtain ⟨vl, vh, va1, vn1, vc1, va2, vn2, vc2, va3, vn3, vc3⟩ := v
  have RD := Lib.hid (rd.mono (ok' := fun _ => True) (fun _ _ => trivial))
  have HGT := Lib.hid hg
  clear rd hg
  replace HT := Lib.hid (HT.out.after bx1)
  replace B := B.trans (bx1.mono B.size)
  clear bx1
  go_upto_region 4 with (refine wpList_store_box (cells := #[.bool vl, .bool vh, .slice va1 vn1 vc1, .slice va2 vn2 vc2, .slice va3 vn3 vc3]) rfl 26 _ _ rfl (Box.new _ _ _) (by rfl) (by rfl) rfl (by kernel_rfl) (by simp [Value.oneCell']) ?_; intro u9 X9 st9)
  have bs2 : Below x1.heap.size x1 u9 := st9.below x1.heap.size x1 (Nat.le_refl _) ((Below.refl _ _).alloc (Nat.le_refl _) _)
  have Y1 := Lib.hid X9
  replace HT := Lib.hid (HT.out.after bs2)
  replace RD := Lib.hid (RD.out.after bs2)
  replace B := B.trans (bs2.mono B.size)
  clear bs2 st9 X9
  generalize u9 = x2 at *
  generalize x1.heap.size = y1 at *
  go_wp2_with fail
  refine (rread_any s x2).mono ?_
  rintro e x5 ⟨u, sx2, p2, x2_, hg, rfl, rd, bx5⟩
  obtain ⟨ul, uh, ua1, un1, uc1, ua2, un2, uc2, ua3, un3, uc3⟩ := u
  have RD2 := Lib.hid (rd.mono (ok' := fun _ => True) (fun _ _ => trivial))
  obtain ⟨rfl, rfl, rfl⟩ := GotN.det (fun _ _ h h' => h.det h') HGT.out hg
  clear rd hg HGT
  replace HT := Lib.hid (HT.out.after bx5)
  replace RD := Lib.hid (RD.out.after bx5)
  replace Y1 := Lib.hid (Y1.out.after bx5)
  replace B := B.trans (bx5.mono B.size)
  clear bx5
  go_upto_region 5 with (refine wpList_store_box (cells := #[.bool ul, .bool uh, .slice ua1 un1 uc1, .slice ua2 un2 uc2, .slice ua3 un3 uc3]) rfl 26 _ _ rfl (Box.new _ _ _) (by rfl) (by rfl) rfl (by kernel_rfl) (by simp [Value.oneCell']) ?_; intro u9 X9 st9)
  have bs6 : Below x5.heap.size x5 u9 := st9.below x5.heap.size x5 (Nat.le_refl _) ((Below.refl _ _).alloc (Nat.le_refl _) _)
  have Y2 := Lib.hid X9
  replace HT := Lib.hid (HT.out.after bs6)
  replace RD := Lib.hid (RD.out.after bs6)
  replace Y1 := Lib.hid (Y1.out.after bs6)
  replace RD2 := Lib.hid (RD2.out.after bs6)
  replace B := B.trans (bs6.mono B.size)
  clear bs6 st9 X9
  generalize u9 = x6 at *
  generalize x5.heap.size = y2 at *
  go_wp2_with first | (refine wpList_load_box rfl 26 _ rfl Y1.out (by rfl) Tryd.underlying26 rfl (by kernel_rfl) ?_) | (refine wpList_load_box rfl 26 _ rfl Y2.out (by rfl) Tryd.underlying26 rfl (by kernel_rfl) ?_)
  refine (refSame_any sx sx ⟨vl, vh, va1, vn1, vc1, va2, vn2, vc2, va3, vn3, vc3⟩ ⟨ul, uh, ua1, un1, uc1, ua2, un2, uc2, ua3, un3, uc3⟩ x6 RD.out RD2.out).mono ?_
  rintro e x20 ⟨rfl, bx20⟩
  rw [Sx.same_refl]
  replace HT := Lib.hid (HT.out.after bx20)
  replace RD := Lib.hid (RD.out.after bx20)
  replace Y1 := Lib.hid (Y1.out.after bx20)
  replace RD2 := Lib.hid (RD2.out.after bx20)
  replace Y2 := Lib.hid (Y2.out.after bx20)
  replace B := B.trans (bx20.mono B.size)
  clear bx20
  go_wp2_with fail
  refine (awake_any _ HT.out).mono ?_
  rintro e x99 ⟨rfl, bx99⟩
  replace B := B.trans (bx99.mono B.size)
  go_wp2_with fail
  go_ret
  exact ⟨rfl, B⟩

end Go.Proofs.YtkbblhioncecmaaDoor

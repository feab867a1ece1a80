/- The law's awake: the document's example of notation. -/
import Derived.Test.YtkbblhioncecmaaDoorNv1
import Derived.Test.YtkbblhioncecmaaDoorNtK
namespace Go.Proofs.YtkbblhioncecmaaDoor
open Go.RowKit
set_option linter.unusedSimpArgs false
set_option linter.unusedVariables false

def atomS (b : List UInt8) : Sx := .mk false false [] b []
def awL : List UInt8 := [40, 97, 32, 34, 98, 32, 99, 34, 32, 35, 102, 102, 35, 41]
def awS : Sx := .mk true false [] [] [atomS [97], atomS [98, 32, 99], atomS [255]]
theorem nt_atom' {l : List UInt8} {p lv n q : Nat} {r : RV} (hq : skipN l p = q) (h1 : q < l.length) (h2 : begB (l.getD q 0) = true) (h3 : l.getD q 0 ≠ 40) (h4 : l.getD q 0 ≠ 91) (h5 : n + 1 ≤ 512) (hr : nAtom l q (n + 1) = r) : Nt l none p lv n r := by
  subst hq hr
  exact .atom h1 h2 h3 h4 h5
theorem nt_list' {l : List UInt8} {p lv n q m : Nat} {r : RV} (hq : skipN l p = q) (h1 : q < l.length) (h2 : l.getD q 0 = 40) (hm : n + 1 = m) (h3 : m ≤ 512) (h4 : lv ≤ 16) (hr : Nt l (some []) (q + 1) lv m r) : Nt l none p lv n r := by
  subst hq hm
  exact .list h1 h2 h3 h4 hr
theorem nt_more' {l : List UInt8} {p lv n q m p2 n2 : Nat} {acc : List Sx} {v : Sx} {r2 : RV} (hq : skipN l p = q) (h1 : q < l.length) (h2 : l.getD q 0 ≠ 41) (hm : lv + 1 = m) (h3 : Nt l none q m n ⟨v, p2, n2, 0⟩) (h4 : Nt l (some (acc ++ [v])) p2 lv n2 r2) : Nt l (some acc) p lv n r2 := by
  subst hq hm
  exact .more (r := ⟨v, p2, n2, 0⟩) h1 h2 h3 rfl h4
theorem nt_close' {l : List UInt8} {p lv n q q1 : Nat} {acc : List Sx} {v : Sx} (hq : skipN l p = q) (h1 : q < l.length) (h2 : l.getD q 0 = 41) (hq1 : q + 1 = q1) (hv : Sx.mk true false [] [] acc = v) : Nt l (some acc) p lv n ⟨v, q1, n, 0⟩ := by
  subst hq hq1 hv
  exact .close h1 h2
set_option maxRecDepth 100000 in
theorem nt_awake : Nt awL none 0 1 0 ⟨awS, 14, 4, 0⟩ := by
  refine nt_list' (q := 0) (m := 1) (by decide +kernel) (by decide +kernel) (by decide +kernel) rfl (by decide) (by decide) ?_
  refine nt_more' (q := 1) (m := 2) (v := atomS [97]) (p2 := 2) (n2 := 2) (by decide +kernel) (by decide +kernel) (by decide +kernel) rfl (nt_atom' (q := 1) (by decide +kernel) (by decide +kernel) (by decide +kernel) (by decide +kernel) (by decide +kernel) (by decide) (by kernel_rfl)) ?_
  refine nt_more' (q := 3) (m := 2) (v := atomS [98, 32, 99]) (p2 := 8) (n2 := 3) (by decide +kernel) (by decide +kernel) (by decide +kernel) rfl (nt_atom' (q := 3) (by decide +kernel) (by decide +kernel) (by decide +kernel) (by decide +kernel) (by decide +kernel) (by decide) (by kernel_rfl)) ?_
  refine nt_more' (q := 9) (m := 2) (v := atomS [255]) (p2 := 13) (n2 := 4) (by decide +kernel) (by decide +kernel) (by decide +kernel) rfl (nt_atom' (q := 9) (by decide +kernel) (by decide +kernel) (by decide +kernel) (by decide +kernel) (by decide +kernel) (by decide) (by kernel_rfl)) ?_
  exact nt_close' (q := 13) (by decide +kernel) (by decide +kernel) (by decide +kernel) rfl rfl
theorem got_awake {s : Sx} {p x : Nat} (h : GotN (Nt awL none 0 1 0) awL s p x) : s = awS ∧ p = 0 ∧ x = 0 := by
  have h0 : awL.length = 14 := by decide +kernel
  have h1 : skipN awL 14 = 14 := by decide +kernel
  have h2 : awS.may = true := by decide +kernel
  rcases h with ⟨h, _⟩ | ⟨_, r, hr, h⟩
  · omega
  · obtain rfl := hr.det nt_awake
    rcases h with ⟨h, _⟩ | ⟨_, h, _⟩ | ⟨_, _, h, _⟩ | ⟨_, _, _, e1, e2, e3⟩
    · exact absurd rfl h
    · exact absurd h (by show ¬ skipN awL 14 < awL.length; omega)
    · exact absurd (h2.symm.trans h) (by simp)
    · exact ⟨e1, e2, e3⟩
theorem aw_broad : awS.broad 0 = false := by decide +kernel
theorem aw_adv : (if awS.may then awS.adv else []) = awL := by decide +kernel
theorem aw_zero : (if awS.may then 0 else 4) = 0 := by decide +kernel

set_option maxHeartbeats 16000000 in
set_option maxRecDepth 100000 in
theorem awake_any (w : World) (ht : Tab w) : Calls Tryd.prog 8 #[] w fun e w' => e = .returned (.bool true) ∧ Below w.heap.size w w' := by
  have HT := Lib.hid ht
  have B : Below w.heap.size w w := Below.refl _ _
  clear ht
  go_enter Tryd.func8, Tryd.ntmps8
  go_wp2_with fail
  refine (readN_any _ w HT.out).mono ?_
  rintro e x1 ⟨v, s, p, x, hg, rfl, rd, bx1⟩
  obtain ⟨rfl, rfl, rfl⟩ := got_awake hg
  clear hg
  obtain ⟨vl, vh, va1, vn1, vc1, va2, vn2, vc2, va3, vn3, vc3⟩ := v
  have RD := Lib.hid (rd.mono (fun _ _ => trivial))
  clear rd
  replace HT := Lib.hid (HT.out.after bx1)
  replace B := B.trans (bx1.mono B.size)
  clear bx1
  go_upto_region 3 with (refine wpList_store_box (cells := #[.bool vl, .bool vh, .slice va1 vn1 vc1, .slice va2 vn2 vc2, .slice va3 vn3 vc3]) rfl 26 _ _ rfl (Box.new _ _ _) (by rfl) (by rfl) rfl (by kernel_rfl) (by simp [Value.oneCell']) ?_; intro u9 X9 st9)
  have bs2 : Below x1.heap.size x1 u9 := st9.below x1.heap.size x1 (Nat.le_refl _) ((Below.refl _ _).alloc (Nat.le_refl _) _)
  have Y1 := Lib.hid X9
  replace HT := Lib.hid (HT.out.after bs2)
  replace RD := Lib.hid (RD.out.after bs2)
  replace B := B.trans (bs2.mono B.size)
  clear bs2 st9 X9
  generalize u9 = x2 at *
  generalize x1.heap.size = y1 at *
  go_wp2_with (refine wpList_load_box rfl 26 _ rfl Y1.out (by rfl) Tryd.underlying26 rfl (by kernel_rfl) ?_)
  refine (print_any awS ⟨vl, vh, va1, vn1, vc1, va2, vn2, vc2, va3, vn3, vc3⟩ x2 RD.out 0 aw_broad HT.out).mono ?_
  rintro e x8 ⟨t, x, rfl, ht, hx, bx8⟩
  rw [aw_adv] at ht
  rw [aw_zero] at hx
  subst hx
  obtain rfl : t = ⟨#[40, 97, 32, 34, 98, 32, 99, 34, 32, 35, 102, 102, 35, 41]⟩ := by apply ByteArray.ext; apply Array.ext'; exact ht
  clear ht
  replace HT := Lib.hid (HT.out.after bx8)
  replace RD := Lib.hid (RD.out.after bx8)
  replace Y1 := Lib.hid (Y1.out.after bx8)
  replace B := B.trans (bx8.mono B.size)
  clear bx8
  go_wp2_with fail
  go_ret
  exact ⟨rfl, B⟩

end Go.Proofs.YtkbblhioncecmaaDoor

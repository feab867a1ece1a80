/- Lists with a row of the call's own; what is canceled, put: the program's sums. -/
import Derived.Test.YticjhogofoffmaaDoorCrE
import Derived.Test.YticjhogofoffmaaDoorCrFr
namespace Go.Proofs.YticjhogofoffmaaDoor
open Go.RowKit
set_option linter.unusedSimpArgs false
set_option linter.unusedVariables false

/-- a row of the call's own is handed back -/
def RowO (n : Nat) (K : Nat → SV) (w : World) (e : Ending) (w' : World) : Prop := ∃ a c, e = .returned (.slice a n c) ∧ OwnG w' w.heap.size 5 (.slice a n c) n (newsK K n) ∧ Below w.heap.size w w'

set_option maxHeartbeats 2000000 in
set_option maxRecDepth 100000 in
theorem cloneO_any (a : Option Addr) (n c : Nat) (K : Nat → SV) (w : World) (hr : RowAt w a n c K) (hn : n ≤ 1000) : Calls Tryd.prog 55 #[.slice a n c] w (RowO n K w) := by
  cases a with
  | none =>
    have hc := hr.2.2.1 rfl
    have hle := hr.1
    obtain rfl : n = 0 := by omega
    subst hc
    clear hle hn
    have hnn : ∀ W, (binOp .eql 35 (.slice none 0 0) (.slice none 0 0)).run Tryd.prog W = .ok (.bool true) W := fun _ => rfl
    go_enter Tryd.func55, Tryd.ntmps55
    go_wp2_with fail
    go_ret
    exact ⟨none, 0, rfl, OwnG.nil _ _ _, Below.refl _ _⟩
  | some ad =>
    have hnn : ∀ W, (binOp .eql 35 (.slice (some ad) n c) (.slice none 0 0)).run Tryd.prog W = .ok (.bool false) W := fun _ => rfl
    have hb0 : Below w.heap.size w (w.alloc (.cells #[] 37)) := (Below.refl _ _).alloc (Nat.le_refl _) _
    have ho0 : OwnG (w.alloc (.cells #[] 37)) w.heap.size 5 (.slice (some ⟨w.heap.size, 0, none⟩) 0 0) 0 [] := OwnG.new w w.heap.size 5 (Nat.le_refl _) #[] 37 0 0 (Nat.le_refl _) (Nat.zero_le _) rfl
    have hsrc : Src Tryd.prog 5 35 (.slice (some ad) n c) n (newsK K n) (w.alloc (.cells #[] 37)) := by
      refine Src.ofSlice _ Tryd.underlying35 ad n c _ (newsK_len K n) ?_ (newsK_one K n)
      have hr' := hr.after hb0
      rcases hr'.2.2.2 with h0 | ⟨b, o, e, h4⟩
      · subst h0
        intro j u hu
        simp [newsK] at hu
      · cases e
        exact newsK_cells hr'
    have HO := Lib.hid ho0
    have HS := Lib.hid hsrc
    clear ho0 hsrc hr
    go_enter Tryd.func55, Tryd.ntmps55
    go_wp2_with (refine wpList_append_K rfl _ _ rfl rfl HO.out rfl HS.out (by omega) (by simp) ?_; intro v2 w2 ho2 hg2 hw2)
    rw [Nat.zero_add, List.nil_append] at ho2
    obtain ⟨a', c', rfl, h5, h6⟩ := ho2.row
    have HO2 := Lib.hid ho2
    have hB := hb0.grown hg2 (by simp) (fun k hk => by cases hk; exact Nat.le_refl _)
    clear ho2 hg2 hw2
    go_ret
    exact ⟨a', c', rfl, HO2.out, hB⟩

/-- a list whose row is the call's own -/
def ListO (n : Nat) (K : Nat → SV) (w : World) (e : Ending) (w' : World) : Prop := ∃ a c, e = .returned (.agg #[.bool true, .bool false, .slice none 0 0, .slice none 0 0, .slice a n c]) ∧ OwnG w' (w.heap.size + 1) 5 (.slice a n c) n (newsK K n) ∧ Below w.heap.size w w'

set_option maxHeartbeats 2000000 in
set_option maxRecDepth 100000 in
theorem listO_any (a : Option Addr) (n c : Nat) (K : Nat → SV) (w : World) (hr : RowAt w a n c K) (hn : n ≤ 1000) : Calls Tryd.prog 39 #[.slice a n c] w (ListO n K w) := by
  have hb0 : Below w.heap.size w (w.alloc (.cells SV.nil.cells 37)) := (Below.refl _ _).alloc (Nat.le_refl _) _
  have X0 := Box.new w 37 SV.nil.cells
  have HR := Lib.hid hr
  clear hr
  go_enter Tryd.func39, Tryd.ntmps39
  go_upto_region 1 with fail
  change Code.wp _ _ _ _ (w.alloc (.cells SV.nil.cells 37))
  generalize w.alloc (.cells SV.nil.cells 37) = v0 at *
  go_wp2_with fail
  refine (cloneO_any a n c K v0 (HR.out.after hb0) hn).mono ?_
  rintro e v1 ⟨a', c', rfl, hrow, hb1⟩
  have X1 := Lib.hid (X0.after hb1)
  have HS := Lib.hid hrow
  have hB1 := hb0.trans (hb1.mono hb0.size)
  have hz := X0.lt
  have hsz := hb0.size
  clear X0 hrow hb1 hb0
  go_wp2_with (refine wpList_store_box (cells := (SV.mk true false none 0 0 none 0 0 a' n c').cells) rfl 37 _ _ rfl X1.out (by rfl) (by rfl) rfl (by kernel_rfl) (SV.one _) ?_; intro v2 X2 st2)
  have hB2 := st2.below w.heap.size w (Nat.le_refl _) hB1
  have ho2 : OwnG v2 (w.heap.size + 1) 5 (.slice a' n c') n (newsK K n) := (HS.out.keep (w' := v2) (Nat.le_of_eq st2.size.symm) (fun k hk => st2.other k (by have := (HS.out.lt k hk).1; omega))).le (by omega)
  exact bodyPost_ret (v := (SV.mk true false none 0 0 none 0 0 a' n c').val) (box_result rfl _ _ (by rfl) X2 Tryd.underlying37 rfl (by kernel_rfl)) rfl ⟨a', c', rfl, ho2, hB2⟩

def caL : List UInt8 := [99, 97, 110, 99, 101, 108, 101, 100]
def sumsOk (ls : List (List UInt8)) : Bool := decide (ls.length ≤ 16) && ls.all (fun l => keyMay true l.length)
def sumsK (ls : List (List UInt8)) : List Sx := at1 caL :: ls.map (keyS true)
def SumsP (ls : List (List UInt8)) (w : World) (e : Ending) (w' : World) : Prop :=
  (sumsOk ls = true ∧ PutQ (li (sumsK ls)) (.bool true) w e w') ∨ (sumsOk ls = false ∧ e = .returned (.tuple #[.agg #[.bool false, .bool false, .slice none 0 0, .slice none 0 0, .slice none 0 0], .bool false]) ∧ Below w.heap.size w w')
theorem sumsK_snoc (ls : List (List UInt8)) (k : Nat) (h : k < ls.length) : sumsK (ls.take (k + 1)) = sumsK (ls.take k) ++ [keyS true ls[k]] := by
  unfold sumsK
  rw [List.take_succ_eq_append_getElem h, List.map_append]
  rfl
theorem sumsK_len (ls : List (List UInt8)) (k : Nat) (h : k ≤ ls.length) : (sumsK (ls.take k)).length = k + 1 := by
  unfold sumsK
  simp
  omega
theorem all_snoc (p : List UInt8 → Bool) (ls : List (List UInt8)) (k : Nat) (h : k < ls.length) : (ls.take (k + 1)).all p = ((ls.take k).all p && p ls[k]) := by
  rw [List.take_succ_eq_append_getElem h, List.all_append]
  simp only [List.all_cons, List.all_nil, Bool.and_true]
theorem all_not (p : List UInt8 → Bool) (ls : List (List UInt8)) (k : Nat) (h : k < ls.length) (hp : p ls[k] = false) : ls.all p = false := by
  rw [List.all_eq_false]
  exact ⟨_, List.getElem_mem h, by rw [hp]; simp⟩
theorem RowS.cellS {w : World} {a : Option Addr} {n c : Nat} {Z : Nat → S3} {ls : List (List UInt8)} (h : RowS w a n c Z ls) {i : Nat} (hi : i < n) : ∃ b o, a = some ⟨b, o, none⟩ ∧ w.cell? ⟨b, o + i, none⟩ = some (.slice (Z i).a (Z i).n (Z i).c) := by
  rcases h.2.2.2.2.1 with h4 | ⟨b, o, rfl, h4⟩
  · omega
  · exact ⟨b, o, rfl, h4 i hi⟩

set_option maxHeartbeats 8000000 in
set_option maxRecDepth 100000 in
theorem sums_any (a : Option Addr) (n c : Nat) (Z : Nat → S3) (ls : List (List UInt8)) (w : World) (hr : RowS w a n c Z ls) (hl : ∀ l ∈ ls, l.length ≤ 100000) : Calls Tryd.prog 37 #[.slice a n c] w (SumsP ls w) := by
  have HR := Lib.hid hr
  have HN := Lib.hid hr.2.2.2.1
  have HL := Lib.hid hl
  have hle : n ≤ c := hr.1
  have hcm : c ≤ maxLen := hr.2.1
  unfold maxLen at hcm
  have B : Below w.heap.size w (w.alloc (.cells #[.bool false, .bool false, .slice none 0 0, .slice none 0 0, .slice none 0 0] 37)) := (Below.refl _ _).alloc (Nat.le_refl _) _
  have X : Hid (Box (w.alloc (.cells #[.bool false, .bool false, .slice none 0 0, .slice none 0 0, .slice none 0 0] 37)) w.heap.size 37 #[.bool false, .bool false, .slice none 0 0, .slice none 0 0, .slice none 0 0]) := Lib.hid (Box.new _ _ _)
  clear hr hl
  go_enter Tryd.func37, Tryd.ntmps37
  go_upto_region 1 with fail
  change Code.wp _ _ _ _ (w.alloc (.cells #[.bool false, .bool false, .slice none 0 0, .slice none 0 0, .slice none 0 0] 37))
  generalize (w.alloc (.cells #[.bool false, .bool false, .slice none 0 0, .slice none 0 0, .slice none 0 0] 37)) = x0 at *
  by_cases hgt : 16 < n
  case pos =>
    have hgt' : (16 : Int) < n := by omega
    have HF : Hid (sumsOk ls = false) := Lib.hid (by unfold sumsOk; have := HN.out; rw [decide_eq_false (by omega)]; rfl)
    go_wp2_with (refine wpList_store_box (cells := #[.bool false, .bool false, .slice none 0 0, .slice none 0 0, .slice none 0 0]) rfl 37 _ _ rfl X.out (by rfl) (by rfl) rfl (by kernel_rfl) (by simp [Value.oneCell']) ?_; intro u9 X9 st9)
    have B9 := st9.below w.heap.size w (Nat.le_refl _) B
    exact bodyPost_ret (v := .tuple #[.agg #[.bool false, .bool false, .slice none 0 0, .slice none 0 0, .slice none 0 0], .bool false]) (box_result2 (p := 2) (q := 3) rfl _ _ (by rfl) X9 Tryd.underlying37 rfl (by kernel_rfl)) rfl (.inr ⟨HF.out, rfl, B9⟩)
  have hgt2 : ¬ (16 : Int) < n := by omega
  go_wp2_with fail
  refine (atomI_any (fun b => w.heap.size + 1 ≤ b) ⟨#[99, 97, 110, 99, 101, 108, 101, 100]⟩ (by decide) x0 (fun b hb => by have := X.out.lt; show w.heap.size + 1 ≤ b; omega)).mono ?_
  rintro e x1 ⟨⟨pl, ph, pa1, pn1, pc1, pa2, pn2, pc2, pa3, pn3, pc3⟩, rfl, rp, bx1⟩
  replace X := Lib.hid (X.out.after bx1)
  replace B := B.trans (bx1.mono B.size)
  clear bx1
  unfold SV.val
  replace rp := Lib.hid rp
  have row := Lib.hid (row_one x1 ⟨pl, ph, pa1, pn1, pc1, pa2, pn2, pc2, pa3, pn3, pc3⟩ 37)
  have Y := Lib.hid (Box.new x1 37 #[.bool pl, .bool ph, .slice pa1 pn1 pc1, .slice pa2 pn2 pc2, .slice pa3 pn3 pc3])
  have ba2 : Below x1.heap.size x1 (x1.alloc (.cells #[.bool pl, .bool ph, .slice pa1 pn1 pc1, .slice pa2 pn2 pc2, .slice pa3 pn3 pc3] 37)) := (Below.refl _ _).alloc (Nat.le_refl _) _
  replace X := Lib.hid (X.out.after ba2)
  replace rp := Lib.hid (rp.out.after ba2)
  replace B := B.trans (ba2.mono B.size)
  clear ba2
  go_wp2_with fail
  generalize (x1.alloc (.cells #[.bool pl, .bool ph, .slice pa1 pn1 pc1, .slice pa2 pn2 pc2, .slice pa3 pn3 pc3] 37)) = x2 at *
  clear Y
  replace rp := Lib.hid rp.out.there
  have hs3 := X.out.lt
  refine (listO_any _ 1 1 _ x2 row.out (by omega)).mono ?_
  rintro e x3 ⟨ta, tc, rfl, ho, bx3⟩
  have hgrow := bx3.size
  replace X := Lib.hid (X.out.after bx3)
  replace rp := Lib.hid (rp.out.after bx3)
  replace B := B.trans (bx3.mono B.size)
  clear bx3
  clear row
  have O : Hid (OwnG x3 (w.heap.size + 1) 5 (.slice ta 1 tc) 1 (newsK (oneK ⟨pl, ph, pa1, pn1, pc1, pa2, pn2, pc2, pa3, pn3, pc3⟩) 1)) := Lib.hid (ho.le (by omega))
  have HSEP : Hid (∀ k, (Value.slice ta 1 tc).ownBlock = some k → x2.heap.size ≤ k ∧ k < x3.heap.size) := Lib.hid (fun k hk => by have := ho.lt k hk; omega)
  have hx4 : x2.heap.size ≤ x3.heap.size := hgrow
  clear ho
  go_upto_region 4 with (refine wpList_store_box (cells := #[.bool true, .bool false, .slice none 0 0, .slice none 0 0, .slice ta 1 tc]) rfl 37 _ _ rfl (Box.new _ _ _) (by rfl) (by rfl) rfl (by kernel_rfl) (by simp [Value.oneCell']) ?_; intro u9 X9 st9)
  have hyy : w.heap.size + 1 ≤ x3.heap.size := by have := X.out.lt; omega
  have bs4 : Below x3.heap.size x3 u9 := st9.below x3.heap.size x3 (Nat.le_refl _) ((Below.refl _ _).alloc (Nat.le_refl _) _)
  have Y := Lib.hid X9
  replace X := Lib.hid (X.out.after bs4)
  replace O := Lib.hid (O.out.after bs4)
  replace rp := Lib.hid (rp.out.after bs4)
  replace B := B.trans (bs4.mono B.size)
  clear bs4 st9 X9
  generalize u9 = x4 at *
  generalize x3.heap.size = y at *
  generalize x2.heap.size = y3 at *
  go_wp2_with fail
  go_loopw [18] (fun i wr => ∃ (k : Nat) (ta : Option Addr) (tc : Nat) (K : Nat → SV), k ≤ n ∧ i = .int .i64 k ∧ Hid ((ls.take k).all (fun l => keyMay true l.length) = true) ∧ Box wr w.heap.size 37 #[.bool false, .bool false, .slice none 0 0, .slice none 0 0, .slice none 0 0] ∧ Box wr y 37 #[.bool true, .bool false, .slice none 0 0, .slice none 0 0, .slice ta (k + 1 : Nat) tc] ∧ OwnG wr (w.heap.size + 1) 5 (.slice ta (k + 1) tc) (k + 1) (newsK K (k + 1)) ∧ Hid (∀ b, (Value.slice ta (k + 1) tc).ownBlock = some b → b ≠ y) ∧ Hid (∀ i (hi : i < (sumsK (ls.take k)).length), RdI (okO (fun b => w.heap.size + 1 ≤ b ∧ b ≠ y) (.slice ta (k + 1) tc)) wr (K i) (sumsK (ls.take k))[i]) ∧ Below w.heap.size w wr) (fun i _ => n - (intOf i).toNat)
  case atStart => exact ⟨0, ta, tc, oneK ⟨pl, ph, pa1, pn1, pc1, pa2, pn2, pc2, pa3, pn3, pc3⟩, Nat.zero_le _, rfl, Lib.hid rfl, X.out, Y.out, O.out, Lib.hid (fun b hb => by have := HSEP.out b hb; omega), Lib.hid (fun i hi => by
      obtain rfl : i = 0 := by simp [sumsK] at hi; omega
      exact rp.out.mono (fun k hk => ⟨⟨hk.1, by have := hk.2; omega⟩, fun e => by have := HSEP.out k e; have := hk.2; omega⟩)), B⟩
  case round =>
    obtain ⟨k, ta, tc, K, hkn, rfl, hall, X, Y, O, hne, KD, B⟩ := hrel
    replace X := Lib.hid X
    replace Y := Lib.hid Y
    replace O := Lib.hid O
    by_cases hlt : k < n
    case pos =>
      obtain ⟨b, o, rfl, hcl⟩ := (HR.out.after B).cellS hlt
      have hkl : k < ls.length := by have := HN.out; omega
      have HZ := Lib.hid ((HR.out.2.2.2.2.2 k hkl).after B)
      have hk1 : (k : Int) < n := by omega
      have hXl := X.out.lt
      have hYl := Y.out.lt
      have hOl := Lib.hid O.out.lt
      go_wp2_with fail
      refine (keyPut_any true (Z k).a (Z k).n (Z k).c (ls[k]'hkl) wr HZ.out (by have := HZ.out.1; have := HL.out _ (List.getElem_mem hkl); omega)).mono ?_
      rintro e x1 (⟨hm, ⟨vl, vh, va1, vn1, vc1, va2, vn2, vc2, va3, vn3, vc3⟩, rfl, rv, bx⟩ | ⟨hm, rfl, bx⟩)
      case inr =>
        replace X := Lib.hid (X.out.after bx)
        replace Y := Lib.hid (Y.out.after bx)
        replace O := Lib.hid (O.out.after bx)
        replace KD := Lib.hid (fun i hi => (KD.out i hi).after bx)
        replace B := B.trans (bx.mono B.size)
        clear bx
        have HF : Hid (sumsOk ls = false) := Lib.hid (by unfold sumsOk; rw [all_not _ ls k hkl hm, Bool.and_false])
        clear hcl HZ hm
        go_upto_region 8 with (refine wpList_store_box (cells := #[.bool false, .bool false, .slice none 0 0, .slice none 0 0, .slice none 0 0]) rfl 37 _ _ rfl (Box.new _ _ _) (by rfl) (by rfl) rfl (by kernel_rfl) (by simp [Value.oneCell']) ?_; intro u9 X9 st9)
        have bs5 : Below x1.heap.size x1 u9 := st9.below x1.heap.size x1 (Nat.le_refl _) ((Below.refl _ _).alloc (Nat.le_refl _) _)
        have Y7 := Lib.hid X9
        replace X := Lib.hid (X.out.after bs5)
        replace Y := Lib.hid (Y.out.after bs5)
        replace O := Lib.hid (O.out.after bs5)
        replace KD := Lib.hid (fun i hi => (KD.out i hi).after bs5)
        replace B := B.trans (bs5.mono B.size)
        clear bs5 st9 X9
        generalize u9 = x5 at *
        go_wp2_with (refine wpList_store_box (cells := #[.bool false, .bool false, .slice none 0 0, .slice none 0 0, .slice none 0 0]) rfl 37 _ _ rfl X.out (by rfl) (by rfl) rfl (by kernel_rfl) (by simp [Value.oneCell']) ?_; intro u9 X9 st9)
        have B9 := st9.below w.heap.size w (Nat.le_refl _) B
        exact bodyPost_ret (v := .tuple #[.agg #[.bool false, .bool false, .slice none 0 0, .slice none 0 0, .slice none 0 0], .bool false]) (box_result2 (p := 2) (q := 3) rfl _ _ (by rfl) X9 Tryd.underlying37 rfl (by kernel_rfl)) rfl (.inr ⟨HF.out, rfl, B9⟩)
      case inl =>
        replace X := Lib.hid (X.out.after bx)
        replace Y := Lib.hid (Y.out.after bx)
        replace O := Lib.hid (O.out.after bx)
        replace KD := Lib.hid (fun i hi => (KD.out i hi).after bx)
        replace B := B.trans (bx.mono B.size)
        clear bx
        replace rv : Hid (RdI (okO (fun b => w.heap.size + 1 ≤ b ∧ b ≠ y) (.slice ta (k + 1) tc)) x1 ⟨vl, vh, va1, vn1, vc1, va2, vn2, vc2, va3, vn3, vc3⟩ (keyS true (ls[k]'hkl))) := Lib.hid (rv.mono (fun b hb => ⟨by show w.heap.size + 1 ≤ b ∧ b ≠ y; omega, fun e => by have := hOl.out b e; omega⟩))
        have HM : Hid ((ls.take (k + 1)).all (fun l => keyMay true l.length) = true) := Lib.hid (by rw [all_snoc _ _ _ hkl, hall.out, hm]; rfl)
        clear hcl HZ hm hOl hall
        go_upto_region 8 with (refine wpList_store_box (cells := #[.bool vl, .bool vh, .slice va1 vn1 vc1, .slice va2 vn2 vc2, .slice va3 vn3 vc3]) rfl 37 _ _ rfl (Box.new _ _ _) (by rfl) (by rfl) rfl (by kernel_rfl) (by simp [Value.oneCell']) ?_; intro u9 X9 st9)
        have bs5 : Below x1.heap.size x1 u9 := st9.below x1.heap.size x1 (Nat.le_refl _) ((Below.refl _ _).alloc (Nat.le_refl _) _)
        have Y7 := Lib.hid X9
        replace X := Lib.hid (X.out.after bs5)
        replace Y := Lib.hid (Y.out.after bs5)
        replace O := Lib.hid (O.out.after bs5)
        replace rv := Lib.hid (rv.out.after bs5)
        replace KD := Lib.hid (fun i hi => (KD.out i hi).after bs5)
        replace B := B.trans (bs5.mono B.size)
        clear bs5 st9 X9
        generalize u9 = x5 at *
        go_upto_region 10 with fail
        have y4 := Y.out.cell 4 rfl
        have Y70 := Y7
        have SR := Lib.hid (src1 x5 ⟨vl, vh, va1, vn1, vc1, va2, vn2, vc2, va3, vn3, vc3⟩)
        have Z1 := Lib.hid (Box.new x5 37 #[.bool vl, .bool vh, .slice va1 vn1 vc1, .slice va2 vn2 vc2, .slice va3 vn3 vc3])
        have ba6 : Below x5.heap.size x5 (x5.alloc (.cells #[.bool vl, .bool vh, .slice va1 vn1 vc1, .slice va2 vn2 vc2, .slice va3 vn3 vc3] 37)) := (Below.refl _ _).alloc (Nat.le_refl _) _
        replace X := Lib.hid (X.out.after ba6)
        replace Y := Lib.hid (Y.out.after ba6)
        replace O := Lib.hid (O.out.after ba6)
        replace rv := Lib.hid (rv.out.after ba6)
        replace Y7 := Lib.hid (Y7.out.after ba6)
        replace KD := Lib.hid (fun i hi => (KD.out i hi).after ba6)
        replace B := B.trans (ba6.mono B.size)
        clear ba6
        clear Z1
        have OL := Lib.hid O.out.lt
        have hYl2 := Y.out.lt
        have hXl2 := X.out.lt
        go_upto_region 11 with first | (refine wpList_load_box rfl 37 _ rfl Y70.out (by rfl) Tryd.underlying37 rfl (by kernel_rfl) ?_) | (refine wpList_append_K rfl _ _ rfl rfl O.out rfl SR.out (by omega) (by simp; simp at hXl2; omega) ?_; intro v2 w2 ho2 hg2 hw2; rw [newsK_add] at ho2; obtain ⟨ta2, tc2, rfl, _⟩ := ho2.row; have Y3 := Box.grown Y.out hg2 (fun b hb e => by subst e; exact hne.out _ hb rfl); have d4 := Y3.cell 4 rfl; have f4 := Y3.frozen 4)
        have hney : ∀ b, (Value.slice ta2 (k + 1 + 1) tc2).ownBlock = some b → b ≠ y := fun b hb => (hw2 b hb).elim (fun e => hne.out b e) (fun e => by omega)
        have B8 : Below w.heap.size w (w2.setCell ⟨y, 4, none⟩ (.slice ta2 (k + 1 + 1) tc2)) := (B.grown hg2 B.size (fun k hk => by have := OL.out k hk; omega)).setCell (p := ⟨y, 4, none⟩) (by show w.heap.size ≤ y; omega) _
        have Y8 : Box (w2.setCell ⟨y, 4, none⟩ (.slice ta2 (k + 1 + 1) tc2)) y 37 #[.bool true, .bool false, .slice none 0 0, .slice none 0 0, (.slice ta2 (k + 1 + 1) tc2)] := Y3.set 4 _
        have X8 : Box (w2.setCell ⟨y, 4, none⟩ (.slice ta2 (k + 1 + 1) tc2)) w.heap.size 37 #[.bool false, .bool false, .slice none 0 0, .slice none 0 0, .slice none 0 0] := Box.far (Box.grown X.out hg2 (fun k hk => by have := OL.out k hk; omega)) ⟨y, 4, none⟩ _ (by show w.heap.size ≠ y; omega)
        have O8 : OwnG (w2.setCell ⟨y, 4, none⟩ (.slice ta2 (k + 1 + 1) tc2)) (w.heap.size + 1) 5 (.slice ta2 (k + 1 + 1) tc2) (k + 1 + 1) (newsK (fun i => if i = k + 1 then ⟨vl, vh, va1, vn1, vc1, va2, vn2, vc2, va3, vn3, vc3⟩ else K i) (k + 1 + 1)) := ho2.keep (by simp) (fun b hb => heap_setCell_other _ _ _ _ (hney b hb))
        have KD8 : Hid (∀ i (hi : i < (sumsK (ls.take (k + 1))).length), RdI (okO (fun b => w.heap.size + 1 ≤ b ∧ b ≠ y) (.slice ta2 (k + 1 + 1) tc2)) (w2.setCell ⟨y, 4, none⟩ (.slice ta2 (k + 1 + 1) tc2)) (if i = k + 1 then ⟨vl, vh, va1, vn1, vc1, va2, vn2, vc2, va3, vn3, vc3⟩ else K i) (sumsK (ls.take (k + 1)))[i]) := Lib.hid (by
          rw [sumsK_snoc ls k hkl]
          intro i hi
          exact (rows_more (sumsK_len ls k (by omega)).symm KD.out rv.out hg2 hw2 i hi).keep (fun b hb => heap_setCell_other _ _ _ _ hb.1.2))
        have hny8 := Lib.hid hney
        clear Y3 d4 f4 ho2 hg2 hw2 hney X Y O KD rv SR OL hne B Y7 Y70 y4
        generalize (w2.setCell ⟨y, 4, none⟩ (.slice ta2 (k + 1 + 1) tc2)) = u8 at *
        go_wp2_with fail
        go_roundw
        case rel => exact ⟨k + 1, ta2, tc2, _, by omega, by go_num, HM, X8, Y8, O8, hny8, KD8, B8⟩
        case measure => simp [intOf]; omega
    case neg =>
      obtain rfl : k = n := by omega
      have hk0 : ¬ (k : Int) < (k : Int) := by omega
      have HT : ls.take k = ls := List.take_of_length_le (by have := HN.out; omega)
      rw [HT] at hall KD
      have HF : Hid (sumsOk ls = true) := Lib.hid (by unfold sumsOk; have := HN.out; rw [hall.out, decide_eq_true (by omega)]; rfl)
      clear HT
      obtain ⟨ra, rc, er, hrow, hin⟩ := O.out.row
      cases er
      have RU : Hid (RdI (fun b => w.heap.size + 1 ≤ b ∧ b ≠ y) wr ⟨true, false, none, 0, 0, none, 0, 0, ta, k + 1, tc⟩ (li (sumsK ls))) := Lib.hid (rd_list hrow (hin.imp id fun h b o s e => ⟨h b o s e, hne.out b (by rw [e]; rfl)⟩) (by have := HN.out; simp [sumsK]; omega) (fun i hi => (KD.out i hi).mono (fun _ h => h.1)))
      clear hrow hin KD O
      go_wp2_with first | (refine wpList_load_box rfl 37 _ rfl Y.out (by rfl) Tryd.underlying37 rfl (by kernel_rfl) ?_) | (refine wpList_store_box (cells := #[.bool true, .bool false, .slice none 0 0, .slice none 0 0, .slice ta (k + 1 : Nat) tc]) rfl 37 _ _ rfl X.out (by rfl) (by rfl) rfl (by kernel_rfl) (by simp [Value.oneCell']) ?_; intro u9 X9 st9)
      have B9 := st9.below w.heap.size w (by omega) B
      have R9 := (RU.out.keep (w' := u9) (fun b hb => st9.other b (by have := hb.1; omega))).mono (ok' := fun b => w.heap.size ≤ b) (fun b hb => by have := hb.1; omega)
      exact bodyPost_ret (v := .tuple #[.agg #[.bool true, .bool false, .slice none 0 0, .slice none 0 0, .slice ta (k + 1 : Nat) tc], .bool true]) (box_result2 (p := 2) (q := 3) rfl _ _ (by rfl) X9 Tryd.underlying37 rfl (by kernel_rfl)) rfl (.inl ⟨HF.out, ⟨true, false, none, 0, 0, none, 0, 0, ta, k + 1, tc⟩, rfl, R9, B9⟩)

end Go.Proofs.YticjhogofoffmaaDoor

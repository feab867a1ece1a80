/- The program's value of a subject: names. -/
import Derived.Test.YthmigigclmogiaaDoorSjV
namespace Go.Proofs.YthmigigclmogiaaDoor
open Go.RowKit
set_option linter.unusedSimpArgs false
set_option linter.unusedVariables false

theorem own_below5 {w w' : World} {B n z : Nat} {v : Value} {xs : List Value} (B0 : Nat) (hB : B0 ≤ B) (hW : B0 ≤ w.heap.size) (h : OwnG w B z v n xs) (hg : w.grownBy w' v.ownBlock) {W : World} (hb : Below B0 W w) : Below B0 W w' := hb.grown hg hW (fun k hk => by have := (h.lt k hk).1; omega)
set_option maxHeartbeats 16000000 in
set_option maxRecDepth 100000 in
theorem value2_any {sb : Bool} {da : List UInt8} {ns : List (List UInt8)} {kk : Int} {ks : List Sj} (v : JV) (w : World) (hr : RdJ (fun _ => True) w v (.mk 2 sb da ns kk ks)) (hm : keyMay sb da.length = true) (hnl : ns.length ≤ 12) (hns : ∀ l ∈ ns, l.length ≤ 5000) :
    Calls Tryd.prog 18 #[v.val] w (ValI (fun b => w.heap.size ≤ b) (li (at1 nmL :: keyS sb da :: ns.map at1)) w) := by
  obtain ⟨hkd, hsb, hkk, hs1, ⟨Z, hN⟩, hn, ⟨K, hrow, hk⟩, hk0, hk1⟩ := hr.all2
  obtain ⟨vkd, vs, a1, n1, c1, a2, n2, c2, vk, a3, n3, c3⟩ := v
  dsimp only at hkd hsb hkk hs1 hN hn hrow
  obtain rfl : vkd = 2 := hkd
  obtain rfl : vs = sb := hsb
  obtain rfl : vk = kk := hkk
  have HS := Lib.hid hs1
  have HNS := Lib.hid hN.1
  have HN2 := Lib.hid hN.1.2.2.2.1
  have HN1 := Lib.hid hs1.1
  have HKM := Lib.hid hm
  have hnc1 := Nat.le_trans hs1.2.1 hs1.2.2.1
  have hnc2 := Nat.le_trans hN.1.1 hN.1.2.1
  unfold maxLen at hnc1 hnc2
  have hq1 : n1 ≤ 100000 := by have h1 := keyMay_len hm; have h2 := hs1.1; omega
  clear hs1 hrow hk hN hr hm hn
  have B : Below w.heap.size w ((w.alloc (.cells #[.int .u8 (2 : Nat), .bool vs, .slice a1 n1 c1, .slice a2 n2 c2, .int .i64 vk, .slice a3 n3 c3] 28)).alloc (.cells #[.bool false, .bool false, .slice none 0 0, .slice none 0 0, .slice none 0 0] 33)) := ((Below.refl _ _).alloc (Nat.le_refl _) _).alloc (by simp) _
  have X : Hid (Box ((w.alloc (.cells #[.int .u8 (2 : Nat), .bool vs, .slice a1 n1 c1, .slice a2 n2 c2, .int .i64 vk, .slice a3 n3 c3] 28)).alloc (.cells #[.bool false, .bool false, .slice none 0 0, .slice none 0 0, .slice none 0 0] 33)) w.heap.size 28 #[.int .u8 (2 : Nat), .bool vs, .slice a1 n1 c1, .slice a2 n2 c2, .int .i64 vk, .slice a3 n3 c3]) := Lib.hid ((Box.new _ _ _).alloc _)
  have Y : Hid (Box ((w.alloc (.cells #[.int .u8 (2 : Nat), .bool vs, .slice a1 n1 c1, .slice a2 n2 c2, .int .i64 vk, .slice a3 n3 c3] 28)).alloc (.cells #[.bool false, .bool false, .slice none 0 0, .slice none 0 0, .slice none 0 0] 33)) (w.heap.size + 1) 33 #[.bool false, .bool false, .slice none 0 0, .slice none 0 0, .slice none 0 0]) := Lib.hid (by
    have := Box.new (w.alloc (.cells #[.int .u8 (2 : Nat), .bool vs, .slice a1 n1 c1, .slice a2 n2 c2, .int .i64 vk, .slice a3 n3 c3] 28)) 33 #[.bool false, .bool false, .slice none 0 0, .slice none 0 0, .slice none 0 0]
    simpa using this)
  show Calls _ _ #[.agg #[.int .u8 (2 : Nat), .bool vs, .slice a1 n1 c1, .slice a2 n2 c2, .int .i64 vk, .slice a3 n3 c3]] _ _
  go_enter Tryd.func18, Tryd.ntmps18
  go_upto_region 1 with fail
  change Code.wp _ _ _ _ ((w.alloc (.cells #[.int .u8 (2 : Nat), .bool vs, .slice a1 n1 c1, .slice a2 n2 c2, .int .i64 vk, .slice a3 n3 c3] 28)).alloc (.cells #[.bool false, .bool false, .slice none 0 0, .slice none 0 0, .slice none 0 0] 33))
  generalize ((w.alloc (.cells #[.int .u8 (2 : Nat), .bool vs, .slice a1 n1 c1, .slice a2 n2 c2, .int .i64 vk, .slice a3 n3 c3] 28)).alloc (.cells #[.bool false, .bool false, .slice none 0 0, .slice none 0 0, .slice none 0 0] 33)) = x0 at *
  have hx0 := Y.out.lt
  have q0 := X.out.cell 0 rfl
  go_wp2_with (refine wpList_load_midG 24 _ rfl w.heap.size 1 rfl [.bool vs, .slice a1 n1 c1] _ (Box.mid X.out 1 _ (mid2 rfl rfl)) Tryd.underlying24 rfl (by kernel_rfl) rfl ?_)
  refine (keyPut_any vs a1 n1 c1 da x0 (HS.out.after B) hq1).mono ?_
  rintro e x1 (⟨hm1, ⟨ul, uh, ua1, un1, uc1, ua2, un2, uc2, ua3, un3, uc3⟩, rfl, ru, bx1⟩ | ⟨hm1, rfl, bx1⟩)
  case inr =>
    rw [HKM.out] at hm1
    cases hm1
  have RU := Lib.hid ru
  clear ru hm1 q0
  replace X := Lib.hid (X.out.after bx1)
  replace Y := Lib.hid (Y.out.after bx1)
  replace B := B.trans (bx1.mono B.size)
  clear bx1
  go_upto_region 10 with (refine wpList_store_box (cells := #[.bool ul, .bool uh, .slice ua1 un1 uc1, .slice ua2 un2 uc2, .slice ua3 un3 uc3]) rfl 33 _ _ rfl (Box.new _ _ _) (by rfl) (by rfl) rfl (by kernel_rfl) (by simp [Value.oneCell']) ?_; intro u9 X9 st9)
  have hzx : w.heap.size + 1 < x1.heap.size := Y.out.lt
  have bs2 : Below x1.heap.size x1 u9 := st9.below x1.heap.size x1 (Nat.le_refl _) ((Below.refl _ _).alloc (Nat.le_refl _) _)
  have Z := Lib.hid X9
  replace X := Lib.hid (X.out.after bs2)
  replace Y := Lib.hid (Y.out.after bs2)
  replace RU := Lib.hid (RU.out.after bs2)
  replace B := B.trans (bs2.mono B.size)
  clear bs2 st9 X9
  generalize u9 = x2 at *
  generalize x1.heap.size = yz at *
  have q0 := X.out.cell 0 rfl
  replace RU : Hid (RdI (fun b => w.heap.size + 2 ≤ b) x2 ⟨ul, uh, ua1, un1, uc1, ua2, un2, uc2, ua3, un3, uc3⟩ (keyS vs da)) := Lib.hid (RU.out.mono (fun b hb => by show w.heap.size + 2 ≤ b; have := hb; omega))
  go_upto_region 12 with fail
  clear q0
  have hKS : Keeps (fun w' => Box w' yz 33 #[.bool ul, .bool uh, .slice ua1 un1 uc1, .slice ua2 un2 uc2, .slice ua3 un3 uc3] ∧ RdI (fun b => w.heap.size + 2 ≤ b) w' ⟨ul, uh, ua1, un1, uc1, ua2, un2, uc2, ua3, un3, uc3⟩ (keyS vs da) ∧ Box w' w.heap.size 28 #[.int .u8 (2 : Nat), .bool vs, .slice a1 n1 c1, .slice a2 n2 c2, .int .i64 vk, .slice a3 n3 c3] ∧ Box w' (w.heap.size + 1) 33 #[.bool false, .bool false, .slice none 0 0, .slice none 0 0, .slice none 0 0]) := fun _ _ h b => ⟨h.1.after b, h.2.1.after b, h.2.2.1.after b, h.2.2.2.after b⟩
  refine wp_region_W (w := x2) [] (fun w' => Box w' yz 33 #[.bool ul, .bool uh, .slice ua1 un1 uc1, .slice ua2 un2 uc2, .slice ua3 un3 uc3] ∧ RdI (fun b => w.heap.size + 2 ≤ b) w' ⟨ul, uh, ua1, un1, uc1, ua2, un2, uc2, ua3, un3, uc3⟩ (keyS vs da) ∧ Box w' w.heap.size 28 #[.int .u8 (2 : Nat), .bool vs, .slice a1 n1 c1, .slice a2 n2 c2, .int .i64 vk, .slice a3 n3 c3] ∧ Box w' (w.heap.size + 1) 33 #[.bool false, .bool false, .slice none 0 0, .slice none 0 0, .slice none 0 0]) rfl (hKS _ _ ⟨Z.out, RU.out, X.out, Y.out⟩ (Below.refl _ _).drew) ?_
  refine wpW_val 1 hKS rfl (by kernel_rfl) (by kernel_rfl) (by kernel_rfl) (by kernel_rfl) rfl (fun _ _ _ _ h => h) (.agg #[.bool ul, .bool uh, .slice ua1 un1 uc1, .slice ua2 un2 uc2, .slice ua3 un3 uc3]) (fun w' h => run_load_box rfl h.1 (by rfl) Tryd.underlying33 rfl (by kernel_rfl)) ?_
  simp only [Act.put, List.setIfInBounds_toArray, List.set_cons_zero, List.set_cons_succ]
  refine wpW_one 0 rfl (by kernel_rfl) (by kernel_rfl) rfl ?_
  intro z1 b1 s1
  replace b1 : Below x2.heap.size x2 z1 := (Below.refl _ x2).drew.trans b1
  have hs1 := s1.2.2.2.lt
  have hp1 := b1.size
  refine wp_callR 28 #[.string ⟨#[110, 97, 109, 101]⟩] (by simp [go_sem]) _ (atomI_any (fun b => w.heap.size + 2 ≤ b) ⟨#[110, 97, 109, 101]⟩ (by decide) z1 (fun b hb => by show w.heap.size + 2 ≤ b; omega)) ?_
  rintro e z2 ⟨vA, rfl, rA, c2x⟩
  refine ⟨_, rfl, hKS _ _ s1 c2x, ?_⟩
  simp only [Act.put, List.setIfInBounds_toArray, List.set_cons_zero, List.set_cons_succ]
  refine wpW_one 2 rfl (by kernel_rfl) (by kernel_rfl) rfl ?_
  intro z3 b3 s3
  refine wp_of_run (.slice (some ⟨z3.heap.size, 0, none⟩) 2 2) (z3.alloc (.cells #[.bool vA.l, .bool vA.h, .slice vA.a1 vA.n1 vA.c1, .slice vA.a2 vA.n2 vA.c2, .slice vA.a3 vA.n3 vA.c3, .bool ul, .bool uh, .slice ua1 un1 uc1, .slice ua2 un2 uc2, .slice ua3 un3 uc3] 33)) (by simp [go_sem, SV.val]) ?_
  have c4x : Below z3.heap.size z3 (z3.alloc (.cells #[.bool vA.l, .bool vA.h, .slice vA.a1 vA.n1 vA.c1, .slice vA.a2 vA.n2 vA.c2, .slice vA.a3 vA.n3 vA.c3, .bool ul, .bool uh, .slice ua1 un1 uc1, .slice ua2 un2 uc2, .slice ua3 un3 uc3] 33)) := (Below.refl _ _).alloc (Nat.le_refl _) _
  have hz1 := b1.size
  have hz2 := c2x.size
  have hz3 := b3.size
  have hz4 := c4x.size
  have hs3 := s3.2.2.2.lt
  have o4 : OwnG (z3.alloc (.cells #[.bool vA.l, .bool vA.h, .slice vA.a1 vA.n1 vA.c1, .slice vA.a2 vA.n2 vA.c2, .slice vA.a3 vA.n3 vA.c3, .bool ul, .bool uh, .slice ua1 un1 uc1, .slice ua2 un2 uc2, .slice ua3 un3 uc3] 33)) (w.heap.size + 2) 5 (.slice (some ⟨z3.heap.size, 0, none⟩) 2 2) 2 (newsK (fun i => if i = 0 then vA else ⟨ul, uh, ua1, un1, uc1, ua2, un2, uc2, ua3, un3, uc3⟩) 2) := by
    have := OwnG.new z3 (w.heap.size + 2) 5 (by omega) #[.bool vA.l, .bool vA.h, .slice vA.a1 vA.n1 vA.c1, .slice vA.a2 vA.n2 vA.c2, .slice vA.a3 vA.n3 vA.c3, .bool ul, .bool uh, .slice ua1 un1 uc1, .slice ua2 un2 uc2, .slice ua3 un3 uc3] 33 2 2 (Nat.le_refl _) (by unfold maxLen; omega) rfl
    exact this
  refine ⟨hKS _ _ s3 c4x, ?_⟩
  simp only [Act.put, List.setIfInBounds_toArray, List.set_cons_zero, List.set_cons_succ]
  refine wpW_free 3 hKS rfl (by kernel_rfl) (by kernel_rfl) (by kernel_rfl) (by kernel_rfl) rfl (fun _ _ _ _ h => h) (.slice (some ⟨z3.heap.size, 0, none⟩) 2 2) (fun w' => by simp [go_sem]) ?_
  simp only [Act.put, List.setIfInBounds_toArray, List.set_cons_zero, List.set_cons_succ]
  refine wpW_done (by kernel_rfl) ?_
  intro z5 b5 s5
  have O := Lib.hid (o4.after b5)
  have KD : Hid (∀ i (hi : i < (at1 nmL :: keyS vs da :: (ns.take 0).map at1).length), RdI (okO (fun b => w.heap.size + 2 ≤ b) (.slice (some ⟨z3.heap.size, 0, none⟩) 2 2)) z5 ((fun i => if i = 0 then vA else ⟨ul, uh, ua1, un1, uc1, ua2, un2, uc2, ua3, un3, uc3⟩) i) (at1 nmL :: keyS vs da :: (ns.take 0).map at1)[i]) := Lib.hid (fun i hi => by
    have hA := (((rA.there.after b3).after c4x).after b5)
    have hU := ((s3.2.1.there.after c4x).after b5)
    have hi2 : i < 2 := by simpa using hi
    match i, hi2 with
    | 0, _ => exact hA.mono (fun b hb => ⟨hb.1, fun e => by simp [Value.ownBlock] at e; have := hb.2; omega⟩)
    | 1, _ => exact hU.mono (fun b hb => ⟨hb.1, fun e => by simp [Value.ownBlock] at e; have := hb.2; omega⟩))
  have X5 := Lib.hid s5.2.2.1
  have Y5 := Lib.hid s5.2.2.2
  have B3 := B.trans (b1.mono B.size)
  have B4 := B3.trans (c2x.mono B3.size)
  have B6 := B4.trans (b3.mono B4.size)
  have B7 := B6.trans (c4x.mono B6.size)
  have B8 := B7.trans (b5.mono B7.size)
  have hg5 := b5.size
  clear hKS b1 s1 rA c2x b3 s3 c4x o4 b5 s5 B B3 B4 B6 B7 X Y Z RU hzx hs1 hs3
  have q3 := X5.out.cell 3 rfl
  go_wp2_with fail
  go_loopw [8, 56] (fun acc i wr => ∃ (k n : Nat) (K : Nat → SV), k ≤ n2 ∧ i = .int .i64 k ∧ n = k + 2 ∧ OwnG wr (w.heap.size + 2) 5 acc n (newsK K n) ∧ Hid (∀ i (hi : i < (at1 nmL :: keyS vs da :: (ns.take k).map at1).length), RdI (okO (fun b => w.heap.size + 2 ≤ b) acc) wr (K i) (at1 nmL :: keyS vs da :: (ns.take k).map at1)[i]) ∧ w.heap.size + 2 ≤ wr.heap.size ∧ Below w.heap.size w wr ∧ Box wr (w.heap.size + 1) 33 #[.bool false, .bool false, .slice none 0 0, .slice none 0 0, .slice none 0 0]) (fun _ i _ => n2 - (intOf i).toNat)
  case atStart => exact ⟨0, 2, (fun i => if i = 0 then vA else ⟨ul, uh, ua1, un1, uc1, ua2, un2, uc2, ua3, un3, uc3⟩), Nat.zero_le _, rfl, rfl, O.out, KD, by have := Y5.out.lt; omega, B8, Y5.out⟩
  case round =>
    obtain ⟨k, n, K, hkl, rfl, hnk, ho, hme, hzl, hb, hy⟩ := hrel
    clear q3
    by_cases hlt : k < n2
    case pos =>
      obtain ⟨b, o, rfl, hcl⟩ := (HNS.out.after hb).cellS hlt
      have hkn : k < ns.length := by have := HN2.out; omega
      have HZ := Lib.hid ((HNS.out.2.2.2.2.2 k hkn).after hb)
      have hzl5 : (Z k).n ≤ 5000 := by have h1 := HZ.out.1; have h2 := hns _ (List.getElem_mem hkn); omega
      have hn8 := hnl
      have hn9 := HN2.out
      have hn10 : k < 12 := by omega
      clear hn9
      go_wp2_with fail
      refine (bclone_any _ _ _ _ wr HZ.out (by omega)).mono ?_
      rintro e w1 ⟨v4, rfl, ho4, hb4⟩
      obtain ⟨p1, q1, rfl, hsl4⟩ := ho4.sl
      have hOlt := Lib.hid ho.lt
      have ca : Below w1.heap.size w1 (w1.alloc (.cells #[.bool false, .bool false, .slice none 0 0, .slice p1 (ns[k]'hkn).length q1, .slice none 0 0] 33)) := (Below.refl _ _).alloc (Nat.le_refl _) _
      have O2 := Lib.hid ((ho.after hb4).after ca)
      have M2 := Lib.hid (fun i hi => ((hme.out i hi).after hb4).after ca)
      have RV := Lib.hid ((rd_atomI hsl4 (ok := okO (fun b => w.heap.size + 2 ≤ b) _) (.inr fun b' o' s' e => by subst e; have h1 := ho4.own b' rfl; exact ⟨by show w.heap.size + 2 ≤ b'; omega, fun e => by have := hOlt.out b' e; omega⟩)).after ca)
      have SR := Lib.hid (src1 w1 ⟨false, false, none, 0, 0, p1, (ns[k]'hkn).length, q1, none, 0, 0⟩)
      have b2 := (hb.trans (hb4.mono hb.size))
      have b3 := b2.trans (ca.mono b2.size)
      have hy2 := Lib.hid ((hy.after hb4).after ca)
      have hzz := ca.size
      have hzw := hb4.size
      clear ho hme hb4 ca hy ho4 hsl4 hcl
      go_wp2_with (refine wpList_append_K rfl _ _ rfl rfl O2.out rfl SR.out (by omega) (by simp; omega) ?_; intro v3 w3 ho3 hg3 hw3; rw [newsK_add] at ho3)
      go_roundw
      case rel => exact ⟨k + 1, n + 1, _, by omega, by go_num, by omega, ho3, Lib.hid (by
          have hL : (at1 nmL :: keyS vs da :: (ns.take (k + 1)).map at1) = (at1 nmL :: keyS vs da :: (ns.take k).map at1) ++ [at1 ns[k]] := by rw [List.take_succ_eq_append_getElem hkn, List.map_append]; rfl
          rw [hL]
          exact rows_more (by simp; omega) M2.out RV.out hg3 hw3), (by have := hg3.size; omega), own_below5 w.heap.size (by omega) (by omega) O2.out hg3 b3, hy2.out.grown hg3 (fun k hk => by have := hOlt.out k hk; omega)⟩
      case measure => simp [intOf]; omega
    case neg =>
      have hkk : k = n2 := by omega
      have hln : ns.take k = ns := List.take_of_length_le (by have := HN2.out; omega)
      rw [hln] at hme
      obtain ⟨ra, rc, rfl, hrow, hin⟩ := ho.row
      have hn8 := hnl
      have RW := Lib.hid hrow
      have HL := Lib.hid (show n = (at1 nmL :: keyS vs da :: ns.map at1).length by have := HN2.out; simp; omega)
      have hn12 : n ≤ 1000 := by have := HN2.out; omega
      clear hrow ho hln hnk hkk
      go_wp2_with fail
      refine (listI_any (fun b => w.heap.size + 2 ≤ b) ra n rc K (at1 nmL :: keyS vs da :: ns.map at1) wr RW.out hn12 HL.out (fun i hi => (hme.out i hi).mono (fun b h => h.1)) (fun b hb' => by show w.heap.size + 2 ≤ b; omega)).mono ?_
      rintro e w5 ⟨⟨tl, th, ta1, tn1, tc1, ta2, tn2, tc2, ta3, tn3, tc3⟩, rfl, r5, b5⟩
      have hy5 := Lib.hid (hy.after b5)
      have bb := hb.trans (b5.mono hb.size)
      unfold SV.val
      go_wp2_with (refine wpList_store_box (cells := #[.bool tl, .bool th, .slice ta1 tn1 tc1, .slice ta2 tn2 tc2, .slice ta3 tn3 tc3]) rfl 33 _ _ rfl hy5.out (by rfl) (by rfl) rfl (by kernel_rfl) (by simp [Value.oneCell']) ?_; intro u9 X9 st9)
      have B9 := st9.below w.heap.size w (by omega) bb
      have R9 : RdI (fun b => w.heap.size ≤ b) u9 ⟨tl, th, ta1, tn1, tc1, ta2, tn2, tc2, ta3, tn3, tc3⟩ (li (at1 nmL :: keyS vs da :: ns.map at1)) := (r5.keep (w' := u9) (fun b hb => st9.other b (by have := hb; omega))).mono (fun b hb => by show w.heap.size ≤ b; have := hb; omega)
      exact bodyPost_ret (v := .agg #[.bool tl, .bool th, .slice ta1 tn1 tc1, .slice ta2 tn2 tc2, .slice ta3 tn3 tc3]) (box_result rfl _ _ (by rfl) X9 Tryd.underlying33 rfl (by kernel_rfl)) rfl ⟨⟨tl, th, ta1, tn1, tc1, ta2, tn2, tc2, ta3, tn3, tc3⟩, rfl, R9, B9⟩

end Go.Proofs.YthmigigclmogiaaDoor

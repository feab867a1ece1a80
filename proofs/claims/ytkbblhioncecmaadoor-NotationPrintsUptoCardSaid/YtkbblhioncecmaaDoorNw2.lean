/- The laws NotationBoth, NotationAgrees: the walks. -/
import Derived.Test.YtkbblhioncecmaaDoorNv2
import Derived.Test.YtkbblhioncecmaaDoorNwQ
namespace Go.Proofs.YtkbblhioncecmaaDoor
open Go.RowKit
set_option linter.unusedSimpArgs false
set_option linter.unusedVariables false

set_option maxRecDepth 100000 in
theorem packed_reads (s : ByteArray) (hs : s.size ≤ 16384) : Reads 28 (Pk s.data.toList) s := by
  refine ⟨fun _ _ => rfl, fun g w hX _ => packed_any g s w hs hX, fun r hr he => ?_⟩
  have hl : s.data.toList.length = s.size := by simp
  rcases hr with ⟨_, h⟩ | ⟨_, _, h⟩ | ⟨_, _, h1, h⟩ | ⟨h1, h2, h3, sx, p, e, h4, ⟨h5, h⟩ | ⟨h5, h⟩⟩
  · subst h; simp [RV.err] at he
  · subst h; simp [RV.err] at he
  · subst h; exact absurd he h1
  · subst h; exact absurd he h5
  · subst h h5
    refine ⟨?_, 0, wide_broad _ _ (got_ok h4).2.2.1⟩
    have := (nB64_place (l := s.data.toList) (p := skipN s.data.toList 0 + 1) (en := 125) (by omega) h3).2
    rwa [hl] at this
set_option maxHeartbeats 4000000 in
set_option maxRecDepth 100000 in
theorem unpackN_any (s : ByteArray) (w : World) (ht : Tab w) : Calls Tryd.prog 13 #[.string s] w (ReadP (Pk s.data.toList) s.data.toList w) := by
  have R := Lib.hid (Box.new w 26 #[.bool false, .bool false, .slice none 0 0, .slice none 0 0, .slice none 0 0])
  have B0 : Below w.heap.size w (w.alloc (.cells #[.bool false, .bool false, .slice none 0 0, .slice none 0 0, .slice none 0 0] 26)) := (Below.refl _ _).alloc (Nat.le_refl _) _
  have CA := Lib.hid (fun w' h => reads_any 28 (Pk s.data.toList) s (packed_reads s) w' h)
  have HT := Lib.hid (ht.after B0)
  clear ht
  go_enter Tryd.func13, Tryd.ntmps13
  go_upto_region 1 with fail
  change Code.wp _ _ _ _ (w.alloc (.cells #[.bool false, .bool false, .slice none 0 0, .slice none 0 0, .slice none 0 0] 26))
  generalize (w.alloc (.cells #[.bool false, .bool false, .slice none 0 0, .slice none 0 0, .slice none 0 0] 26)) = u0 at *
  go_wp2_with fail
  refine (CA.out u0 HT.out).mono ?_
  rintro e w1 ⟨v, sx, p, x, hg, rfl, rd, b1⟩
  obtain ⟨vl, vh, a1, n1, c1, a2, n2, c2, a3, n3, c3⟩ := v
  have HG := Lib.hid hg
  have HRD := Lib.hid rd
  have hz0 := B0.size
  have hz1 := R.out.lt
  replace R := Lib.hid (R.out.after b1)
  have B1 := B0.trans (b1.mono hz0)
  clear hg rd b1
  go_wp2_with (refine wpList_store_box (cells := #[.bool vl, .bool vh, .slice a1 n1 c1, .slice a2 n2 c2, .slice a3 n3 c3]) rfl 26 _ _ rfl R.out (by rfl) (by rfl) rfl (by kernel_rfl) (by simp [Value.oneCell']) ?_; intro u9 X9 st9)
  have b9 : But (fun k => k = w.heap.size) w1 u9 := But.ofStored st9 (st9.below 0 w1 (Nat.zero_le _) (Below.refl _ _))
  exact bodyPost_ret (v := .tuple #[.agg #[.bool vl, .bool vh, .slice a1 n1 c1, .slice a2 n2 c2, .slice a3 n3 c3], .int .i64 p, .int .i64 x]) (box_result22 (p := 2) (q := 3) (r := 4) rfl _ _ (by rfl) X9 Tryd.underlying26 rfl (by kernel_rfl)) rfl ⟨⟨vl, vh, a1, n1, c1, a2, n2, c2, a3, n3, c3⟩, sx, p, x, HG.out, rfl, (HRD.out.but b9 (fun k hk e => by omega)).mono (fun k hk => by omega), b9.after B1 B1.size (fun k hk => by omega)⟩

theorem GotN.det {Rel : RV → Prop} (hR : ∀ r r', Rel r → Rel r' → r = r') {l : List UInt8} {s s' : Sx} {p p' e e' : Nat} (h : GotN Rel l s p e) (h' : GotN Rel l s' p' e') : s = s' ∧ p = p' ∧ e = e' := by
  rcases h with ⟨h1, h2, h3, h4⟩ | ⟨h1, r, hr, h2⟩
  · rcases h' with ⟨_, h2', h3', h4'⟩ | ⟨h1', _⟩
    · exact ⟨h2.trans h2'.symm, h3.trans h3'.symm, h4.trans h4'.symm⟩
    · omega
  · rcases h' with ⟨h1', _⟩ | ⟨_, r', hr', h2'⟩
    · omega
    · obtain rfl := hR _ _ hr hr'
      rcases h2 with ⟨a, b, c, d⟩ | ⟨a, a', b, c, d⟩ | ⟨a, a', a'', b, c, d⟩ | ⟨a, a', a'', b, c, d⟩ <;> rcases h2' with ⟨a1, b1, c1, d1⟩ | ⟨a1, a2, b1, c1, d1⟩ | ⟨a1, a2, a3, b1, c1, d1⟩ | ⟨a1, a2, a3, b1, c1, d1⟩ <;>
        first | exact ⟨b.trans b1.symm, c.trans c1.symm, d.trans d1.symm⟩ | (exfalso; omega) | (exfalso; rw [a''] at a3; cases a3)
theorem nt_one {l : List UInt8} : ∀ r r' : RV, Nt l none 0 1 0 r → Nt l none 0 1 0 r' → r = r' := fun _ _ h h' => h.det h'
theorem pk_one {l : List UInt8} : ∀ r r' : RV, Pk l r → Pk l r' → r = r' := fun _ _ h h' => h.det h'
theorem bytes_back (l : List UInt8) : (ByteArray.mk l.toArray).data.toList = l := by simp
set_option maxHeartbeats 32000000 in
set_option maxRecDepth 100000 in
theorem NotationBoth_walk (a : Option Addr) (n c : Nat) (l : List UInt8) (w : World) (ht : Tab w) (hs : Sl w a n c l) : Calls Tryd.prog 4 #[.slice a n c] w fun e w' => e = .returned (.bool true) ∧ Below w.heap.size w w' := by
  have HT := Lib.hid ht
  have HS := Lib.hid hs
  have hnl := hs.1
  have HNL := Lib.hid hnl
  have B : Below w.heap.size w w := Below.refl _ _
  clear ht hs hnl
  by_cases hlong : 5000 < n
  case pos =>
    have hlong' : (5000 : Int) < (n : Int) := by omega
    go_enter Tryd.func4, Tryd.ntmps4
    go_wp2_with fail
    refine (awake_any _ HT.out).mono ?_
    rintro e x99 ⟨rfl, bx99⟩
    replace B := B.trans (bx99.mono B.size)
    go_wp2_with fail
    go_ret
    exact ⟨rfl, B⟩
  have hlong' : ¬ (5000 : Int) < (n : Int) := by omega
  go_enter Tryd.func4, Tryd.ntmps4
  go_wp2_with fail
  refine (getO_any a n c l w HS.out).mono ?_
  rintro e x1 ⟨v, sx, p, x, hg, rfl, rd, bx1⟩
  obtain ⟨vl, vh, va1, vn1, vc1, va2, vn2, vc2, va3, vn3, vc3⟩ := v
  have RD := Lib.hid (rd.mono (ok' := fun _ => True) (fun _ _ => trivial))
  have HGT := Lib.hid hg
  clear rd hg
  replace HT := Lib.hid (HT.out.after bx1)
  replace HS := Lib.hid (HS.out.after bx1)
  replace B := B.trans (bx1.mono B.size)
  clear bx1
  go_upto_region 4 with (refine wpList_store_box (cells := #[.bool vl, .bool vh, .slice va1 vn1 vc1, .slice va2 vn2 vc2, .slice va3 vn3 vc3]) rfl 26 _ _ rfl (Box.new _ _ _) (by rfl) (by rfl) rfl (by kernel_rfl) (by simp [Value.oneCell']) ?_; intro u9 X9 st9)
  have bs2 : Below x1.heap.size x1 u9 := st9.below x1.heap.size x1 (Nat.le_refl _) ((Below.refl _ _).alloc (Nat.le_refl _) _)
  have Y1 := Lib.hid X9
  replace HT := Lib.hid (HT.out.after bs2)
  replace HS := Lib.hid (HS.out.after bs2)
  replace RD := Lib.hid (RD.out.after bs2)
  replace B := B.trans (bs2.mono B.size)
  clear bs2 st9 X9
  generalize u9 = x2 at *
  generalize x1.heap.size = y1 at *
  have q1 := conv_sl HS.out
  go_wp2_with fail
  refine (readN_any ⟨l.toArray⟩ x2 HT.out).mono ?_
  rintro e x5 ⟨u, sx2, p2, x2_, hg, rfl, rd, bx5⟩
  obtain ⟨ul, uh, ua1, un1, uc1, ua2, un2, uc2, ua3, un3, uc3⟩ := u
  have RD2 := Lib.hid (rd.mono (ok' := fun _ => True) (fun _ _ => trivial))
  rw [bytes_back] at hg
  have HG2 := Lib.hid hg
  clear rd hg q1
  replace HT := Lib.hid (HT.out.after bx5)
  replace HS := Lib.hid (HS.out.after bx5)
  replace RD := Lib.hid (RD.out.after bx5)
  replace Y1 := Lib.hid (Y1.out.after bx5)
  replace B := B.trans (bx5.mono B.size)
  clear bx5
  go_upto_region 5 with (refine wpList_store_box (cells := #[.bool ul, .bool uh, .slice ua1 un1 uc1, .slice ua2 un2 uc2, .slice ua3 un3 uc3]) rfl 26 _ _ rfl (Box.new _ _ _) (by rfl) (by rfl) rfl (by kernel_rfl) (by simp [Value.oneCell']) ?_; intro u9 X9 st9)
  have bs6 : Below x5.heap.size x5 u9 := st9.below x5.heap.size x5 (Nat.le_refl _) ((Below.refl _ _).alloc (Nat.le_refl _) _)
  have Y2 := Lib.hid X9
  replace HT := Lib.hid (HT.out.after bs6)
  replace HS := Lib.hid (HS.out.after bs6)
  replace RD := Lib.hid (RD.out.after bs6)
  replace Y1 := Lib.hid (Y1.out.after bs6)
  replace RD2 := Lib.hid (RD2.out.after bs6)
  replace B := B.trans (bs6.mono B.size)
  clear bs6 st9 X9
  generalize u9 = x6 at *
  generalize x5.heap.size = y2 at *
  by_cases hx : x = 0
  case neg =>
    obtain ⟨z1, z2⟩ := nat_ne hx
    go_wp2_with fail
    refine (awake_any _ HT.out).mono ?_
    rintro e x99 ⟨rfl, bx99⟩
    replace B := B.trans (bx99.mono B.size)
    go_wp2_with fail
    go_ret
    exact ⟨rfl, B⟩
  subst hx
  obtain ⟨rfl, rfl, rfl⟩ := GotN.det nt_one HG2.out (got_adv HGT.out (by have := HNL.out; omega))
  go_upto_region 7 with fail
  go_step
  refine wpList_made 14 x6.heap.size x6 (Below.refl _ _) ?_
  simp only [List.take_succ_cons, List.take_zero, List.drop_succ_cons, List.drop_zero]
  refine wpQ_run rfl (.int .i64 0) (fun w' hw => by simp [go_sem]) ?_
  simp only [Act.put, List.setIfInBounds_toArray, List.set_cons_zero, List.set_cons_succ]
  refine wpQ_run rfl (.bool true) (fun w' hw => by simp [go_sem]) ?_
  simp only [Act.put, List.setIfInBounds_toArray, List.set_cons_zero, List.set_cons_succ]
  refine wpQ_run rfl (.bool true) (fun w' hw => by simp [go_sem]) ?_
  simp only [Act.put, List.setIfInBounds_toArray, List.set_cons_zero, List.set_cons_succ]
  refine wpQ_run rfl (.int .i64 0) (fun w' hw => by simp [go_sem]) ?_
  simp only [Act.put, List.setIfInBounds_toArray, List.set_cons_zero, List.set_cons_succ]
  refine wpQ_run rfl (.bool true) (fun w' hw => by simp [go_sem]) ?_
  simp only [Act.put, List.setIfInBounds_toArray, List.set_cons_zero, List.set_cons_succ]
  refine wpQ_run rfl (.bool true) (fun w' hw => by simp [go_sem]) ?_
  simp only [Act.put, List.setIfInBounds_toArray, List.set_cons_zero, List.set_cons_succ]
  refine wpQ_run rfl (.bool true) (fun w' hw => by simp [go_sem]) ?_
  simp only [Act.put, List.setIfInBounds_toArray, List.set_cons_zero, List.set_cons_succ]
  refine wpQ_load_box rfl 26 _ rfl Y1.out (by rfl) Y1.out.lt Tryd.underlying26 rfl (by kernel_rfl) ?_
  simp only [Act.put, List.setIfInBounds_toArray, List.set_cons_zero, List.set_cons_succ]
  refine wpQ_load_box rfl 26 _ rfl Y2.out (by rfl) Y2.out.lt Tryd.underlying26 rfl (by kernel_rfl) ?_
  simp only [Act.put, List.setIfInBounds_toArray, List.set_cons_zero, List.set_cons_succ]
  refine wpQ_callS rfl 11 #[.agg #[.bool vl, .bool vh, .slice va1 vn1 vc1, .slice va2 vn2 vc2, .slice va3 vn3 vc3], .agg #[.bool ul, .bool uh, .slice ua1 un1 uc1, .slice ua2 un2 uc2, .slice ua3 un3 uc3]] (fun w' => by simp [go_sem]) (.bool true) (Nat.le_refl _) (fun w' hw => by have := refSame_any sx2 sx2 ⟨vl, vh, va1, vn1, vc1, va2, vn2, vc2, va3, vn3, vc3⟩ ⟨ul, uh, ua1, un1, uc1, ua2, un2, uc2, ua3, un3, uc3⟩ w' (RD.out.after hw) (RD2.out.after hw); rw [Sx.same_refl] at this; exact this) ?_
  simp only [Act.put, List.setIfInBounds_toArray, List.set_cons_zero, List.set_cons_succ]
  refine wpQ_run rfl (.bool true) (fun w' hw => by simp [go_sem]) ?_
  simp only [Act.put, List.setIfInBounds_toArray, List.set_cons_zero, List.set_cons_succ]
  refine wpQ_run rfl (.bool true) (fun w' hw => by simp [go_sem]) ?_
  simp only [Act.put, List.setIfInBounds_toArray, List.set_cons_zero, List.set_cons_succ]
  refine wpQ_callS rfl 8 #[] (fun w' => by simp [go_sem]) (.bool true) (Nat.le_refl _) (fun w' hw => awake_any w' (HT.out.after hw)) ?_
  simp only [Act.put, List.setIfInBounds_toArray, List.set_cons_zero, List.set_cons_succ]
  refine wpQ_run rfl (.bool true) (fun w' hw => by simp [go_sem]) ?_
  simp only [Act.put, List.setIfInBounds_toArray, List.set_cons_zero, List.set_cons_succ]
  intro y30 hb30
  replace HT := Lib.hid (HT.out.after hb30)
  replace HS := Lib.hid (HS.out.after hb30)
  replace RD := Lib.hid (RD.out.after hb30)
  replace Y1 := Lib.hid (Y1.out.after hb30)
  replace RD2 := Lib.hid (RD2.out.after hb30)
  replace Y2 := Lib.hid (Y2.out.after hb30)
  replace B := B.trans (hb30.mono B.size)
  clear hb30
  go_wp2_with fail
  go_ret
  exact ⟨rfl, B⟩
set_option maxHeartbeats 32000000 in
set_option maxRecDepth 100000 in
theorem NotationAgrees_walk (a : Option Addr) (n c : Nat) (l : List UInt8) (w : World) (ht : Tab w) (hs : Sl w a n c l) : Calls Tryd.prog 5 #[.slice a n c] w fun e w' => e = .returned (.bool true) ∧ Below w.heap.size w w' := by
  have HT := Lib.hid ht
  have HS := Lib.hid hs
  have hnl := hs.1
  have HNL := Lib.hid hnl
  have B : Below w.heap.size w w := Below.refl _ _
  clear ht hs hnl
  by_cases hlong : 5000 < n
  case pos =>
    have hlong' : (5000 : Int) < (n : Int) := by omega
    go_enter Tryd.func5, Tryd.ntmps5
    go_wp2_with fail
    refine (awake_any _ HT.out).mono ?_
    rintro e x99 ⟨rfl, bx99⟩
    replace B := B.trans (bx99.mono B.size)
    go_wp2_with fail
    go_ret
    exact ⟨rfl, B⟩
  have hlong' : ¬ (5000 : Int) < (n : Int) := by omega
  go_enter Tryd.func5, Tryd.ntmps5
  go_wp2_with fail
  refine (getO_any a n c l w HS.out).mono ?_
  rintro e x1 ⟨v, sx, p, x, hg, rfl, rd, bx1⟩
  obtain ⟨vl, vh, va1, vn1, vc1, va2, vn2, vc2, va3, vn3, vc3⟩ := v
  have RD := Lib.hid (rd.mono (ok' := fun _ => True) (fun _ _ => trivial))
  have HGT := Lib.hid hg
  clear rd hg
  replace HT := Lib.hid (HT.out.after bx1)
  replace HS := Lib.hid (HS.out.after bx1)
  replace B := B.trans (bx1.mono B.size)
  clear bx1
  go_upto_region 4 with (refine wpList_store_box (cells := #[.bool vl, .bool vh, .slice va1 vn1 vc1, .slice va2 vn2 vc2, .slice va3 vn3 vc3]) rfl 26 _ _ rfl (Box.new _ _ _) (by rfl) (by rfl) rfl (by kernel_rfl) (by simp [Value.oneCell']) ?_; intro u9 X9 st9)
  have bs2 : Below x1.heap.size x1 u9 := st9.below x1.heap.size x1 (Nat.le_refl _) ((Below.refl _ _).alloc (Nat.le_refl _) _)
  have Y1 := Lib.hid X9
  replace HT := Lib.hid (HT.out.after bs2)
  replace HS := Lib.hid (HS.out.after bs2)
  replace RD := Lib.hid (RD.out.after bs2)
  replace B := B.trans (bs2.mono B.size)
  clear bs2 st9 X9
  generalize u9 = x2 at *
  generalize x1.heap.size = y1 at *
  by_cases hx : x = 0
  case neg =>
    obtain ⟨z1, z2⟩ := nat_ne hx
    go_wp2_with fail
    refine (awake_any _ HT.out).mono ?_
    rintro e x99 ⟨rfl, bx99⟩
    replace B := B.trans (bx99.mono B.size)
    go_wp2_with fail
    go_ret
    exact ⟨rfl, B⟩
  subst hx
  obtain ⟨hform, hmay, hwide, _⟩ := got_ok HGT.out
  have HFORM := Lib.hid hform
  have HMAY := Lib.hid hmay
  have HWIDE := Lib.hid hwide
  clear hform hmay hwide
  go_wp2_with fail
  refine (refB64_any a n c l x2 HS.out (by have := HNL.out; omega)).mono ?_
  rintro e x4 ⟨rfl, bx4⟩
  replace HT := Lib.hid (HT.out.after bx4)
  replace HS := Lib.hid (HS.out.after bx4)
  replace RD := Lib.hid (RD.out.after bx4)
  replace Y1 := Lib.hid (Y1.out.after bx4)
  replace B := B.trans (bx4.mono B.size)
  clear bx4
  have hbl : (b64 l).length ≤ 12000 := by have := b64_len l; have := HNL.out; omega
  go_wp2_with fail
  refine (unpackN_any _ x4 HT.out).mono ?_
  rintro e x5 ⟨u, sx2, p2, x2_, hg, rfl, rd, bx5⟩
  obtain ⟨ul, uh, ua1, un1, uc1, ua2, un2, uc2, ua3, un3, uc3⟩ := u
  have RD2 := Lib.hid (rd.mono (ok' := fun _ => True) (fun _ _ => trivial))
  obtain ⟨rfl, rfl, rfl⟩ : sx2 = sx ∧ p2 = 0 ∧ x2_ = 0 := by
    have e0 : ((ByteArray.mk #[123] ++ ByteArray.mk (b64 l).toArray) ++ ByteArray.mk #[125]).data.toList = [] ++ sx.pack ++ [] := by rw [Sx.pack, HFORM.out]; simp [ByteArray.data_append]
    rw [e0] at hg
    exact GotN.det pk_one hg (pack_read HMAY.out (fun _ h => by cases h) (fun _ h => by cases h) (by rw [Sx.pack, HFORM.out]; simp; omega))
  clear rd hg
  replace HT := Lib.hid (HT.out.after bx5)
  replace HS := Lib.hid (HS.out.after bx5)
  replace RD := Lib.hid (RD.out.after bx5)
  replace Y1 := Lib.hid (Y1.out.after bx5)
  replace B := B.trans (bx5.mono B.size)
  clear bx5
  go_upto_region 7 with (refine wpList_store_box (cells := #[.bool ul, .bool uh, .slice ua1 un1 uc1, .slice ua2 un2 uc2, .slice ua3 un3 uc3]) rfl 26 _ _ rfl (Box.new _ _ _) (by rfl) (by rfl) rfl (by kernel_rfl) (by simp [Value.oneCell']) ?_; intro u9 X9 st9)
  have bs6 : Below x5.heap.size x5 u9 := st9.below x5.heap.size x5 (Nat.le_refl _) ((Below.refl _ _).alloc (Nat.le_refl _) _)
  have Y2 := Lib.hid X9
  replace HT := Lib.hid (HT.out.after bs6)
  replace HS := Lib.hid (HS.out.after bs6)
  replace RD := Lib.hid (RD.out.after bs6)
  replace Y1 := Lib.hid (Y1.out.after bs6)
  replace RD2 := Lib.hid (RD2.out.after bs6)
  replace B := B.trans (bs6.mono B.size)
  clear bs6 st9 X9
  generalize u9 = x6 at *
  generalize x5.heap.size = y2 at *
  go_wp2_with (refine wpList_load_box rfl 26 _ rfl Y1.out (by rfl) Tryd.underlying26 rfl (by kernel_rfl) ?_)
  refine (print_any sx2 ⟨vl, vh, va1, vn1, vc1, va2, vn2, vc2, va3, vn3, vc3⟩ x6 RD.out 0 (wide_broad _ _ HWIDE.out) HT.out).mono ?_
  rintro e x8 ⟨t, x, rfl, ht, hx, bx8⟩
  rw [HMAY.out, if_pos rfl] at ht hx
  subst hx
  have HTT := Lib.hid ht
  clear ht
  replace HT := Lib.hid (HT.out.after bx8)
  replace HS := Lib.hid (HS.out.after bx8)
  replace RD := Lib.hid (RD.out.after bx8)
  replace Y1 := Lib.hid (Y1.out.after bx8)
  replace RD2 := Lib.hid (RD2.out.after bx8)
  replace Y2 := Lib.hid (Y2.out.after bx8)
  replace B := B.trans (bx8.mono B.size)
  clear bx8
  go_wp2_with fail
  refine (readN_any t x8 HT.out).mono ?_
  rintro e x9 ⟨r, sx3, p3, x3_, hg, rfl, rd, bx9⟩
  obtain ⟨rl, rh, ra1, rn1, rc1, ra2, rn2, rc2, ra3, rn3, rc3⟩ := r
  have RD3 := Lib.hid (rd.mono (ok' := fun _ => True) (fun _ _ => trivial))
  rw [HTT.out] at hg
  have HG3 := Lib.hid hg
  have HTL : Hid (t.size = sx2.adv.length) := Lib.hid (by rw [← HTT.out]; simp)
  clear rd hg
  replace HT := Lib.hid (HT.out.after bx9)
  replace HS := Lib.hid (HS.out.after bx9)
  replace RD := Lib.hid (RD.out.after bx9)
  replace Y1 := Lib.hid (Y1.out.after bx9)
  replace RD2 := Lib.hid (RD2.out.after bx9)
  replace Y2 := Lib.hid (Y2.out.after bx9)
  replace B := B.trans (bx9.mono B.size)
  clear bx9
  go_upto_region 9 with (refine wpList_store_box (cells := #[.bool rl, .bool rh, .slice ra1 rn1 rc1, .slice ra2 rn2 rc2, .slice ra3 rn3 rc3]) rfl 26 _ _ rfl (Box.new _ _ _) (by rfl) (by rfl) rfl (by kernel_rfl) (by simp [Value.oneCell']) ?_; intro u9 X9 st9)
  have bs10 : Below x9.heap.size x9 u9 := st9.below x9.heap.size x9 (Nat.le_refl _) ((Below.refl _ _).alloc (Nat.le_refl _) _)
  have Y3 := Lib.hid X9
  replace HT := Lib.hid (HT.out.after bs10)
  replace HS := Lib.hid (HS.out.after bs10)
  replace RD := Lib.hid (RD.out.after bs10)
  replace Y1 := Lib.hid (Y1.out.after bs10)
  replace RD2 := Lib.hid (RD2.out.after bs10)
  replace Y2 := Lib.hid (Y2.out.after bs10)
  replace RD3 := Lib.hid (RD3.out.after bs10)
  replace B := B.trans (bs10.mono B.size)
  clear bs10 st9 X9
  generalize u9 = x10 at *
  generalize x9.heap.size = y3 at *
  by_cases hlen : 16384 < t.size
  case pos =>
    have hlen' : (16384 : Int) < (t.size : Int) := by omega
    go_step
    refine wpList_made 28 x10.heap.size x10 (Below.refl _ _) ?_
    simp only [List.take_succ_cons, List.take_zero, List.drop_succ_cons, List.drop_zero]
    refine wpQ_run rfl (.int .i64 0) (fun w' hw => by simp [go_sem]) ?_
    simp only [Act.put, List.setIfInBounds_toArray, List.set_cons_zero, List.set_cons_succ]
    refine wpQ_run rfl (.bool true) (fun w' hw => by simp [go_sem]) ?_
    simp only [Act.put, List.setIfInBounds_toArray, List.set_cons_zero, List.set_cons_succ]
    refine wpQ_run rfl (.bool true) (fun w' hw => by simp [go_sem]) ?_
    simp only [Act.put, List.setIfInBounds_toArray, List.set_cons_zero, List.set_cons_succ]
    refine wpQ_load_box rfl 26 _ rfl Y1.out (by rfl) Y1.out.lt Tryd.underlying26 rfl (by kernel_rfl) ?_
    simp only [Act.put, List.setIfInBounds_toArray, List.set_cons_zero, List.set_cons_succ]
    refine wpQ_load_box rfl 26 _ rfl Y2.out (by rfl) Y2.out.lt Tryd.underlying26 rfl (by kernel_rfl) ?_
    simp only [Act.put, List.setIfInBounds_toArray, List.set_cons_zero, List.set_cons_succ]
    refine wpQ_callS rfl 11 #[.agg #[.bool vl, .bool vh, .slice va1 vn1 vc1, .slice va2 vn2 vc2, .slice va3 vn3 vc3], .agg #[.bool ul, .bool uh, .slice ua1 un1 uc1, .slice ua2 un2 uc2, .slice ua3 un3 uc3]] (fun w' => by simp [go_sem]) (.bool true) (Nat.le_refl _) (fun w' hw => by have := refSame_any sx2 sx2 ⟨vl, vh, va1, vn1, vc1, va2, vn2, vc2, va3, vn3, vc3⟩ ⟨ul, uh, ua1, un1, uc1, ua2, un2, uc2, ua3, un3, uc3⟩ w' (RD.out.after hw) (RD2.out.after hw); rw [Sx.same_refl] at this; exact this) ?_
    simp only [Act.put, List.setIfInBounds_toArray, List.set_cons_zero, List.set_cons_succ]
    refine wpQ_run rfl (.bool true) (fun w' hw => by simp [go_sem]) ?_
    simp only [Act.put, List.setIfInBounds_toArray, List.set_cons_zero, List.set_cons_succ]
    refine wpQ_run rfl (.bool true) (fun w' hw => by simp [go_sem]) ?_
    simp only [Act.put, List.setIfInBounds_toArray, List.set_cons_zero, List.set_cons_succ]
    refine wpQ_run rfl (.int .i64 0) (fun w' hw => by simp [go_sem]) ?_
    simp only [Act.put, List.setIfInBounds_toArray, List.set_cons_zero, List.set_cons_succ]
    refine wpQ_run rfl (.bool true) (fun w' hw => by simp [go_sem]) ?_
    simp only [Act.put, List.setIfInBounds_toArray, List.set_cons_zero, List.set_cons_succ]
    refine wpQ_run rfl (.bool true) (fun w' hw => by simp [go_sem]) ?_
    simp only [Act.put, List.setIfInBounds_toArray, List.set_cons_zero, List.set_cons_succ]
    refine wpQ_run rfl (.bool true) (fun w' hw => by simp [go_sem]) ?_
    simp only [Act.put, List.setIfInBounds_toArray, List.set_cons_zero, List.set_cons_succ]
    refine wpQ_run rfl (.string t) (fun w' hw => by simp [go_sem]) ?_
    simp only [Act.put, List.setIfInBounds_toArray, List.set_cons_zero, List.set_cons_succ]
    refine wpQ_run rfl (.int .i64 t.size) (fun w' hw => by simp [go_sem]) ?_
    simp only [Act.put, List.setIfInBounds_toArray, List.set_cons_zero, List.set_cons_succ]
    refine wpQ_run rfl (.bool true) (fun w' hw => by simp [go_sem, hlen']) ?_
    simp only [Act.put, List.setIfInBounds_toArray, List.set_cons_zero, List.set_cons_succ]
    refine wpQ_run rfl (.bool true) (fun w' hw => by simp [go_sem]) ?_
    simp only [Act.put, List.setIfInBounds_toArray, List.set_cons_zero, List.set_cons_succ]
    refine wpQ_skip rfl ?_
    simp only [Act.put, List.setIfInBounds_toArray, List.set_cons_zero, List.set_cons_succ]
    refine wpQ_skip rfl ?_
    simp only [Act.put, List.setIfInBounds_toArray, List.set_cons_zero, List.set_cons_succ]
    refine wpQ_skip rfl ?_
    simp only [Act.put, List.setIfInBounds_toArray, List.set_cons_zero, List.set_cons_succ]
    refine wpQ_skip rfl ?_
    simp only [Act.put, List.setIfInBounds_toArray, List.set_cons_zero, List.set_cons_succ]
    refine wpQ_skip rfl ?_
    simp only [Act.put, List.setIfInBounds_toArray, List.set_cons_zero, List.set_cons_succ]
    refine wpQ_skip rfl ?_
    simp only [Act.put, List.setIfInBounds_toArray, List.set_cons_zero, List.set_cons_succ]
    refine wpQ_skip rfl ?_
    simp only [Act.put, List.setIfInBounds_toArray, List.set_cons_zero, List.set_cons_succ]
    refine wpQ_run rfl (.bool true) (fun w' hw => by simp [go_sem]) ?_
    simp only [Act.put, List.setIfInBounds_toArray, List.set_cons_zero, List.set_cons_succ]
    refine wpQ_run rfl (.bool true) (fun w' hw => by simp [go_sem]) ?_
    simp only [Act.put, List.setIfInBounds_toArray, List.set_cons_zero, List.set_cons_succ]
    refine wpQ_run rfl (.bool true) (fun w' hw => by simp [go_sem]) ?_
    simp only [Act.put, List.setIfInBounds_toArray, List.set_cons_zero, List.set_cons_succ]
    refine wpQ_callS rfl 8 #[] (fun w' => by simp [go_sem]) (.bool true) (Nat.le_refl _) (fun w' hw => awake_any w' (HT.out.after hw)) ?_
    simp only [Act.put, List.setIfInBounds_toArray, List.set_cons_zero, List.set_cons_succ]
    refine wpQ_run rfl (.bool true) (fun w' hw => by simp [go_sem]) ?_
    simp only [Act.put, List.setIfInBounds_toArray, List.set_cons_zero, List.set_cons_succ]
    intro y40 hb40
    replace HT := Lib.hid (HT.out.after hb40)
    replace HS := Lib.hid (HS.out.after hb40)
    replace RD := Lib.hid (RD.out.after hb40)
    replace Y1 := Lib.hid (Y1.out.after hb40)
    replace RD2 := Lib.hid (RD2.out.after hb40)
    replace Y2 := Lib.hid (Y2.out.after hb40)
    replace RD3 := Lib.hid (RD3.out.after hb40)
    replace Y3 := Lib.hid (Y3.out.after hb40)
    replace B := B.trans (hb40.mono B.size)
    clear hb40
    go_wp2_with fail
    go_ret
    exact ⟨rfl, B⟩
  have hlen' : ¬ (16384 : Int) < (t.size : Int) := by omega
  obtain ⟨rfl, rfl, rfl⟩ : sx3 = sx2 ∧ p3 = 0 ∧ x3_ = 0 := GotN.det nt_one HG3.out (by have := adv_read HMAY.out (a := []) (b := []) (fun _ h => by cases h) (fun _ h => by cases h) (by have := HTL.out; simp; omega); simpa using this)
  go_step
  refine wpList_made 28 x10.heap.size x10 (Below.refl _ _) ?_
  simp only [List.take_succ_cons, List.take_zero, List.drop_succ_cons, List.drop_zero]
  refine wpQ_run rfl (.int .i64 0) (fun w' hw => by simp [go_sem]) ?_
  simp only [Act.put, List.setIfInBounds_toArray, List.set_cons_zero, List.set_cons_succ]
  refine wpQ_run rfl (.bool true) (fun w' hw => by simp [go_sem]) ?_
  simp only [Act.put, List.setIfInBounds_toArray, List.set_cons_zero, List.set_cons_succ]
  refine wpQ_run rfl (.bool true) (fun w' hw => by simp [go_sem]) ?_
  simp only [Act.put, List.setIfInBounds_toArray, List.set_cons_zero, List.set_cons_succ]
  refine wpQ_load_box rfl 26 _ rfl Y1.out (by rfl) Y1.out.lt Tryd.underlying26 rfl (by kernel_rfl) ?_
  simp only [Act.put, List.setIfInBounds_toArray, List.set_cons_zero, List.set_cons_succ]
  refine wpQ_load_box rfl 26 _ rfl Y2.out (by rfl) Y2.out.lt Tryd.underlying26 rfl (by kernel_rfl) ?_
  simp only [Act.put, List.setIfInBounds_toArray, List.set_cons_zero, List.set_cons_succ]
  refine wpQ_callS rfl 11 #[.agg #[.bool vl, .bool vh, .slice va1 vn1 vc1, .slice va2 vn2 vc2, .slice va3 vn3 vc3], .agg #[.bool ul, .bool uh, .slice ua1 un1 uc1, .slice ua2 un2 uc2, .slice ua3 un3 uc3]] (fun w' => by simp [go_sem]) (.bool true) (Nat.le_refl _) (fun w' hw => by have := refSame_any sx3 sx3 ⟨vl, vh, va1, vn1, vc1, va2, vn2, vc2, va3, vn3, vc3⟩ ⟨ul, uh, ua1, un1, uc1, ua2, un2, uc2, ua3, un3, uc3⟩ w' (RD.out.after hw) (RD2.out.after hw); rw [Sx.same_refl] at this; exact this) ?_
  simp only [Act.put, List.setIfInBounds_toArray, List.set_cons_zero, List.set_cons_succ]
  refine wpQ_run rfl (.bool true) (fun w' hw => by simp [go_sem]) ?_
  simp only [Act.put, List.setIfInBounds_toArray, List.set_cons_zero, List.set_cons_succ]
  refine wpQ_run rfl (.bool true) (fun w' hw => by simp [go_sem]) ?_
  simp only [Act.put, List.setIfInBounds_toArray, List.set_cons_zero, List.set_cons_succ]
  refine wpQ_run rfl (.int .i64 0) (fun w' hw => by simp [go_sem]) ?_
  simp only [Act.put, List.setIfInBounds_toArray, List.set_cons_zero, List.set_cons_succ]
  refine wpQ_run rfl (.bool true) (fun w' hw => by simp [go_sem]) ?_
  simp only [Act.put, List.setIfInBounds_toArray, List.set_cons_zero, List.set_cons_succ]
  refine wpQ_run rfl (.bool true) (fun w' hw => by simp [go_sem]) ?_
  simp only [Act.put, List.setIfInBounds_toArray, List.set_cons_zero, List.set_cons_succ]
  refine wpQ_run rfl (.bool true) (fun w' hw => by simp [go_sem]) ?_
  simp only [Act.put, List.setIfInBounds_toArray, List.set_cons_zero, List.set_cons_succ]
  refine wpQ_run rfl (.string t) (fun w' hw => by simp [go_sem]) ?_
  simp only [Act.put, List.setIfInBounds_toArray, List.set_cons_zero, List.set_cons_succ]
  refine wpQ_run rfl (.int .i64 t.size) (fun w' hw => by simp [go_sem]) ?_
  simp only [Act.put, List.setIfInBounds_toArray, List.set_cons_zero, List.set_cons_succ]
  refine wpQ_run rfl (.bool false) (fun w' hw => by simp [go_sem, hlen']) ?_
  simp only [Act.put, List.setIfInBounds_toArray, List.set_cons_zero, List.set_cons_succ]
  refine wpQ_run rfl (.bool false) (fun w' hw => by simp [go_sem]) ?_
  simp only [Act.put, List.setIfInBounds_toArray, List.set_cons_zero, List.set_cons_succ]
  refine wpQ_run rfl (.int .i64 0) (fun w' hw => by simp [go_sem]) ?_
  simp only [Act.put, List.setIfInBounds_toArray, List.set_cons_zero, List.set_cons_succ]
  refine wpQ_run rfl (.bool true) (fun w' hw => by simp [go_sem]) ?_
  simp only [Act.put, List.setIfInBounds_toArray, List.set_cons_zero, List.set_cons_succ]
  refine wpQ_run rfl (.bool true) (fun w' hw => by simp [go_sem]) ?_
  simp only [Act.put, List.setIfInBounds_toArray, List.set_cons_zero, List.set_cons_succ]
  refine wpQ_load_box rfl 26 _ rfl Y1.out (by rfl) Y1.out.lt Tryd.underlying26 rfl (by kernel_rfl) ?_
  simp only [Act.put, List.setIfInBounds_toArray, List.set_cons_zero, List.set_cons_succ]
  refine wpQ_load_box rfl 26 _ rfl Y3.out (by rfl) Y3.out.lt Tryd.underlying26 rfl (by kernel_rfl) ?_
  simp only [Act.put, List.setIfInBounds_toArray, List.set_cons_zero, List.set_cons_succ]
  refine wpQ_callS rfl 11 #[.agg #[.bool vl, .bool vh, .slice va1 vn1 vc1, .slice va2 vn2 vc2, .slice va3 vn3 vc3], .agg #[.bool rl, .bool rh, .slice ra1 rn1 rc1, .slice ra2 rn2 rc2, .slice ra3 rn3 rc3]] (fun w' => by simp [go_sem]) (.bool true) (Nat.le_refl _) (fun w' hw => by have := refSame_any sx3 sx3 ⟨vl, vh, va1, vn1, vc1, va2, vn2, vc2, va3, vn3, vc3⟩ ⟨rl, rh, ra1, rn1, rc1, ra2, rn2, rc2, ra3, rn3, rc3⟩ w' (RD.out.after hw) (RD3.out.after hw); rw [Sx.same_refl] at this; exact this) ?_
  simp only [Act.put, List.setIfInBounds_toArray, List.set_cons_zero, List.set_cons_succ]
  refine wpQ_run rfl (.bool true) (fun w' hw => by simp [go_sem]) ?_
  simp only [Act.put, List.setIfInBounds_toArray, List.set_cons_zero, List.set_cons_succ]
  refine wpQ_run rfl (.bool true) (fun w' hw => by simp [go_sem]) ?_
  simp only [Act.put, List.setIfInBounds_toArray, List.set_cons_zero, List.set_cons_succ]
  refine wpQ_run rfl (.bool true) (fun w' hw => by simp [go_sem]) ?_
  simp only [Act.put, List.setIfInBounds_toArray, List.set_cons_zero, List.set_cons_succ]
  refine wpQ_run rfl (.bool true) (fun w' hw => by simp [go_sem]) ?_
  simp only [Act.put, List.setIfInBounds_toArray, List.set_cons_zero, List.set_cons_succ]
  refine wpQ_callS rfl 8 #[] (fun w' => by simp [go_sem]) (.bool true) (Nat.le_refl _) (fun w' hw => awake_any w' (HT.out.after hw)) ?_
  simp only [Act.put, List.setIfInBounds_toArray, List.set_cons_zero, List.set_cons_succ]
  refine wpQ_run rfl (.bool true) (fun w' hw => by simp [go_sem]) ?_
  simp only [Act.put, List.setIfInBounds_toArray, List.set_cons_zero, List.set_cons_succ]
  intro y41 hb41
  replace HT := Lib.hid (HT.out.after hb41)
  replace HS := Lib.hid (HS.out.after hb41)
  replace RD := Lib.hid (RD.out.after hb41)
  replace Y1 := Lib.hid (Y1.out.after hb41)
  replace RD2 := Lib.hid (RD2.out.after hb41)
  replace Y2 := Lib.hid (Y2.out.after hb41)
  replace RD3 := Lib.hid (RD3.out.after hb41)
  replace Y3 := Lib.hid (Y3.out.after hb41)
  replace B := B.trans (hb41.mono B.size)
  clear hb41
  go_wp2_with fail
  go_ret
  exact ⟨rfl, B⟩

end Go.Proofs.YtkbblhioncecmaaDoor

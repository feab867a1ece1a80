/- The document's Same of subjects: what it computes. -/
import Derived.Test.YthmigigclmogiaaDoorSj4
namespace Go.Proofs.YthmigigclmogiaaDoor
open Go.RowKit
set_option linter.unusedSimpArgs false
set_option linter.unusedVariables false

set_option maxHeartbeats 16000000 in
set_option maxRecDepth 100000 in
theorem refSameJ_any (s : Sj) : ∀ (t : Sj) (v u : JV) (w : World), RdJ (fun _ => True) w v s → RdJ (fun _ => True) w u t → Calls Tryd.prog 12 #[v.val, u.val] w fun e w' => e = .returned (.bool (s.same t)) ∧ Below w.heap.size w w' := by
  induction s using Sj.ind with
  | h kd sb da ns kk ks ih =>
  intro t v u w hr hru
  obtain ⟨kd2, sb2, da2, ns2, kk2, ks2⟩ := t
  have IH := Lib.hid ih
  clear ih
  have HRR := Lib.hid hr
  obtain ⟨⟨hkd, hsb, hkk, hb8, hk0, hk1⟩, hs1, hn, ⟨Z, hN⟩, K, hrow, hk⟩ := hr.parts
  obtain ⟨vkd, vs, va1, vn1, vc1, va2, vn2, vc2, vk, va3, vn3, vc3⟩ := v
  dsimp only at hkd hsb hkk hb8 hk0 hk1 hs1 hn hN hrow hk
  obtain rfl : vkd = kd := hkd
  obtain rfl : vs = sb := hsb
  obtain rfl : vk = kk := hkk
  replace hn : vn3 = ks.length := hn
  replace hs1 : Sl w va1 vn1 vc1 da := hs1
  replace hN : RowN (fun _ => True) w va2 vn2 vc2 Z ns := hN
  replace hk : ∀ i (hi : i < ks.length), RdJ (fun _ => True) w (K i) ks[i] := hk
  have HK := Lib.hid hk
  have HR := Lib.hid hrow
  have HS := Lib.hid hs1
  have HNS := Lib.hid hN.1
  have HN3 := Lib.hid hn
  clear hk hrow hr hs1 hN hn hb8 hk0 hk1
  have GRR := Lib.hid hru
  obtain ⟨⟨hkd, hsb, hkk, hb8, hk0, hk1⟩, hs1, hn, ⟨Z2, hN⟩, K2, hrow, hk⟩ := hru.parts
  obtain ⟨ukd, us, ua1, un1, uc1, ua2, un2, uc2, uk, ua3, un3, uc3⟩ := u
  dsimp only at hkd hsb hkk hb8 hk0 hk1 hs1 hn hN hrow hk
  obtain rfl : ukd = kd2 := hkd
  obtain rfl : us = sb2 := hsb
  obtain rfl : uk = kk2 := hkk
  replace hn : un3 = ks2.length := hn
  replace hs1 : Sl w ua1 un1 uc1 da2 := hs1
  replace hN : RowN (fun _ => True) w ua2 un2 uc2 Z2 ns2 := hN
  replace hk : ∀ i (hi : i < ks2.length), RdJ (fun _ => True) w (K2 i) ks2[i] := hk
  have GK := Lib.hid hk
  have GR := Lib.hid hrow
  have GS := Lib.hid hs1
  have GNS := Lib.hid hN.1
  have GN3 := Lib.hid hn
  clear hk hrow hru hs1 hN hn hb8 hk0 hk1
  have HN2 := Lib.hid HNS.out.2.2.2.1
  have GN2 := Lib.hid GNS.out.2.2.2.1
  have hl1 := Nat.le_trans HNS.out.1 HNS.out.2.1
  have hl2 := Nat.le_trans GNS.out.1 GNS.out.2.1
  have hl3 := Nat.le_trans HR.out.1 HR.out.2.1
  have hl4 := Nat.le_trans GR.out.1 GR.out.2.1
  unfold maxLen at hl1 hl2 hl3 hl4
  have HD := Lib.hid (sameJ_def vkd vs da ns vk ks ukd us da2 ns2 uk ks2)
  generalize (Sj.mk vkd vs da ns vk ks).same (.mk ukd us da2 ns2 uk ks2) = R at *
  have C3 := Lib.hid (fun w' (h : Below w.heap.size w w') => refKeySame_any vs va1 vn1 vc1 da us ua1 un1 uc1 da2 w' (HS.out.after h) (GS.out.after h))
  have HD3 := Lib.hid (show keySame vs da us da2 = (vs == us && da == da2) from rfl)
  rw [← HD3.out] at HD
  clear HD3
  generalize keySame vs da us da2 = r3 at *
  have B : Below w.heap.size w ((w.alloc (.cells #[.int .u8 vkd, .bool vs, .slice va1 vn1 vc1, .slice va2 vn2 vc2, .int .i64 vk, .slice va3 vn3 vc3] 28)).alloc (.cells #[.int .u8 ukd, .bool us, .slice ua1 un1 uc1, .slice ua2 un2 uc2, .int .i64 uk, .slice ua3 un3 uc3] 28)) := ((Below.refl _ _).alloc (Nat.le_refl _) _).alloc (by simp) _
  have X : Hid (Box ((w.alloc (.cells #[.int .u8 vkd, .bool vs, .slice va1 vn1 vc1, .slice va2 vn2 vc2, .int .i64 vk, .slice va3 vn3 vc3] 28)).alloc (.cells #[.int .u8 ukd, .bool us, .slice ua1 un1 uc1, .slice ua2 un2 uc2, .int .i64 uk, .slice ua3 un3 uc3] 28)) w.heap.size 28 #[.int .u8 vkd, .bool vs, .slice va1 vn1 vc1, .slice va2 vn2 vc2, .int .i64 vk, .slice va3 vn3 vc3]) := Lib.hid ((Box.new _ _ _).alloc _)
  have Y : Hid (Box ((w.alloc (.cells #[.int .u8 vkd, .bool vs, .slice va1 vn1 vc1, .slice va2 vn2 vc2, .int .i64 vk, .slice va3 vn3 vc3] 28)).alloc (.cells #[.int .u8 ukd, .bool us, .slice ua1 un1 uc1, .slice ua2 un2 uc2, .int .i64 uk, .slice ua3 un3 uc3] 28)) (w.heap.size + 1) 28 #[.int .u8 ukd, .bool us, .slice ua1 un1 uc1, .slice ua2 un2 uc2, .int .i64 uk, .slice ua3 un3 uc3]) := Lib.hid (by
    have := Box.new (w.alloc (.cells #[.int .u8 vkd, .bool vs, .slice va1 vn1 vc1, .slice va2 vn2 vc2, .int .i64 vk, .slice va3 vn3 vc3] 28)) 28 #[.int .u8 ukd, .bool us, .slice ua1 un1 uc1, .slice ua2 un2 uc2, .int .i64 uk, .slice ua3 un3 uc3]
    simpa using this)
  show Calls _ _ #[.agg #[.int .u8 vkd, .bool vs, .slice va1 vn1 vc1, .slice va2 vn2 vc2, .int .i64 vk, .slice va3 vn3 vc3], .agg #[.int .u8 ukd, .bool us, .slice ua1 un1 uc1, .slice ua2 un2 uc2, .int .i64 uk, .slice ua3 un3 uc3]] _ _
  go_enter Tryd.func12, Tryd.ntmps12
  go_upto_region 1 with fail
  change Code.wp _ _ _ _ ((w.alloc (.cells #[.int .u8 vkd, .bool vs, .slice va1 vn1 vc1, .slice va2 vn2 vc2, .int .i64 vk, .slice va3 vn3 vc3] 28)).alloc (.cells #[.int .u8 ukd, .bool us, .slice ua1 un1 uc1, .slice ua2 un2 uc2, .int .i64 uk, .slice ua3 un3 uc3] 28))
  generalize ((w.alloc (.cells #[.int .u8 vkd, .bool vs, .slice va1 vn1 vc1, .slice va2 vn2 vc2, .int .i64 vk, .slice va3 vn3 vc3] 28)).alloc (.cells #[.int .u8 ukd, .bool us, .slice ua1 un1 uc1, .slice ua2 un2 uc2, .int .i64 uk, .slice ua3 un3 uc3] 28)) = x0 at *
  by_cases hq : vkd = ukd
  case neg =>
    have HF : Hid (R = false) := Lib.hid (by rw [HD.out]; simp [hq])
    go_step
    refine wpList_made 38 x0.heap.size x0 (Below.refl _ _) ?_
    simp only [List.take_succ_cons, List.take_zero, List.drop_succ_cons, List.drop_zero]
    refine wpQ_run rfl (.pointer (some ⟨w.heap.size, 0, none⟩)) (fun w' hw => by simp [go_sem]) ?_
    simp only [Act.put, List.setIfInBounds_toArray, List.set_cons_zero, List.set_cons_succ]
    refine wpQ_run rfl (.int .u8 vkd) (fun w' hw => by have := (X.out.after hw).cell 0 rfl; simp [go_sem, this]) ?_
    simp only [Act.put, List.setIfInBounds_toArray, List.set_cons_zero, List.set_cons_succ]
    refine wpQ_run rfl (.pointer (some ⟨(w.heap.size + 1), 0, none⟩)) (fun w' hw => by simp [go_sem]) ?_
    simp only [Act.put, List.setIfInBounds_toArray, List.set_cons_zero, List.set_cons_succ]
    refine wpQ_run rfl (.int .u8 ukd) (fun w' hw => by have := (Y.out.after hw).cell 0 rfl; simp [go_sem, this]) ?_
    simp only [Act.put, List.setIfInBounds_toArray, List.set_cons_zero, List.set_cons_succ]
    refine wpQ_run rfl (.bool true) (fun w' hw => by simp [go_sem]; omega) ?_
    simp only [Act.put, List.setIfInBounds_toArray, List.set_cons_zero, List.set_cons_succ]
    refine wpQ_run rfl (.bool true) (fun w' hw => by simp [go_sem]) ?_
    simp only [Act.put, List.setIfInBounds_toArray, List.set_cons_zero, List.set_cons_succ]
    refine wpQ_skip rfl ?_
    simp only [Act.put, List.setIfInBounds_toArray, List.set_cons_zero, List.set_cons_succ]
    refine wpQ_skip rfl ?_
    simp only [Act.put, List.setIfInBounds_toArray, List.set_cons_zero, List.set_cons_succ]
    refine wpQ_skip rfl ?_
    simp only [Act.put, List.setIfInBounds_toArray, List.set_cons_zero, List.set_cons_succ]
    refine wpQ_skip rfl ?_
    simp only [Act.put, List.setIfInBounds_toArray, List.set_cons_zero, List.set_cons_succ]
    refine wpQ_skip rfl ?_
    simp only [Act.put, List.setIfInBounds_toArray, List.set_cons_zero, List.set_cons_succ]
    refine wpQ_run rfl (.bool true) (fun w' hw => by simp [go_sem]) ?_
    simp only [Act.put, List.setIfInBounds_toArray, List.set_cons_zero, List.set_cons_succ]
    refine wpQ_run rfl (.bool true) (fun w' hw => by simp [go_sem]) ?_
    simp only [Act.put, List.setIfInBounds_toArray, List.set_cons_zero, List.set_cons_succ]
    refine wpQ_skip rfl ?_
    simp only [Act.put, List.setIfInBounds_toArray, List.set_cons_zero, List.set_cons_succ]
    refine wpQ_skip rfl ?_
    simp only [Act.put, List.setIfInBounds_toArray, List.set_cons_zero, List.set_cons_succ]
    refine wpQ_skip rfl ?_
    simp only [Act.put, List.setIfInBounds_toArray, List.set_cons_zero, List.set_cons_succ]
    refine wpQ_skip rfl ?_
    simp only [Act.put, List.setIfInBounds_toArray, List.set_cons_zero, List.set_cons_succ]
    refine wpQ_skip rfl ?_
    simp only [Act.put, List.setIfInBounds_toArray, List.set_cons_zero, List.set_cons_succ]
    refine wpQ_skip rfl ?_
    simp only [Act.put, List.setIfInBounds_toArray, List.set_cons_zero, List.set_cons_succ]
    refine wpQ_run rfl (.bool true) (fun w' hw => by simp [go_sem]) ?_
    simp only [Act.put, List.setIfInBounds_toArray, List.set_cons_zero, List.set_cons_succ]
    refine wpQ_run rfl (.bool true) (fun w' hw => by simp [go_sem]) ?_
    simp only [Act.put, List.setIfInBounds_toArray, List.set_cons_zero, List.set_cons_succ]
    refine wpQ_skip rfl ?_
    simp only [Act.put, List.setIfInBounds_toArray, List.set_cons_zero, List.set_cons_succ]
    refine wpQ_skip rfl ?_
    simp only [Act.put, List.setIfInBounds_toArray, List.set_cons_zero, List.set_cons_succ]
    refine wpQ_skip rfl ?_
    simp only [Act.put, List.setIfInBounds_toArray, List.set_cons_zero, List.set_cons_succ]
    refine wpQ_skip rfl ?_
    simp only [Act.put, List.setIfInBounds_toArray, List.set_cons_zero, List.set_cons_succ]
    refine wpQ_skip rfl ?_
    simp only [Act.put, List.setIfInBounds_toArray, List.set_cons_zero, List.set_cons_succ]
    refine wpQ_skip rfl ?_
    simp only [Act.put, List.setIfInBounds_toArray, List.set_cons_zero, List.set_cons_succ]
    refine wpQ_skip rfl ?_
    simp only [Act.put, List.setIfInBounds_toArray, List.set_cons_zero, List.set_cons_succ]
    refine wpQ_run rfl (.bool true) (fun w' hw => by simp [go_sem]) ?_
    simp only [Act.put, List.setIfInBounds_toArray, List.set_cons_zero, List.set_cons_succ]
    refine wpQ_run rfl (.bool true) (fun w' hw => by simp [go_sem]) ?_
    simp only [Act.put, List.setIfInBounds_toArray, List.set_cons_zero, List.set_cons_succ]
    refine wpQ_skip rfl ?_
    simp only [Act.put, List.setIfInBounds_toArray, List.set_cons_zero, List.set_cons_succ]
    refine wpQ_skip rfl ?_
    simp only [Act.put, List.setIfInBounds_toArray, List.set_cons_zero, List.set_cons_succ]
    refine wpQ_skip rfl ?_
    simp only [Act.put, List.setIfInBounds_toArray, List.set_cons_zero, List.set_cons_succ]
    refine wpQ_skip rfl ?_
    simp only [Act.put, List.setIfInBounds_toArray, List.set_cons_zero, List.set_cons_succ]
    refine wpQ_skip rfl ?_
    simp only [Act.put, List.setIfInBounds_toArray, List.set_cons_zero, List.set_cons_succ]
    refine wpQ_skip rfl ?_
    simp only [Act.put, List.setIfInBounds_toArray, List.set_cons_zero, List.set_cons_succ]
    refine wpQ_skip rfl ?_
    simp only [Act.put, List.setIfInBounds_toArray, List.set_cons_zero, List.set_cons_succ]
    refine wpQ_run rfl (.bool true) (fun w' hw => by simp [go_sem]) ?_
    simp only [Act.put, List.setIfInBounds_toArray, List.set_cons_zero, List.set_cons_succ]
    intro y1 hb1
    replace B := B.trans (hb1.mono B.size)
    clear hb1
    go_wp2_with fail
    go_ret
    exact ⟨by rw [HF.out]; rfl, B⟩
  subst hq
  by_cases hq : vk = uk
  case neg =>
    have HF : Hid (R = false) := Lib.hid (by rw [HD.out]; simp [hq])
    go_step
    refine wpList_made 38 x0.heap.size x0 (Below.refl _ _) ?_
    simp only [List.take_succ_cons, List.take_zero, List.drop_succ_cons, List.drop_zero]
    refine wpQ_run rfl (.pointer (some ⟨w.heap.size, 0, none⟩)) (fun w' hw => by simp [go_sem]) ?_
    simp only [Act.put, List.setIfInBounds_toArray, List.set_cons_zero, List.set_cons_succ]
    refine wpQ_run rfl (.int .u8 vkd) (fun w' hw => by have := (X.out.after hw).cell 0 rfl; simp [go_sem, this]) ?_
    simp only [Act.put, List.setIfInBounds_toArray, List.set_cons_zero, List.set_cons_succ]
    refine wpQ_run rfl (.pointer (some ⟨(w.heap.size + 1), 0, none⟩)) (fun w' hw => by simp [go_sem]) ?_
    simp only [Act.put, List.setIfInBounds_toArray, List.set_cons_zero, List.set_cons_succ]
    refine wpQ_run rfl (.int .u8 vkd) (fun w' hw => by have := (Y.out.after hw).cell 0 rfl; simp [go_sem, this]) ?_
    simp only [Act.put, List.setIfInBounds_toArray, List.set_cons_zero, List.set_cons_succ]
    refine wpQ_run rfl (.bool false) (fun w' hw => by simp [go_sem]) ?_
    simp only [Act.put, List.setIfInBounds_toArray, List.set_cons_zero, List.set_cons_succ]
    refine wpQ_run rfl (.bool false) (fun w' hw => by simp [go_sem]) ?_
    simp only [Act.put, List.setIfInBounds_toArray, List.set_cons_zero, List.set_cons_succ]
    refine wpQ_run rfl (.pointer (some ⟨w.heap.size, 4, none⟩)) (fun w' hw => by simp [go_sem]) ?_
    simp only [Act.put, List.setIfInBounds_toArray, List.set_cons_zero, List.set_cons_succ]
    refine wpQ_run rfl (.int .i64 vk) (fun w' hw => by have := (X.out.after hw).cell 4 rfl; simp [go_sem, this]) ?_
    simp only [Act.put, List.setIfInBounds_toArray, List.set_cons_zero, List.set_cons_succ]
    refine wpQ_run rfl (.pointer (some ⟨(w.heap.size + 1), 4, none⟩)) (fun w' hw => by simp [go_sem]) ?_
    simp only [Act.put, List.setIfInBounds_toArray, List.set_cons_zero, List.set_cons_succ]
    refine wpQ_run rfl (.int .i64 uk) (fun w' hw => by have := (Y.out.after hw).cell 4 rfl; simp [go_sem, this]) ?_
    simp only [Act.put, List.setIfInBounds_toArray, List.set_cons_zero, List.set_cons_succ]
    refine wpQ_run rfl (.bool true) (fun w' hw => by simp [go_sem, hq]) ?_
    simp only [Act.put, List.setIfInBounds_toArray, List.set_cons_zero, List.set_cons_succ]
    refine wpQ_run rfl (.bool true) (fun w' hw => by simp [go_sem]) ?_
    simp only [Act.put, List.setIfInBounds_toArray, List.set_cons_zero, List.set_cons_succ]
    refine wpQ_run rfl (.bool true) (fun w' hw => by simp [go_sem]) ?_
    simp only [Act.put, List.setIfInBounds_toArray, List.set_cons_zero, List.set_cons_succ]
    refine wpQ_skip rfl ?_
    simp only [Act.put, List.setIfInBounds_toArray, List.set_cons_zero, List.set_cons_succ]
    refine wpQ_skip rfl ?_
    simp only [Act.put, List.setIfInBounds_toArray, List.set_cons_zero, List.set_cons_succ]
    refine wpQ_skip rfl ?_
    simp only [Act.put, List.setIfInBounds_toArray, List.set_cons_zero, List.set_cons_succ]
    refine wpQ_skip rfl ?_
    simp only [Act.put, List.setIfInBounds_toArray, List.set_cons_zero, List.set_cons_succ]
    refine wpQ_skip rfl ?_
    simp only [Act.put, List.setIfInBounds_toArray, List.set_cons_zero, List.set_cons_succ]
    refine wpQ_skip rfl ?_
    simp only [Act.put, List.setIfInBounds_toArray, List.set_cons_zero, List.set_cons_succ]
    refine wpQ_run rfl (.bool true) (fun w' hw => by simp [go_sem]) ?_
    simp only [Act.put, List.setIfInBounds_toArray, List.set_cons_zero, List.set_cons_succ]
    refine wpQ_run rfl (.bool true) (fun w' hw => by simp [go_sem]) ?_
    simp only [Act.put, List.setIfInBounds_toArray, List.set_cons_zero, List.set_cons_succ]
    refine wpQ_skip rfl ?_
    simp only [Act.put, List.setIfInBounds_toArray, List.set_cons_zero, List.set_cons_succ]
    refine wpQ_skip rfl ?_
    simp only [Act.put, List.setIfInBounds_toArray, List.set_cons_zero, List.set_cons_succ]
    refine wpQ_skip rfl ?_
    simp only [Act.put, List.setIfInBounds_toArray, List.set_cons_zero, List.set_cons_succ]
    refine wpQ_skip rfl ?_
    simp only [Act.put, List.setIfInBounds_toArray, List.set_cons_zero, List.set_cons_succ]
    refine wpQ_skip rfl ?_
    simp only [Act.put, List.setIfInBounds_toArray, List.set_cons_zero, List.set_cons_succ]
    refine wpQ_skip rfl ?_
    simp only [Act.put, List.setIfInBounds_toArray, List.set_cons_zero, List.set_cons_succ]
    refine wpQ_skip rfl ?_
    simp only [Act.put, List.setIfInBounds_toArray, List.set_cons_zero, List.set_cons_succ]
    refine wpQ_run rfl (.bool true) (fun w' hw => by simp [go_sem]) ?_
    simp only [Act.put, List.setIfInBounds_toArray, List.set_cons_zero, List.set_cons_succ]
    refine wpQ_run rfl (.bool true) (fun w' hw => by simp [go_sem]) ?_
    simp only [Act.put, List.setIfInBounds_toArray, List.set_cons_zero, List.set_cons_succ]
    refine wpQ_skip rfl ?_
    simp only [Act.put, List.setIfInBounds_toArray, List.set_cons_zero, List.set_cons_succ]
    refine wpQ_skip rfl ?_
    simp only [Act.put, List.setIfInBounds_toArray, List.set_cons_zero, List.set_cons_succ]
    refine wpQ_skip rfl ?_
    simp only [Act.put, List.setIfInBounds_toArray, List.set_cons_zero, List.set_cons_succ]
    refine wpQ_skip rfl ?_
    simp only [Act.put, List.setIfInBounds_toArray, List.set_cons_zero, List.set_cons_succ]
    refine wpQ_skip rfl ?_
    simp only [Act.put, List.setIfInBounds_toArray, List.set_cons_zero, List.set_cons_succ]
    refine wpQ_skip rfl ?_
    simp only [Act.put, List.setIfInBounds_toArray, List.set_cons_zero, List.set_cons_succ]
    refine wpQ_skip rfl ?_
    simp only [Act.put, List.setIfInBounds_toArray, List.set_cons_zero, List.set_cons_succ]
    refine wpQ_run rfl (.bool true) (fun w' hw => by simp [go_sem]) ?_
    simp only [Act.put, List.setIfInBounds_toArray, List.set_cons_zero, List.set_cons_succ]
    intro y1 hb1
    replace B := B.trans (hb1.mono B.size)
    clear hb1
    go_wp2_with fail
    go_ret
    exact ⟨by rw [HF.out]; rfl, B⟩
  subst hq
  cases r3 with
  | false =>
    have HF : Hid (R = false) := Lib.hid (by rw [HD.out]; simp)
    go_step
    refine wpList_made 38 x0.heap.size x0 (Below.refl _ _) ?_
    simp only [List.take_succ_cons, List.take_zero, List.drop_succ_cons, List.drop_zero]
    refine wpQ_run rfl (.pointer (some ⟨w.heap.size, 0, none⟩)) (fun w' hw => by simp [go_sem]) ?_
    simp only [Act.put, List.setIfInBounds_toArray, List.set_cons_zero, List.set_cons_succ]
    refine wpQ_run rfl (.int .u8 vkd) (fun w' hw => by have := (X.out.after hw).cell 0 rfl; simp [go_sem, this]) ?_
    simp only [Act.put, List.setIfInBounds_toArray, List.set_cons_zero, List.set_cons_succ]
    refine wpQ_run rfl (.pointer (some ⟨(w.heap.size + 1), 0, none⟩)) (fun w' hw => by simp [go_sem]) ?_
    simp only [Act.put, List.setIfInBounds_toArray, List.set_cons_zero, List.set_cons_succ]
    refine wpQ_run rfl (.int .u8 vkd) (fun w' hw => by have := (Y.out.after hw).cell 0 rfl; simp [go_sem, this]) ?_
    simp only [Act.put, List.setIfInBounds_toArray, List.set_cons_zero, List.set_cons_succ]
    refine wpQ_run rfl (.bool false) (fun w' hw => by simp [go_sem]) ?_
    simp only [Act.put, List.setIfInBounds_toArray, List.set_cons_zero, List.set_cons_succ]
    refine wpQ_run rfl (.bool false) (fun w' hw => by simp [go_sem]) ?_
    simp only [Act.put, List.setIfInBounds_toArray, List.set_cons_zero, List.set_cons_succ]
    refine wpQ_run rfl (.pointer (some ⟨w.heap.size, 4, none⟩)) (fun w' hw => by simp [go_sem]) ?_
    simp only [Act.put, List.setIfInBounds_toArray, List.set_cons_zero, List.set_cons_succ]
    refine wpQ_run rfl (.int .i64 vk) (fun w' hw => by have := (X.out.after hw).cell 4 rfl; simp [go_sem, this]) ?_
    simp only [Act.put, List.setIfInBounds_toArray, List.set_cons_zero, List.set_cons_succ]
    refine wpQ_run rfl (.pointer (some ⟨(w.heap.size + 1), 4, none⟩)) (fun w' hw => by simp [go_sem]) ?_
    simp only [Act.put, List.setIfInBounds_toArray, List.set_cons_zero, List.set_cons_succ]
    refine wpQ_run rfl (.int .i64 vk) (fun w' hw => by have := (Y.out.after hw).cell 4 rfl; simp [go_sem, this]) ?_
    simp only [Act.put, List.setIfInBounds_toArray, List.set_cons_zero, List.set_cons_succ]
    refine wpQ_run rfl (.bool false) (fun w' hw => by simp [go_sem]) ?_
    simp only [Act.put, List.setIfInBounds_toArray, List.set_cons_zero, List.set_cons_succ]
    refine wpQ_run rfl (.bool false) (fun w' hw => by simp [go_sem]) ?_
    simp only [Act.put, List.setIfInBounds_toArray, List.set_cons_zero, List.set_cons_succ]
    refine wpQ_run rfl (.bool false) (fun w' hw => by simp [go_sem]) ?_
    simp only [Act.put, List.setIfInBounds_toArray, List.set_cons_zero, List.set_cons_succ]
    refine wpQ_run rfl (.pointer (some ⟨w.heap.size, 1, none⟩)) (fun w' hw => by simp [go_sem]) ?_
    simp only [Act.put, List.setIfInBounds_toArray, List.set_cons_zero, List.set_cons_succ]
    refine wpQ_load_mid rfl 24 _ rfl _ 1 rfl [.bool vs, .slice va1 vn1 vc1] _ (Box.mid X.out 1 _ (mid2 rfl rfl)) X.out.lt Tryd.underlying24 rfl (by kernel_rfl) ?_
    simp only [Act.put, List.setIfInBounds_toArray, List.set_cons_zero, List.set_cons_succ]
    refine wpQ_run rfl (.pointer (some ⟨(w.heap.size + 1), 1, none⟩)) (fun w' hw => by simp [go_sem]) ?_
    simp only [Act.put, List.setIfInBounds_toArray, List.set_cons_zero, List.set_cons_succ]
    refine wpQ_load_mid rfl 24 _ rfl _ 1 rfl [.bool us, .slice ua1 un1 uc1] _ (Box.mid Y.out 1 _ (mid2 rfl rfl)) Y.out.lt Tryd.underlying24 rfl (by kernel_rfl) ?_
    simp only [Act.put, List.setIfInBounds_toArray, List.set_cons_zero, List.set_cons_succ]
    refine wpQ_callS rfl 13 #[.agg #[.bool vs, .slice va1 vn1 vc1], .agg #[.bool us, .slice ua1 un1 uc1]] (fun w' => by simp [go_sem]) (.bool false) (Nat.le_refl _) (fun w' hw => C3.out w' (B.trans (hw.mono B.size))) ?_
    simp only [Act.put, List.setIfInBounds_toArray, List.set_cons_zero, List.set_cons_succ]
    refine wpQ_run rfl (.bool true) (fun w' hw => by simp [go_sem]) ?_
    simp only [Act.put, List.setIfInBounds_toArray, List.set_cons_zero, List.set_cons_succ]
    refine wpQ_run rfl (.bool true) (fun w' hw => by simp [go_sem]) ?_
    simp only [Act.put, List.setIfInBounds_toArray, List.set_cons_zero, List.set_cons_succ]
    refine wpQ_run rfl (.bool true) (fun w' hw => by simp [go_sem]) ?_
    simp only [Act.put, List.setIfInBounds_toArray, List.set_cons_zero, List.set_cons_succ]
    refine wpQ_skip rfl ?_
    simp only [Act.put, List.setIfInBounds_toArray, List.set_cons_zero, List.set_cons_succ]
    refine wpQ_skip rfl ?_
    simp only [Act.put, List.setIfInBounds_toArray, List.set_cons_zero, List.set_cons_succ]
    refine wpQ_skip rfl ?_
    simp only [Act.put, List.setIfInBounds_toArray, List.set_cons_zero, List.set_cons_succ]
    refine wpQ_skip rfl ?_
    simp only [Act.put, List.setIfInBounds_toArray, List.set_cons_zero, List.set_cons_succ]
    refine wpQ_skip rfl ?_
    simp only [Act.put, List.setIfInBounds_toArray, List.set_cons_zero, List.set_cons_succ]
    refine wpQ_skip rfl ?_
    simp only [Act.put, List.setIfInBounds_toArray, List.set_cons_zero, List.set_cons_succ]
    refine wpQ_skip rfl ?_
    simp only [Act.put, List.setIfInBounds_toArray, List.set_cons_zero, List.set_cons_succ]
    refine wpQ_run rfl (.bool true) (fun w' hw => by simp [go_sem]) ?_
    simp only [Act.put, List.setIfInBounds_toArray, List.set_cons_zero, List.set_cons_succ]
    refine wpQ_run rfl (.bool true) (fun w' hw => by simp [go_sem]) ?_
    simp only [Act.put, List.setIfInBounds_toArray, List.set_cons_zero, List.set_cons_succ]
    refine wpQ_skip rfl ?_
    simp only [Act.put, List.setIfInBounds_toArray, List.set_cons_zero, List.set_cons_succ]
    refine wpQ_skip rfl ?_
    simp only [Act.put, List.setIfInBounds_toArray, List.set_cons_zero, List.set_cons_succ]
    refine wpQ_skip rfl ?_
    simp only [Act.put, List.setIfInBounds_toArray, List.set_cons_zero, List.set_cons_succ]
    refine wpQ_skip rfl ?_
    simp only [Act.put, List.setIfInBounds_toArray, List.set_cons_zero, List.set_cons_succ]
    refine wpQ_skip rfl ?_
    simp only [Act.put, List.setIfInBounds_toArray, List.set_cons_zero, List.set_cons_succ]
    refine wpQ_skip rfl ?_
    simp only [Act.put, List.setIfInBounds_toArray, List.set_cons_zero, List.set_cons_succ]
    refine wpQ_skip rfl ?_
    simp only [Act.put, List.setIfInBounds_toArray, List.set_cons_zero, List.set_cons_succ]
    refine wpQ_run rfl (.bool true) (fun w' hw => by simp [go_sem]) ?_
    simp only [Act.put, List.setIfInBounds_toArray, List.set_cons_zero, List.set_cons_succ]
    intro y1 hb1
    replace B := B.trans (hb1.mono B.size)
    clear hb1
    go_wp2_with fail
    go_ret
    exact ⟨by rw [HF.out]; rfl, B⟩
  | true =>
    by_cases hq : vn2 = un2
    case neg =>
      have HF : Hid (R = false) := Lib.hid (by rw [HD.out]; rw [show (ns == ns2) = false from beq_eq_false_iff_ne.2 (fun h => by have h1 := HN2.out; have h2 := GN2.out; rw [h] at h1; omega)]; simp)
      go_step
      refine wpList_made 38 x0.heap.size x0 (Below.refl _ _) ?_
      simp only [List.take_succ_cons, List.take_zero, List.drop_succ_cons, List.drop_zero]
      refine wpQ_run rfl (.pointer (some ⟨w.heap.size, 0, none⟩)) (fun w' hw => by simp [go_sem]) ?_
      simp only [Act.put, List.setIfInBounds_toArray, List.set_cons_zero, List.set_cons_succ]
      refine wpQ_run rfl (.int .u8 vkd) (fun w' hw => by have := (X.out.after hw).cell 0 rfl; simp [go_sem, this]) ?_
      simp only [Act.put, List.setIfInBounds_toArray, List.set_cons_zero, List.set_cons_succ]
      refine wpQ_run rfl (.pointer (some ⟨(w.heap.size + 1), 0, none⟩)) (fun w' hw => by simp [go_sem]) ?_
      simp only [Act.put, List.setIfInBounds_toArray, List.set_cons_zero, List.set_cons_succ]
      refine wpQ_run rfl (.int .u8 vkd) (fun w' hw => by have := (Y.out.after hw).cell 0 rfl; simp [go_sem, this]) ?_
      simp only [Act.put, List.setIfInBounds_toArray, List.set_cons_zero, List.set_cons_succ]
      refine wpQ_run rfl (.bool false) (fun w' hw => by simp [go_sem]) ?_
      simp only [Act.put, List.setIfInBounds_toArray, List.set_cons_zero, List.set_cons_succ]
      refine wpQ_run rfl (.bool false) (fun w' hw => by simp [go_sem]) ?_
      simp only [Act.put, List.setIfInBounds_toArray, List.set_cons_zero, List.set_cons_succ]
      refine wpQ_run rfl (.pointer (some ⟨w.heap.size, 4, none⟩)) (fun w' hw => by simp [go_sem]) ?_
      simp only [Act.put, List.setIfInBounds_toArray, List.set_cons_zero, List.set_cons_succ]
      refine wpQ_run rfl (.int .i64 vk) (fun w' hw => by have := (X.out.after hw).cell 4 rfl; simp [go_sem, this]) ?_
      simp only [Act.put, List.setIfInBounds_toArray, List.set_cons_zero, List.set_cons_succ]
      refine wpQ_run rfl (.pointer (some ⟨(w.heap.size + 1), 4, none⟩)) (fun w' hw => by simp [go_sem]) ?_
      simp only [Act.put, List.setIfInBounds_toArray, List.set_cons_zero, List.set_cons_succ]
      refine wpQ_run rfl (.int .i64 vk) (fun w' hw => by have := (Y.out.after hw).cell 4 rfl; simp [go_sem, this]) ?_
      simp only [Act.put, List.setIfInBounds_toArray, List.set_cons_zero, List.set_cons_succ]
      refine wpQ_run rfl (.bool false) (fun w' hw => by simp [go_sem]) ?_
      simp only [Act.put, List.setIfInBounds_toArray, List.set_cons_zero, List.set_cons_succ]
      refine wpQ_run rfl (.bool false) (fun w' hw => by simp [go_sem]) ?_
      simp only [Act.put, List.setIfInBounds_toArray, List.set_cons_zero, List.set_cons_succ]
      refine wpQ_run rfl (.bool false) (fun w' hw => by simp [go_sem]) ?_
      simp only [Act.put, List.setIfInBounds_toArray, List.set_cons_zero, List.set_cons_succ]
      refine wpQ_run rfl (.pointer (some ⟨w.heap.size, 1, none⟩)) (fun w' hw => by simp [go_sem]) ?_
      simp only [Act.put, List.setIfInBounds_toArray, List.set_cons_zero, List.set_cons_succ]
      refine wpQ_load_mid rfl 24 _ rfl _ 1 rfl [.bool vs, .slice va1 vn1 vc1] _ (Box.mid X.out 1 _ (mid2 rfl rfl)) X.out.lt Tryd.underlying24 rfl (by kernel_rfl) ?_
      simp only [Act.put, List.setIfInBounds_toArray, List.set_cons_zero, List.set_cons_succ]
      refine wpQ_run rfl (.pointer (some ⟨(w.heap.size + 1), 1, none⟩)) (fun w' hw => by simp [go_sem]) ?_
      simp only [Act.put, List.setIfInBounds_toArray, List.set_cons_zero, List.set_cons_succ]
      refine wpQ_load_mid rfl 24 _ rfl _ 1 rfl [.bool us, .slice ua1 un1 uc1] _ (Box.mid Y.out 1 _ (mid2 rfl rfl)) Y.out.lt Tryd.underlying24 rfl (by kernel_rfl) ?_
      simp only [Act.put, List.setIfInBounds_toArray, List.set_cons_zero, List.set_cons_succ]
      refine wpQ_callS rfl 13 #[.agg #[.bool vs, .slice va1 vn1 vc1], .agg #[.bool us, .slice ua1 un1 uc1]] (fun w' => by simp [go_sem]) (.bool true) (Nat.le_refl _) (fun w' hw => C3.out w' (B.trans (hw.mono B.size))) ?_
      simp only [Act.put, List.setIfInBounds_toArray, List.set_cons_zero, List.set_cons_succ]
      refine wpQ_run rfl (.bool false) (fun w' hw => by simp [go_sem]) ?_
      simp only [Act.put, List.setIfInBounds_toArray, List.set_cons_zero, List.set_cons_succ]
      refine wpQ_run rfl (.bool false) (fun w' hw => by simp [go_sem]) ?_
      simp only [Act.put, List.setIfInBounds_toArray, List.set_cons_zero, List.set_cons_succ]
      refine wpQ_run rfl (.bool false) (fun w' hw => by simp [go_sem]) ?_
      simp only [Act.put, List.setIfInBounds_toArray, List.set_cons_zero, List.set_cons_succ]
      refine wpQ_run rfl (.pointer (some ⟨w.heap.size, 3, none⟩)) (fun w' hw => by simp [go_sem]) ?_
      simp only [Act.put, List.setIfInBounds_toArray, List.set_cons_zero, List.set_cons_succ]
      refine wpQ_run rfl (.slice va2 vn2 vc2) (fun w' hw => by have := (X.out.after hw).cell 3 rfl; simp [go_sem, this]) ?_
      simp only [Act.put, List.setIfInBounds_toArray, List.set_cons_zero, List.set_cons_succ]
      refine wpQ_run rfl (.int .i64 vn2) (fun w' hw => by simp [go_sem]) ?_
      simp only [Act.put, List.setIfInBounds_toArray, List.set_cons_zero, List.set_cons_succ]
      refine wpQ_run rfl (.pointer (some ⟨(w.heap.size + 1), 3, none⟩)) (fun w' hw => by simp [go_sem]) ?_
      simp only [Act.put, List.setIfInBounds_toArray, List.set_cons_zero, List.set_cons_succ]
      refine wpQ_run rfl (.slice ua2 un2 uc2) (fun w' hw => by have := (Y.out.after hw).cell 3 rfl; simp [go_sem, this]) ?_
      simp only [Act.put, List.setIfInBounds_toArray, List.set_cons_zero, List.set_cons_succ]
      refine wpQ_run rfl (.int .i64 un2) (fun w' hw => by simp [go_sem]) ?_
      simp only [Act.put, List.setIfInBounds_toArray, List.set_cons_zero, List.set_cons_succ]
      refine wpQ_run rfl (.bool true) (fun w' hw => by simp [go_sem]; omega) ?_
      simp only [Act.put, List.setIfInBounds_toArray, List.set_cons_zero, List.set_cons_succ]
      refine wpQ_run rfl (.bool true) (fun w' hw => by simp [go_sem]) ?_
      simp only [Act.put, List.setIfInBounds_toArray, List.set_cons_zero, List.set_cons_succ]
      refine wpQ_run rfl (.bool true) (fun w' hw => by simp [go_sem]) ?_
      simp only [Act.put, List.setIfInBounds_toArray, List.set_cons_zero, List.set_cons_succ]
      refine wpQ_skip rfl ?_
      simp only [Act.put, List.setIfInBounds_toArray, List.set_cons_zero, List.set_cons_succ]
      refine wpQ_skip rfl ?_
      simp only [Act.put, List.setIfInBounds_toArray, List.set_cons_zero, List.set_cons_succ]
      refine wpQ_skip rfl ?_
      simp only [Act.put, List.setIfInBounds_toArray, List.set_cons_zero, List.set_cons_succ]
      refine wpQ_skip rfl ?_
      simp only [Act.put, List.setIfInBounds_toArray, List.set_cons_zero, List.set_cons_succ]
      refine wpQ_skip rfl ?_
      simp only [Act.put, List.setIfInBounds_toArray, List.set_cons_zero, List.set_cons_succ]
      refine wpQ_skip rfl ?_
      simp only [Act.put, List.setIfInBounds_toArray, List.set_cons_zero, List.set_cons_succ]
      refine wpQ_skip rfl ?_
      simp only [Act.put, List.setIfInBounds_toArray, List.set_cons_zero, List.set_cons_succ]
      refine wpQ_run rfl (.bool true) (fun w' hw => by simp [go_sem]) ?_
      simp only [Act.put, List.setIfInBounds_toArray, List.set_cons_zero, List.set_cons_succ]
      intro y1 hb1
      replace B := B.trans (hb1.mono B.size)
      clear hb1
      go_wp2_with fail
      go_ret
      exact ⟨by rw [HF.out]; rfl, B⟩
    subst hq
    by_cases hq : vn3 = un3
    case neg =>
      have HF : Hid (R = false) := Lib.hid (by rw [HD.out]; rw [Sj.sameL_len (by have h1 := HN3.out; have h2 := GN3.out; omega)]; simp)
      go_step
      refine wpList_made 38 x0.heap.size x0 (Below.refl _ _) ?_
      simp only [List.take_succ_cons, List.take_zero, List.drop_succ_cons, List.drop_zero]
      refine wpQ_run rfl (.pointer (some ⟨w.heap.size, 0, none⟩)) (fun w' hw => by simp [go_sem]) ?_
      simp only [Act.put, List.setIfInBounds_toArray, List.set_cons_zero, List.set_cons_succ]
      refine wpQ_run rfl (.int .u8 vkd) (fun w' hw => by have := (X.out.after hw).cell 0 rfl; simp [go_sem, this]) ?_
      simp only [Act.put, List.setIfInBounds_toArray, List.set_cons_zero, List.set_cons_succ]
      refine wpQ_run rfl (.pointer (some ⟨(w.heap.size + 1), 0, none⟩)) (fun w' hw => by simp [go_sem]) ?_
      simp only [Act.put, List.setIfInBounds_toArray, List.set_cons_zero, List.set_cons_succ]
      refine wpQ_run rfl (.int .u8 vkd) (fun w' hw => by have := (Y.out.after hw).cell 0 rfl; simp [go_sem, this]) ?_
      simp only [Act.put, List.setIfInBounds_toArray, List.set_cons_zero, List.set_cons_succ]
      refine wpQ_run rfl (.bool false) (fun w' hw => by simp [go_sem]) ?_
      simp only [Act.put, List.setIfInBounds_toArray, List.set_cons_zero, List.set_cons_succ]
      refine wpQ_run rfl (.bool false) (fun w' hw => by simp [go_sem]) ?_
      simp only [Act.put, List.setIfInBounds_toArray, List.set_cons_zero, List.set_cons_succ]
      refine wpQ_run rfl (.pointer (some ⟨w.heap.size, 4, none⟩)) (fun w' hw => by simp [go_sem]) ?_
      simp only [Act.put, List.setIfInBounds_toArray, List.set_cons_zero, List.set_cons_succ]
      refine wpQ_run rfl (.int .i64 vk) (fun w' hw => by have := (X.out.after hw).cell 4 rfl; simp [go_sem, this]) ?_
      simp only [Act.put, List.setIfInBounds_toArray, List.set_cons_zero, List.set_cons_succ]
      refine wpQ_run rfl (.pointer (some ⟨(w.heap.size + 1), 4, none⟩)) (fun w' hw => by simp [go_sem]) ?_
      simp only [Act.put, List.setIfInBounds_toArray, List.set_cons_zero, List.set_cons_succ]
      refine wpQ_run rfl (.int .i64 vk) (fun w' hw => by have := (Y.out.after hw).cell 4 rfl; simp [go_sem, this]) ?_
      simp only [Act.put, List.setIfInBounds_toArray, List.set_cons_zero, List.set_cons_succ]
      refine wpQ_run rfl (.bool false) (fun w' hw => by simp [go_sem]) ?_
      simp only [Act.put, List.setIfInBounds_toArray, List.set_cons_zero, List.set_cons_succ]
      refine wpQ_run rfl (.bool false) (fun w' hw => by simp [go_sem]) ?_
      simp only [Act.put, List.setIfInBounds_toArray, List.set_cons_zero, List.set_cons_succ]
      refine wpQ_run rfl (.bool false) (fun w' hw => by simp [go_sem]) ?_
      simp only [Act.put, List.setIfInBounds_toArray, List.set_cons_zero, List.set_cons_succ]
      refine wpQ_run rfl (.pointer (some ⟨w.heap.size, 1, none⟩)) (fun w' hw => by simp [go_sem]) ?_
      simp only [Act.put, List.setIfInBounds_toArray, List.set_cons_zero, List.set_cons_succ]
      refine wpQ_load_mid rfl 24 _ rfl _ 1 rfl [.bool vs, .slice va1 vn1 vc1] _ (Box.mid X.out 1 _ (mid2 rfl rfl)) X.out.lt Tryd.underlying24 rfl (by kernel_rfl) ?_
      simp only [Act.put, List.setIfInBounds_toArray, List.set_cons_zero, List.set_cons_succ]
      refine wpQ_run rfl (.pointer (some ⟨(w.heap.size + 1), 1, none⟩)) (fun w' hw => by simp [go_sem]) ?_
      simp only [Act.put, List.setIfInBounds_toArray, List.set_cons_zero, List.set_cons_succ]
      refine wpQ_load_mid rfl 24 _ rfl _ 1 rfl [.bool us, .slice ua1 un1 uc1] _ (Box.mid Y.out 1 _ (mid2 rfl rfl)) Y.out.lt Tryd.underlying24 rfl (by kernel_rfl) ?_
      simp only [Act.put, List.setIfInBounds_toArray, List.set_cons_zero, List.set_cons_succ]
      refine wpQ_callS rfl 13 #[.agg #[.bool vs, .slice va1 vn1 vc1], .agg #[.bool us, .slice ua1 un1 uc1]] (fun w' => by simp [go_sem]) (.bool true) (Nat.le_refl _) (fun w' hw => C3.out w' (B.trans (hw.mono B.size))) ?_
      simp only [Act.put, List.setIfInBounds_toArray, List.set_cons_zero, List.set_cons_succ]
      refine wpQ_run rfl (.bool false) (fun w' hw => by simp [go_sem]) ?_
      simp only [Act.put, List.setIfInBounds_toArray, List.set_cons_zero, List.set_cons_succ]
      refine wpQ_run rfl (.bool false) (fun w' hw => by simp [go_sem]) ?_
      simp only [Act.put, List.setIfInBounds_toArray, List.set_cons_zero, List.set_cons_succ]
      refine wpQ_run rfl (.bool false) (fun w' hw => by simp [go_sem]) ?_
      simp only [Act.put, List.setIfInBounds_toArray, List.set_cons_zero, List.set_cons_succ]
      refine wpQ_run rfl (.pointer (some ⟨w.heap.size, 3, none⟩)) (fun w' hw => by simp [go_sem]) ?_
      simp only [Act.put, List.setIfInBounds_toArray, List.set_cons_zero, List.set_cons_succ]
      refine wpQ_run rfl (.slice va2 vn2 vc2) (fun w' hw => by have := (X.out.after hw).cell 3 rfl; simp [go_sem, this]) ?_
      simp only [Act.put, List.setIfInBounds_toArray, List.set_cons_zero, List.set_cons_succ]
      refine wpQ_run rfl (.int .i64 vn2) (fun w' hw => by simp [go_sem]) ?_
      simp only [Act.put, List.setIfInBounds_toArray, List.set_cons_zero, List.set_cons_succ]
      refine wpQ_run rfl (.pointer (some ⟨(w.heap.size + 1), 3, none⟩)) (fun w' hw => by simp [go_sem]) ?_
      simp only [Act.put, List.setIfInBounds_toArray, List.set_cons_zero, List.set_cons_succ]
      refine wpQ_run rfl (.slice ua2 vn2 uc2) (fun w' hw => by have := (Y.out.after hw).cell 3 rfl; simp [go_sem, this]) ?_
      simp only [Act.put, List.setIfInBounds_toArray, List.set_cons_zero, List.set_cons_succ]
      refine wpQ_run rfl (.int .i64 vn2) (fun w' hw => by simp [go_sem]) ?_
      simp only [Act.put, List.setIfInBounds_toArray, List.set_cons_zero, List.set_cons_succ]
      refine wpQ_run rfl (.bool false) (fun w' hw => by simp [go_sem]) ?_
      simp only [Act.put, List.setIfInBounds_toArray, List.set_cons_zero, List.set_cons_succ]
      refine wpQ_run rfl (.bool false) (fun w' hw => by simp [go_sem]) ?_
      simp only [Act.put, List.setIfInBounds_toArray, List.set_cons_zero, List.set_cons_succ]
      refine wpQ_run rfl (.bool false) (fun w' hw => by simp [go_sem]) ?_
      simp only [Act.put, List.setIfInBounds_toArray, List.set_cons_zero, List.set_cons_succ]
      refine wpQ_run rfl (.pointer (some ⟨w.heap.size, 5, none⟩)) (fun w' hw => by simp [go_sem]) ?_
      simp only [Act.put, List.setIfInBounds_toArray, List.set_cons_zero, List.set_cons_succ]
      refine wpQ_run rfl (.slice va3 vn3 vc3) (fun w' hw => by have := (X.out.after hw).cell 5 rfl; simp [go_sem, this]) ?_
      simp only [Act.put, List.setIfInBounds_toArray, List.set_cons_zero, List.set_cons_succ]
      refine wpQ_run rfl (.int .i64 vn3) (fun w' hw => by simp [go_sem]) ?_
      simp only [Act.put, List.setIfInBounds_toArray, List.set_cons_zero, List.set_cons_succ]
      refine wpQ_run rfl (.pointer (some ⟨(w.heap.size + 1), 5, none⟩)) (fun w' hw => by simp [go_sem]) ?_
      simp only [Act.put, List.setIfInBounds_toArray, List.set_cons_zero, List.set_cons_succ]
      refine wpQ_run rfl (.slice ua3 un3 uc3) (fun w' hw => by have := (Y.out.after hw).cell 5 rfl; simp [go_sem, this]) ?_
      simp only [Act.put, List.setIfInBounds_toArray, List.set_cons_zero, List.set_cons_succ]
      refine wpQ_run rfl (.int .i64 un3) (fun w' hw => by simp [go_sem]) ?_
      simp only [Act.put, List.setIfInBounds_toArray, List.set_cons_zero, List.set_cons_succ]
      refine wpQ_run rfl (.bool true) (fun w' hw => by simp [go_sem]; omega) ?_
      simp only [Act.put, List.setIfInBounds_toArray, List.set_cons_zero, List.set_cons_succ]
      refine wpQ_run rfl (.bool true) (fun w' hw => by simp [go_sem]) ?_
      simp only [Act.put, List.setIfInBounds_toArray, List.set_cons_zero, List.set_cons_succ]
      intro y1 hb1
      replace B := B.trans (hb1.mono B.size)
      clear hb1
      go_wp2_with fail
      go_ret
      exact ⟨by rw [HF.out]; rfl, B⟩
    subst hq
    have HF : Hid (R = (ns == ns2 && Sj.sameL ks ks2)) := Lib.hid (by rw [HD.out]; simp)
    go_step
    refine wpList_made 38 x0.heap.size x0 (Below.refl _ _) ?_
    simp only [List.take_succ_cons, List.take_zero, List.drop_succ_cons, List.drop_zero]
    refine wpQ_run rfl (.pointer (some ⟨w.heap.size, 0, none⟩)) (fun w' hw => by simp [go_sem]) ?_
    simp only [Act.put, List.setIfInBounds_toArray, List.set_cons_zero, List.set_cons_succ]
    refine wpQ_run rfl (.int .u8 vkd) (fun w' hw => by have := (X.out.after hw).cell 0 rfl; simp [go_sem, this]) ?_
    simp only [Act.put, List.setIfInBounds_toArray, List.set_cons_zero, List.set_cons_succ]
    refine wpQ_run rfl (.pointer (some ⟨(w.heap.size + 1), 0, none⟩)) (fun w' hw => by simp [go_sem]) ?_
    simp only [Act.put, List.setIfInBounds_toArray, List.set_cons_zero, List.set_cons_succ]
    refine wpQ_run rfl (.int .u8 vkd) (fun w' hw => by have := (Y.out.after hw).cell 0 rfl; simp [go_sem, this]) ?_
    simp only [Act.put, List.setIfInBounds_toArray, List.set_cons_zero, List.set_cons_succ]
    refine wpQ_run rfl (.bool false) (fun w' hw => by simp [go_sem]) ?_
    simp only [Act.put, List.setIfInBounds_toArray, List.set_cons_zero, List.set_cons_succ]
    refine wpQ_run rfl (.bool false) (fun w' hw => by simp [go_sem]) ?_
    simp only [Act.put, List.setIfInBounds_toArray, List.set_cons_zero, List.set_cons_succ]
    refine wpQ_run rfl (.pointer (some ⟨w.heap.size, 4, none⟩)) (fun w' hw => by simp [go_sem]) ?_
    simp only [Act.put, List.setIfInBounds_toArray, List.set_cons_zero, List.set_cons_succ]
    refine wpQ_run rfl (.int .i64 vk) (fun w' hw => by have := (X.out.after hw).cell 4 rfl; simp [go_sem, this]) ?_
    simp only [Act.put, List.setIfInBounds_toArray, List.set_cons_zero, List.set_cons_succ]
    refine wpQ_run rfl (.pointer (some ⟨(w.heap.size + 1), 4, none⟩)) (fun w' hw => by simp [go_sem]) ?_
    simp only [Act.put, List.setIfInBounds_toArray, List.set_cons_zero, List.set_cons_succ]
    refine wpQ_run rfl (.int .i64 vk) (fun w' hw => by have := (Y.out.after hw).cell 4 rfl; simp [go_sem, this]) ?_
    simp only [Act.put, List.setIfInBounds_toArray, List.set_cons_zero, List.set_cons_succ]
    refine wpQ_run rfl (.bool false) (fun w' hw => by simp [go_sem]) ?_
    simp only [Act.put, List.setIfInBounds_toArray, List.set_cons_zero, List.set_cons_succ]
    refine wpQ_run rfl (.bool false) (fun w' hw => by simp [go_sem]) ?_
    simp only [Act.put, List.setIfInBounds_toArray, List.set_cons_zero, List.set_cons_succ]
    refine wpQ_run rfl (.bool false) (fun w' hw => by simp [go_sem]) ?_
    simp only [Act.put, List.setIfInBounds_toArray, List.set_cons_zero, List.set_cons_succ]
    refine wpQ_run rfl (.pointer (some ⟨w.heap.size, 1, none⟩)) (fun w' hw => by simp [go_sem]) ?_
    simp only [Act.put, List.setIfInBounds_toArray, List.set_cons_zero, List.set_cons_succ]
    refine wpQ_load_mid rfl 24 _ rfl _ 1 rfl [.bool vs, .slice va1 vn1 vc1] _ (Box.mid X.out 1 _ (mid2 rfl rfl)) X.out.lt Tryd.underlying24 rfl (by kernel_rfl) ?_
    simp only [Act.put, List.setIfInBounds_toArray, List.set_cons_zero, List.set_cons_succ]
    refine wpQ_run rfl (.pointer (some ⟨(w.heap.size + 1), 1, none⟩)) (fun w' hw => by simp [go_sem]) ?_
    simp only [Act.put, List.setIfInBounds_toArray, List.set_cons_zero, List.set_cons_succ]
    refine wpQ_load_mid rfl 24 _ rfl _ 1 rfl [.bool us, .slice ua1 un1 uc1] _ (Box.mid Y.out 1 _ (mid2 rfl rfl)) Y.out.lt Tryd.underlying24 rfl (by kernel_rfl) ?_
    simp only [Act.put, List.setIfInBounds_toArray, List.set_cons_zero, List.set_cons_succ]
    refine wpQ_callS rfl 13 #[.agg #[.bool vs, .slice va1 vn1 vc1], .agg #[.bool us, .slice ua1 un1 uc1]] (fun w' => by simp [go_sem]) (.bool true) (Nat.le_refl _) (fun w' hw => C3.out w' (B.trans (hw.mono B.size))) ?_
    simp only [Act.put, List.setIfInBounds_toArray, List.set_cons_zero, List.set_cons_succ]
    refine wpQ_run rfl (.bool false) (fun w' hw => by simp [go_sem]) ?_
    simp only [Act.put, List.setIfInBounds_toArray, List.set_cons_zero, List.set_cons_succ]
    refine wpQ_run rfl (.bool false) (fun w' hw => by simp [go_sem]) ?_
    simp only [Act.put, List.setIfInBounds_toArray, List.set_cons_zero, List.set_cons_succ]
    refine wpQ_run rfl (.bool false) (fun w' hw => by simp [go_sem]) ?_
    simp only [Act.put, List.setIfInBounds_toArray, List.set_cons_zero, List.set_cons_succ]
    refine wpQ_run rfl (.pointer (some ⟨w.heap.size, 3, none⟩)) (fun w' hw => by simp [go_sem]) ?_
    simp only [Act.put, List.setIfInBounds_toArray, List.set_cons_zero, List.set_cons_succ]
    refine wpQ_run rfl (.slice va2 vn2 vc2) (fun w' hw => by have := (X.out.after hw).cell 3 rfl; simp [go_sem, this]) ?_
    simp only [Act.put, List.setIfInBounds_toArray, List.set_cons_zero, List.set_cons_succ]
    refine wpQ_run rfl (.int .i64 vn2) (fun w' hw => by simp [go_sem]) ?_
    simp only [Act.put, List.setIfInBounds_toArray, List.set_cons_zero, List.set_cons_succ]
    refine wpQ_run rfl (.pointer (some ⟨(w.heap.size + 1), 3, none⟩)) (fun w' hw => by simp [go_sem]) ?_
    simp only [Act.put, List.setIfInBounds_toArray, List.set_cons_zero, List.set_cons_succ]
    refine wpQ_run rfl (.slice ua2 vn2 uc2) (fun w' hw => by have := (Y.out.after hw).cell 3 rfl; simp [go_sem, this]) ?_
    simp only [Act.put, List.setIfInBounds_toArray, List.set_cons_zero, List.set_cons_succ]
    refine wpQ_run rfl (.int .i64 vn2) (fun w' hw => by simp [go_sem]) ?_
    simp only [Act.put, List.setIfInBounds_toArray, List.set_cons_zero, List.set_cons_succ]
    refine wpQ_run rfl (.bool false) (fun w' hw => by simp [go_sem]) ?_
    simp only [Act.put, List.setIfInBounds_toArray, List.set_cons_zero, List.set_cons_succ]
    refine wpQ_run rfl (.bool false) (fun w' hw => by simp [go_sem]) ?_
    simp only [Act.put, List.setIfInBounds_toArray, List.set_cons_zero, List.set_cons_succ]
    refine wpQ_run rfl (.bool false) (fun w' hw => by simp [go_sem]) ?_
    simp only [Act.put, List.setIfInBounds_toArray, List.set_cons_zero, List.set_cons_succ]
    refine wpQ_run rfl (.pointer (some ⟨w.heap.size, 5, none⟩)) (fun w' hw => by simp [go_sem]) ?_
    simp only [Act.put, List.setIfInBounds_toArray, List.set_cons_zero, List.set_cons_succ]
    refine wpQ_run rfl (.slice va3 vn3 vc3) (fun w' hw => by have := (X.out.after hw).cell 5 rfl; simp [go_sem, this]) ?_
    simp only [Act.put, List.setIfInBounds_toArray, List.set_cons_zero, List.set_cons_succ]
    refine wpQ_run rfl (.int .i64 vn3) (fun w' hw => by simp [go_sem]) ?_
    simp only [Act.put, List.setIfInBounds_toArray, List.set_cons_zero, List.set_cons_succ]
    refine wpQ_run rfl (.pointer (some ⟨(w.heap.size + 1), 5, none⟩)) (fun w' hw => by simp [go_sem]) ?_
    simp only [Act.put, List.setIfInBounds_toArray, List.set_cons_zero, List.set_cons_succ]
    refine wpQ_run rfl (.slice ua3 vn3 uc3) (fun w' hw => by have := (Y.out.after hw).cell 5 rfl; simp [go_sem, this]) ?_
    simp only [Act.put, List.setIfInBounds_toArray, List.set_cons_zero, List.set_cons_succ]
    refine wpQ_run rfl (.int .i64 vn3) (fun w' hw => by simp [go_sem]) ?_
    simp only [Act.put, List.setIfInBounds_toArray, List.set_cons_zero, List.set_cons_succ]
    refine wpQ_run rfl (.bool false) (fun w' hw => by simp [go_sem]) ?_
    simp only [Act.put, List.setIfInBounds_toArray, List.set_cons_zero, List.set_cons_succ]
    refine wpQ_run rfl (.bool false) (fun w' hw => by simp [go_sem]) ?_
    simp only [Act.put, List.setIfInBounds_toArray, List.set_cons_zero, List.set_cons_succ]
    intro y1 hb1
    replace X := Lib.hid (X.out.after hb1)
    replace Y := Lib.hid (Y.out.after hb1)
    replace B := B.trans (hb1.mono B.size)
    clear hb1
    have x3 := X.out.cell 3 rfl
    go_wp2_with fail
    clear x3
    go_loopw [5, 48] (fun i c wr => ∃ k : Nat, k ≤ vn2 ∧ c = .int .i64 k ∧ Hid ((ns.take k == ns2.take k) = true) ∧ Below y1.heap.size y1 wr) (fun i c _ => vn2 - (intOf c).toNat)
    case atStart => exact ⟨0, Nat.zero_le _, rfl, Lib.hid (by simp), Below.refl _ _⟩
    case round =>
      obtain ⟨k, hkn, rfl, heq, hb⟩ := hrel
      have hA := hb
      replace B := B.trans (hb.mono B.size)
      replace X := Lib.hid (X.out.after hb)
      replace Y := Lib.hid (Y.out.after hb)
      by_cases hlt : k < vn2
      case pos =>
        obtain ⟨b, o, rfl, hcl⟩ := (HNS.out.after B).cellS hlt
        obtain ⟨b2, o2, rfl, hcl2⟩ := (GNS.out.after B).cellS hlt
        have hkl : k < ns.length := by have := HN2.out; omega
        have hkl2 : k < ns2.length := by have := GN2.out; omega
        have HZ := Lib.hid ((HNS.out.2.2.2.2.2 k hkl).after B)
        have HZ2 := Lib.hid ((GNS.out.2.2.2.2.2 k hkl2).after B)
        obtain ⟨r, hrr⟩ : ∃ r, r = !(ns[k]'hkl == ns2[k]'hkl2) := ⟨_, rfl⟩
        have hbl : b < wr.heap.size := cell_lt hcl
        have hbl2 : b2 < wr.heap.size := cell_lt hcl2
        have hk0 : (0 : Int) ≤ k := by omega
        have hk1 : (k : Int) < vn2 := by omega
        go_upto_region 6 with fail
        refine wp_region_made wr.heap.size wr rfl (by kernel_rfl) (Below.refl _ _) ?_
        refine wpQ_run rfl (.pointer (some ⟨w.heap.size, 3, none⟩)) (fun w' hw => by simp [go_sem]) ?_
        simp only [Act.put, List.setIfInBounds_toArray, List.set_cons_zero, List.set_cons_succ]
        refine wpQ_run rfl (.slice (some ⟨b, o, none⟩) vn2 vc2) (fun w' hw => by have := (X.out.after hw).cell 3 rfl; simp [go_sem, this]) ?_
        simp only [Act.put, List.setIfInBounds_toArray, List.set_cons_zero, List.set_cons_succ]
        refine wpQ_run rfl (.int .i64 k) (fun w' hw => by simp [go_sem]) ?_
        simp only [Act.put, List.setIfInBounds_toArray, List.set_cons_zero, List.set_cons_succ]
        refine wpQ_run rfl (.pointer (some ⟨b, o + k, none⟩)) (fun w' hw => by simp [go_sem, hk0, hk1, hlt]) ?_
        simp only [Act.put, List.setIfInBounds_toArray, List.set_cons_zero, List.set_cons_succ]
        refine wpQ_run rfl (.slice (Z k).a (Z k).n (Z k).c) (fun w' hw => by have := (World.cell?_of_block (a := ⟨b, o + k, none⟩) (hw.block b hbl)).trans hcl; simp [go_sem, this]) ?_
        simp only [Act.put, List.setIfInBounds_toArray, List.set_cons_zero, List.set_cons_succ]
        refine wpQ_run rfl ((.string ⟨(ns[k]'hkl).toArray⟩)) (fun w' hw => by have := conv_sl (HZ.out.after hw); simp [go_sem, this]) ?_
        simp only [Act.put, List.setIfInBounds_toArray, List.set_cons_zero, List.set_cons_succ]
        refine wpQ_run rfl (.pointer (some ⟨(w.heap.size + 1), 3, none⟩)) (fun w' hw => by simp [go_sem]) ?_
        simp only [Act.put, List.setIfInBounds_toArray, List.set_cons_zero, List.set_cons_succ]
        refine wpQ_run rfl (.slice (some ⟨b2, o2, none⟩) vn2 uc2) (fun w' hw => by have := (Y.out.after hw).cell 3 rfl; simp [go_sem, this]) ?_
        simp only [Act.put, List.setIfInBounds_toArray, List.set_cons_zero, List.set_cons_succ]
        refine wpQ_run rfl (.int .i64 k) (fun w' hw => by simp [go_sem]) ?_
        simp only [Act.put, List.setIfInBounds_toArray, List.set_cons_zero, List.set_cons_succ]
        refine wpQ_run rfl (.pointer (some ⟨b2, o2 + k, none⟩)) (fun w' hw => by simp [go_sem, hk0, hk1, hlt]) ?_
        simp only [Act.put, List.setIfInBounds_toArray, List.set_cons_zero, List.set_cons_succ]
        refine wpQ_run rfl (.slice (Z2 k).a (Z2 k).n (Z2 k).c) (fun w' hw => by have := (World.cell?_of_block (a := ⟨b2, o2 + k, none⟩) (hw.block b2 hbl2)).trans hcl2; simp [go_sem, this]) ?_
        simp only [Act.put, List.setIfInBounds_toArray, List.set_cons_zero, List.set_cons_succ]
        refine wpQ_run rfl ((.string ⟨(ns2[k]'hkl2).toArray⟩)) (fun w' hw => by have := conv_sl (HZ2.out.after hw); simp [go_sem, this]) ?_
        simp only [Act.put, List.setIfInBounds_toArray, List.set_cons_zero, List.set_cons_succ]
        refine wpQ_run rfl (.bool r) (fun w' hw => by rw [hrr]; simp [go_sem]; try rfl) ?_
        simp only [Act.put, List.setIfInBounds_toArray, List.set_cons_zero, List.set_cons_succ]
        intro w1 hb1
        replace hrr := Lib.hid hrr
        have B1 := B.trans (hb1.mono B.size)
        have D1 := hb.trans (hb1.mono hb.size)
        clear HZ HZ2 X Y B hb hb1 hcl hcl2
        cases r with
        | true =>
          have HF2 : Hid (R = false) := Lib.hid (by rw [HF.out, show (ns == ns2) = false from beq_eq_false_iff_ne.2 (fun h => by subst h; have := hrr.out; simp at this)]; rfl)
          go_wp2_with fail
          go_ret
          exact ⟨by rw [HF2.out]; rfl, B1⟩
        | false =>
          go_wp2_with fail
          go_roundw
          case rel => exact ⟨k + 1, by omega, by go_num, Lib.hid (by rw [names_snoc k hkl hkl2, heq.out]; have := hrr.out; simpa using this), D1⟩
          case measure => simp [intOf]; omega
      case neg =>
        obtain ⟨wa, rfl⟩ : ∃ wa : World, wa = wr := ⟨_, rfl⟩
        have HF2 : Hid (R = Sj.sameL ks ks2) := Lib.hid (by
          have h1 := HN2.out
          have h2 := GN2.out
          have h3 := heq.out
          rw [List.take_of_length_le (by omega), List.take_of_length_le (by omega)] at h3
          rw [HF.out, h3]; rfl)
        clear HF heq
        have x5 := X.out.cell 5 rfl
        go_wp2_with fail
        clear x5
        go_loopw [6, 68] (fun i c wq => ∃ k : Nat, k ≤ vn3 ∧ c = .int .i64 k ∧ Hid (Sj.sameL (ks.take k) (ks2.take k) = true) ∧ Below wa.heap.size wa wq) (fun i c _ => vn3 - (intOf c).toNat)
        case atStart => exact ⟨0, Nat.zero_le _, rfl, Lib.hid rfl, Below.refl _ _⟩
        case round =>
          obtain ⟨p, hpn, rfl, heq, hb2⟩ := hrel
          replace B := B.trans (hb2.mono B.size)
          replace X := Lib.hid (X.out.after hb2)
          replace Y := Lib.hid (Y.out.after hb2)
          have x5 := X.out.cell 5 rfl
          by_cases hlt2 : p < vn3
          case pos =>
            have g1 : p < ks.length := by have := HN3.out; omega
            have g2 : p < ks2.length := by have := GN3.out; omega
            obtain ⟨b, o, rfl, _⟩ := HR.out.rangeB hlt2
            obtain ⟨b2, o2, rfl, _⟩ := GR.out.rangeB hlt2
            obtain ⟨ck, hck⟩ : ∃ ck, ck = ks[p].same ks2[p] := ⟨_, rfl⟩
            have CE := Lib.hid (fun w' (hw : Below wr.heap.size wr w') => IH.out _ (List.getElem_mem g1) _ _ _ w' (((HK.out p g1).after B).after hw) (((GK.out p g2).after B).after hw))
            rw [← hck] at CE
            have HCK := Lib.hid hck
            clear hck
            have hL1 := (HR.out.after B).rangeA hlt2
            have hL2 := (GR.out.after B).rangeA hlt2
            have hbl : b < wr.heap.size := cell_lt (hL1 0 _ rfl)
            have hbl2 : b2 < wr.heap.size := cell_lt (hL2 0 _ rfl)
            have hk0 : (0 : Int) ≤ p := by omega
            have hk1 : (p : Int) < vn3 := by omega
            go_upto_region 12 with fail
            refine wp_region_made wr.heap.size wr rfl (by kernel_rfl) (Below.refl _ _) ?_
            refine wpQ_run rfl (.pointer (some ⟨w.heap.size, 5, none⟩)) (fun w' hw => by simp [go_sem]) ?_
            simp only [Act.put, List.setIfInBounds_toArray, List.set_cons_zero, List.set_cons_succ]
            refine wpQ_run rfl (.slice (some ⟨b, o, none⟩) vn3 vc3) (fun w' hw => by have := (X.out.after hw).cell 5 rfl; simp [go_sem, this]) ?_
            simp only [Act.put, List.setIfInBounds_toArray, List.set_cons_zero, List.set_cons_succ]
            refine wpQ_run rfl (.int .i64 p) (fun w' hw => by simp [go_sem]) ?_
            simp only [Act.put, List.setIfInBounds_toArray, List.set_cons_zero, List.set_cons_succ]
            refine wpQ_run rfl (.pointer (some ⟨b, o + p * 6, none⟩)) (fun w' hw => by simp [go_sem, hk0, hk1, hlt2]) ?_
            simp only [Act.put, List.setIfInBounds_toArray, List.set_cons_zero, List.set_cons_succ]
            refine wpQ_load_mid rfl 28 _ rfl b (o + p * 6) rfl _ _ hL1 hbl Tryd.underlying28 rfl (by kernel_rfl) ?_
            simp only [Act.put, List.setIfInBounds_toArray, List.set_cons_zero, List.set_cons_succ]
            refine wpQ_run rfl (.pointer (some ⟨(w.heap.size + 1), 5, none⟩)) (fun w' hw => by simp [go_sem]) ?_
            simp only [Act.put, List.setIfInBounds_toArray, List.set_cons_zero, List.set_cons_succ]
            refine wpQ_run rfl (.slice (some ⟨b2, o2, none⟩) vn3 uc3) (fun w' hw => by have := (Y.out.after hw).cell 5 rfl; simp [go_sem, this]) ?_
            simp only [Act.put, List.setIfInBounds_toArray, List.set_cons_zero, List.set_cons_succ]
            refine wpQ_run rfl (.int .i64 p) (fun w' hw => by simp [go_sem]) ?_
            simp only [Act.put, List.setIfInBounds_toArray, List.set_cons_zero, List.set_cons_succ]
            refine wpQ_run rfl (.pointer (some ⟨b2, o2 + p * 6, none⟩)) (fun w' hw => by simp [go_sem, hk0, hk1, hlt2]) ?_
            simp only [Act.put, List.setIfInBounds_toArray, List.set_cons_zero, List.set_cons_succ]
            refine wpQ_load_mid rfl 28 _ rfl b2 (o2 + p * 6) rfl _ _ hL2 hbl2 Tryd.underlying28 rfl (by kernel_rfl) ?_
            simp only [Act.put, List.setIfInBounds_toArray, List.set_cons_zero, List.set_cons_succ]
            refine wpQ_callS rfl 12 #[.agg (K p).cells, .agg (K2 p).cells] (fun w' => by simp [go_sem]) (.bool ck) (Nat.le_refl _) (fun w' hw => CE.out w' hw) ?_
            simp only [Act.put, List.setIfInBounds_toArray, List.set_cons_zero, List.set_cons_succ]
            refine wpQ_run rfl (.bool (!ck)) (fun w' hw => by simp [go_sem]) ?_
            simp only [Act.put, List.setIfInBounds_toArray, List.set_cons_zero, List.set_cons_succ]
            intro w1 hb1
            have B1 := B.trans (hb1.mono B.size)
            have D1 := hb2.trans (hb1.mono hb2.size)
            clear X Y B hb2 hb1 hL1 hL2 CE x5
            cases ck with
            | false =>
              have HF3 : Hid (R = false) := Lib.hid (by rw [HF2.out, Sj.sameL_no p g1 g2 HCK.out.symm])
              go_wp2_with fail
              go_ret
              exact ⟨by rw [HF3.out]; rfl, B1⟩
            | true =>
              go_wp2_with fail
              go_roundw
              case rel => exact ⟨p + 1, by omega, by go_num, Lib.hid (by rw [Sj.sameL_snoc p g1 g2, heq.out, ← HCK.out]; rfl), D1⟩
              case measure => simp [intOf]; omega
          case neg =>
            have HF3 : Hid (R = true) := Lib.hid (by
              have h1 := HN3.out
              have h2 := GN3.out
              have h3 := heq.out
              rw [List.take_of_length_le (by omega), List.take_of_length_le (by omega)] at h3
              rw [HF2.out, h3])
            go_wp2_with fail
            go_ret
            exact ⟨by rw [HF3.out]; rfl, B⟩

end Go.Proofs.YthmigigclmogiaaDoor

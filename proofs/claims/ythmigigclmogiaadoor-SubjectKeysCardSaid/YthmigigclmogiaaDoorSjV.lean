/- The program's value of a subject: the kinds without parts. -/
import Derived.Test.YthmigigclmogiaaDoorSjP
namespace Go.Proofs.YthmigigclmogiaaDoor
open Go.RowKit
set_option linter.unusedSimpArgs false
set_option linter.unusedVariables false

set_option maxHeartbeats 16000000 in
set_option maxRecDepth 100000 in
theorem value1_any {sb : Bool} {da : List UInt8} {ns : List (List UInt8)} {kk : Int} {ks : List Sj} (v : JV) (w : World) (hr : RdJ (fun _ => True) w v (.mk 1 sb da ns kk ks)) (hm : keyMay sb da.length = true) :
    Calls Tryd.prog 18 #[v.val] w (ValI (fun b => w.heap.size ≤ b) (keyS sb da) w) := by
  obtain ⟨hkd, hsb, hkk, hs1, ⟨Z, hN⟩, hn, ⟨K, hrow, hk⟩, hk0, hk1⟩ := hr.all2
  obtain ⟨vkd, vs, a1, n1, c1, a2, n2, c2, vk, a3, n3, c3⟩ := v
  dsimp only at hkd hsb hkk hs1 hN hn hrow
  obtain rfl : vkd = 1 := hkd
  obtain rfl : vs = sb := hsb
  obtain rfl : vk = kk := hkk
  have HS := Lib.hid hs1
  have HNS := Lib.hid hN.1
  have HN2 := Lib.hid hN.1.2.2.2.1
  have HN1 := Lib.hid hs1.1
  have HKM := Lib.hid hm
  have hnc1 := Nat.le_trans hs1.2.1 hs1.2.2.1
  have hnc2 := Nat.le_trans hN.1.1 hN.1.2.1
  unfold maxLen at hnc1 hnc2
  have hq1 : n1 ≤ 100000 := by have h1 := keyMay_len hm; have h2 := hs1.1; omega
  clear hs1 hrow hk hN hr hm hn
  have B : Below w.heap.size w ((w.alloc (.cells #[.int .u8 (1 : Nat), .bool vs, .slice a1 n1 c1, .slice a2 n2 c2, .int .i64 vk, .slice a3 n3 c3] 28)).alloc (.cells #[.bool false, .bool false, .slice none 0 0, .slice none 0 0, .slice none 0 0] 33)) := ((Below.refl _ _).alloc (Nat.le_refl _) _).alloc (by simp) _
  have X : Hid (Box ((w.alloc (.cells #[.int .u8 (1 : Nat), .bool vs, .slice a1 n1 c1, .slice a2 n2 c2, .int .i64 vk, .slice a3 n3 c3] 28)).alloc (.cells #[.bool false, .bool false, .slice none 0 0, .slice none 0 0, .slice none 0 0] 33)) w.heap.size 28 #[.int .u8 (1 : Nat), .bool vs, .slice a1 n1 c1, .slice a2 n2 c2, .int .i64 vk, .slice a3 n3 c3]) := Lib.hid ((Box.new _ _ _).alloc _)
  have Y : Hid (Box ((w.alloc (.cells #[.int .u8 (1 : Nat), .bool vs, .slice a1 n1 c1, .slice a2 n2 c2, .int .i64 vk, .slice a3 n3 c3] 28)).alloc (.cells #[.bool false, .bool false, .slice none 0 0, .slice none 0 0, .slice none 0 0] 33)) (w.heap.size + 1) 33 #[.bool false, .bool false, .slice none 0 0, .slice none 0 0, .slice none 0 0]) := Lib.hid (by
    have := Box.new (w.alloc (.cells #[.int .u8 (1 : Nat), .bool vs, .slice a1 n1 c1, .slice a2 n2 c2, .int .i64 vk, .slice a3 n3 c3] 28)) 33 #[.bool false, .bool false, .slice none 0 0, .slice none 0 0, .slice none 0 0]
    simpa using this)
  show Calls _ _ #[.agg #[.int .u8 (1 : Nat), .bool vs, .slice a1 n1 c1, .slice a2 n2 c2, .int .i64 vk, .slice a3 n3 c3]] _ _
  go_enter Tryd.func18, Tryd.ntmps18
  go_upto_region 1 with fail
  change Code.wp _ _ _ _ ((w.alloc (.cells #[.int .u8 (1 : Nat), .bool vs, .slice a1 n1 c1, .slice a2 n2 c2, .int .i64 vk, .slice a3 n3 c3] 28)).alloc (.cells #[.bool false, .bool false, .slice none 0 0, .slice none 0 0, .slice none 0 0] 33))
  generalize ((w.alloc (.cells #[.int .u8 (1 : Nat), .bool vs, .slice a1 n1 c1, .slice a2 n2 c2, .int .i64 vk, .slice a3 n3 c3] 28)).alloc (.cells #[.bool false, .bool false, .slice none 0 0, .slice none 0 0, .slice none 0 0] 33)) = x0 at *
  have hx0 := Y.out.lt
  have q0 := X.out.cell 0 rfl
  go_wp2_with (refine wpList_load_midG 24 _ rfl w.heap.size 1 rfl [.bool vs, .slice a1 n1 c1] _ (Box.mid X.out 1 _ (mid2 rfl rfl)) Tryd.underlying24 rfl (by kernel_rfl) rfl ?_)
  refine (keyPut_any vs a1 n1 c1 da x0 (HS.out.after B) hq1).mono ?_
  rintro e x1 (⟨hm1, ⟨ul, uh, ua1, un1, uc1, ua2, un2, uc2, ua3, un3, uc3⟩, rfl, ru, bx1⟩ | ⟨hm1, rfl, bx1⟩)
  case inr =>
    rw [HKM.out] at hm1
    cases hm1
  have RU := Lib.hid ru
  clear ru hm1 q0
  replace X := Lib.hid (X.out.after bx1)
  replace Y := Lib.hid (Y.out.after bx1)
  replace B := B.trans (bx1.mono B.size)
  clear bx1
  go_upto_region 10 with (refine wpList_store_box (cells := #[.bool ul, .bool uh, .slice ua1 un1 uc1, .slice ua2 un2 uc2, .slice ua3 un3 uc3]) rfl 33 _ _ rfl (Box.new _ _ _) (by rfl) (by rfl) rfl (by kernel_rfl) (by simp [Value.oneCell']) ?_; intro u9 X9 st9)
  have hzx : w.heap.size + 1 < x1.heap.size := Y.out.lt
  have bs2 : Below x1.heap.size x1 u9 := st9.below x1.heap.size x1 (Nat.le_refl _) ((Below.refl _ _).alloc (Nat.le_refl _) _)
  have Z := Lib.hid X9
  replace X := Lib.hid (X.out.after bs2)
  replace Y := Lib.hid (Y.out.after bs2)
  replace RU := Lib.hid (RU.out.after bs2)
  replace B := B.trans (bs2.mono B.size)
  clear bs2 st9 X9
  generalize u9 = x2 at *
  generalize x1.heap.size = yz at *
  have q0 := X.out.cell 0 rfl
  go_wp2_with first | (refine wpList_load_box rfl 33 _ rfl Z.out (by rfl) Tryd.underlying33 rfl (by kernel_rfl) ?_) | (refine wpList_store_box (cells := #[.bool ul, .bool uh, .slice ua1 un1 uc1, .slice ua2 un2 uc2, .slice ua3 un3 uc3]) rfl 33 _ _ rfl Y.out (by rfl) (by rfl) rfl (by kernel_rfl) (by simp [Value.oneCell']) ?_; intro u9 X9 st9)
  have B9 := st9.below w.heap.size w (by omega) B
  have R9 : RdI (fun b => w.heap.size ≤ b) u9 ⟨ul, uh, ua1, un1, uc1, ua2, un2, uc2, ua3, un3, uc3⟩ (keyS vs da) := (RU.out.keep (w' := u9) (fun b hb => st9.other b (by have := hb; omega))).mono (fun b hb => by show w.heap.size ≤ b; have := hb; omega)
  exact bodyPost_ret (v := .agg #[.bool ul, .bool uh, .slice ua1 un1 uc1, .slice ua2 un2 uc2, .slice ua3 un3 uc3]) (box_result rfl _ _ (by rfl) X9 Tryd.underlying33 rfl (by kernel_rfl)) rfl ⟨⟨ul, uh, ua1, un1, uc1, ua2, un2, uc2, ua3, un3, uc3⟩, rfl, R9, B9⟩

end Go.Proofs.YthmigigclmogiaaDoor

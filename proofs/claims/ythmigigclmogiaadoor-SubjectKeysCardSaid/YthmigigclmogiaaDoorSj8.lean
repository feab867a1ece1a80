/- The program's right: what it computes. -/
import Derived.Test.YthmigigclmogiaaDoorSj6
import Derived.Test.YthmigigclmogiaaDoorSj3
namespace Go.Proofs.YthmigigclmogiaaDoor
open Go.RowKit
set_option linter.unusedSimpArgs false
set_option linter.unusedVariables false

theorem RdJ.all2 {ok : Nat → Prop} {w : World} {v : JV} {kd : Nat} {s : Bool} {da : List UInt8} {ns : List (List UInt8)} {k : Int} {ks : List Sj} (h : RdJ ok w v (.mk kd s da ns k ks)) :
    v.kd = kd ∧ v.s = s ∧ v.k = k ∧ Sl w v.a1 v.n1 v.c1 da ∧ (∃ Z, RowN ok w v.a2 v.n2 v.c2 Z ns) ∧ v.n3 = ks.length ∧ (∃ K, RowJ w v.a3 v.n3 v.c3 K ∧ ∀ i (hi : i < ks.length), RdJ ok w (K i) ks[i]) ∧ -9223372036854775808 ≤ k ∧ k ≤ 9223372036854775807 := by
  cases h with
  | mk v da ns ks Z K h1 h2 h3 h4 h5 h6 h7 h8 h9 h10 => exact ⟨rfl, rfl, rfl, h1, ⟨Z, h3⟩, h6, ⟨K, h4, h7⟩, h9, h10⟩
/-- nothing but a key, and perhaps names -/
def pl (s : Bool) (da : List UInt8) (k : Int) (ks : List Sj) : Bool := k == 0 && (ks.length == 0 && keyMay s da.length)
/-- a join that is not right of itself -/
def badJ (s : Bool) (da : List UInt8) (ns : List (List UInt8)) (k : Int) (ks : List Sj) (deep : Nat) : Bool :=
  decide (3 < deep) || (s || (decide (0 < da.length + ns.length) || (decide (k < 1) || (decide ((ks.length : Int) < k) || decide (8 < ks.length)))))
def noName (l : List UInt8) : Bool := l.length == 0
mutual
def Sj.right : Sj → Nat → Bool
  | .mk kd s da ns k ks, deep => if kd = 1 then pl s da k ks && ns.length == 0 else if kd = 2 then pl s da k ks && (decide (0 < ns.length) && (decide (ns.length ≤ 8) && !(ns.any noName))) else if kd = 3 then !(badJ s da ns k ks deep) && !(Sj.wrongL ks (deep + 1)) else false
def Sj.wrongL : List Sj → Nat → Bool
  | [], _ => false
  | k :: r, d => !(k.right d) || Sj.wrongL r d
end
theorem right_def (kd : Nat) (s : Bool) (da : List UInt8) (ns : List (List UInt8)) (k : Int) (ks : List Sj) (deep : Nat) : (Sj.mk kd s da ns k ks).right deep = (if kd = 1 then pl s da k ks && ns.length == 0 else if kd = 2 then pl s da k ks && (decide (0 < ns.length) && (decide (ns.length ≤ 8) && !(ns.any noName))) else if kd = 3 then !(badJ s da ns k ks deep) && !(Sj.wrongL ks (deep + 1)) else false) := by simp only [Sj.right]
theorem wrongL_any (ks : List Sj) (d : Nat) : Sj.wrongL ks d = ks.any (fun k => !(k.right d)) := by
  induction ks with
  | nil => rfl
  | cons x r ih => simp only [Sj.wrongL, List.any_cons, ih]
theorem anyJ_snoc (p : Sj → Bool) (ls : List Sj) (k : Nat) (h : k < ls.length) : (ls.take (k + 1)).any p = ((ls.take k).any p || p ls[k]) := by
  rw [List.take_succ_eq_append_getElem h, List.any_append]
  simp

set_option maxHeartbeats 16000000 in
set_option maxRecDepth 100000 in
theorem right1_any (a : Option Addr) (n c : Nat) (l : List UInt8) (w : World) (hs : Sl w a n c l) : Calls Tryd.prog 37 #[.slice a n c] w fun e w' => e = .returned (.bool (noName l)) ∧ w' = w := by
  have hn := hs.1
  unfold noName
  rw [← hn]
  clear hs hn
  by_cases h : n = 0
  · subst h
    go_enter Tryd.func37, Tryd.ntmps37
    go_wp2_with fail
    go_ret
    exact ⟨rfl, rfl⟩
  · have h1 : ((n : Int) == 0) = false := by simp; omega
    have h2 : (n == 0) = false := by simp; omega
    have H2 := Lib.hid h2
    clear h h2
    go_enter Tryd.func37, Tryd.ntmps37
    go_wp2_with fail
    go_ret
    exact ⟨by rw [H2.out]; rfl, rfl⟩
set_option maxHeartbeats 16000000 in
set_option maxRecDepth 100000 in
theorem idxNames_any (a : Option Addr) (n c : Nat) (Z : Nat → S3) (ls : List (List UInt8)) (w : World) (hs : RowS w a n c Z ls) :
    Calls Tryd.prog 45 #[.slice a n c, .func (.func 37) #[] #[]] w fun e w' => (∃ r : Int, e = .returned (.int .i64 r) ∧ decide (0 ≤ r) = ls.any noName) ∧ w' = w := by
  have HS := Lib.hid hs
  have HL := Lib.hid hs.2.2.2.1
  have hn : (n : Int) ≤ 9223372036854775807 := by have h2 := hs.1; have h3 := hs.2.1; unfold maxLen at h3; omega
  clear hs
  go_enter Tryd.func45, Tryd.ntmps45
  go_wp2_with fail
  go_loopw [8] (fun i wr => ∃ k : Nat, k ≤ n ∧ i = .int .i64 k ∧ Hid ((ls.take k).any noName = false) ∧ wr = w) (fun i _ => n - (intOf i).toNat)
  case atStart => exact ⟨0, Nat.zero_le _, rfl, Lib.hid rfl, rfl⟩
  case round =>
    obtain ⟨k, hk, rfl, hno, rfl⟩ := hrel
    by_cases hlt : k < n
    case neg =>
      have hki : ¬ (k : Int) < n := by omega
      go_wp2_with fail
      go_ret
      exact ⟨⟨-1, rfl, by have h := hno.out; rw [List.take_of_length_le (by have := HL.out; omega)] at h; rw [h]; rfl⟩, rfl⟩
    case pos =>
      have hki : (k : Int) < n := by omega
      have hkl : k < ls.length := by have := HL.out; omega
      obtain ⟨b, o, rfl, hcell⟩ := HS.out.cellS hlt
      have HC := Lib.hid (right1_any _ _ _ _ wr (HS.out.2.2.2.2.2 k hkl))
      have HSN : Hid ((ls.take (k + 1)).any noName = noName (ls[k]'hkl)) := Lib.hid (by rw [anyB_snoc _ _ _ hkl, hno.out]; rfl)
      have HAN : Hid (noName (ls[k]'hkl) = true → ls.any noName = true) := Lib.hid (fun h => List.any_eq_true.2 ⟨_, List.getElem_mem hkl, h⟩)
      generalize noName (ls[k]'hkl) = gx at *
      have hk0 : (0 : Int) ≤ k := by omega
      go_wp2_with fail
      refine HC.out.mono ?_
      rintro e w1 ⟨rfl, rfl⟩
      cases gx with
      | true =>
        go_wp2_with fail
        go_ret
        exact ⟨⟨k, rfl, by rw [HAN.out (by trivial)]; simp⟩, rfl⟩
      | false =>
        go_wp2_with fail
        go_roundw
        case rel => exact ⟨k + 1, by omega, by go_num, HSN, by trivial⟩
        case measure => simp [intOf] <;> omega
set_option maxHeartbeats 16000000 in
set_option maxRecDepth 100000 in
theorem conNames_any (a : Option Addr) (n c : Nat) (Z : Nat → S3) (ls : List (List UInt8)) (w : World) (hs : RowS w a n c Z ls) :
    Calls Tryd.prog 38 #[.slice a n c, .func (.func 37) #[] #[]] w fun e w' => e = .returned (.bool (ls.any noName)) ∧ Below w.heap.size w w' := by
  have HI := Lib.hid (idxNames_any a n c Z ls w hs)
  clear hs
  go_enter Tryd.func38, Tryd.ntmps38
  go_wp2_with fail
  refine HI.out.mono ?_
  rintro e w1 ⟨⟨r, rfl, hr⟩, rfl⟩
  have HR := Lib.hid hr
  clear hr
  go_wp2_with fail
  go_ret
  exact ⟨by rw [← HR.out]; rfl, Below.refl _ _⟩
/-- the closure's answers for the subjects of a row -/
def AnsJ (ks : List Sj) (K : Nat → JV) (g : Nat) (f : Sj → Bool) (w : World) : Prop := ∀ i (h : i < ks.length) w', Below w.heap.size w w' → Calls Tryd.prog 40 #[(K i).val, .pointer (some ⟨g, 0, none⟩)] w' fun e w'' => e = .returned (.bool (f ks[i])) ∧ Below w'.heap.size w' w''
set_option maxHeartbeats 16000000 in
set_option maxRecDepth 100000 in
theorem idxSubs_any (a : Option Addr) (n c : Nat) (K : Nat → JV) (ks : List Sj) (g : Nat) (f : Sj → Bool) (w : World) (hr : RowJ w a n c K) (hnk : n = ks.length) (he : AnsJ ks K g f w) :
    Calls Tryd.prog 46 #[.slice a n c, .func (.func 40) #[] #[.pointer (some ⟨g, 0, none⟩)]] w fun e w' => (∃ r : Int, e = .returned (.int .i64 r) ∧ decide (0 ≤ r) = ks.any f) ∧ Below w.heap.size w w' := by
  have HR := Lib.hid hr
  have HL := Lib.hid hnk
  have HE := Lib.hid he
  have hn : (n : Int) ≤ 9223372036854775807 := by have h2 := hr.1; have h3 := hr.2.1; unfold maxLen at h3; omega
  clear hr hnk he
  go_enter Tryd.func46, Tryd.ntmps46
  go_wp2_with fail
  go_loopw [8] (fun i wr => ∃ k : Nat, k ≤ n ∧ i = .int .i64 k ∧ Hid ((ks.take k).any f = false) ∧ Below w.heap.size w wr) (fun i _ => n - (intOf i).toNat)
  case atStart => exact ⟨0, Nat.zero_le _, rfl, Lib.hid rfl, Below.refl _ _⟩
  case round =>
    obtain ⟨k, hk, rfl, hno, hb⟩ := hrel
    by_cases hlt : k < n
    case neg =>
      have hki : ¬ (k : Int) < n := by omega
      go_wp2_with fail
      go_ret
      exact ⟨⟨-1, rfl, by have h := hno.out; rw [List.take_of_length_le (by have := HL.out; omega)] at h; rw [h]; rfl⟩, hb⟩
    case pos =>
      have hki : (k : Int) < n := by omega
      have hkl : k < ks.length := by have := HL.out; omega
      obtain ⟨b, o, rfl, hld⟩ := (HR.out.after hb).range hlt
      have HLD := Lib.hid hld
      have HC := Lib.hid (HE.out k hkl wr hb)
      have HSN : Hid ((ks.take (k + 1)).any f = f (ks[k]'hkl)) := Lib.hid (by rw [anyJ_snoc _ _ _ hkl, hno.out]; rfl)
      have HAN : Hid (f (ks[k]'hkl) = true → ks.any f = true) := Lib.hid (fun h => List.any_eq_true.2 ⟨_, List.getElem_mem hkl, h⟩)
      generalize f (ks[k]'hkl) = gx at *
      have hk0 : (0 : Int) ≤ k := by omega
      clear hld
      go_wp2_with (refine wpList_load_jv rfl _ rfl b _ rfl _ HLD.out ?_)
      refine HC.out.mono ?_
      rintro e w1 ⟨rfl, hb1⟩
      have hb2 := hb.trans (hb1.mono hb.size)
      clear hb1 HLD
      cases gx with
      | true =>
        go_wp2_with fail
        go_ret
        exact ⟨⟨k, rfl, by rw [HAN.out (by trivial)]; simp⟩, hb2⟩
      | false =>
        go_wp2_with fail
        go_roundw
        case rel => exact ⟨k + 1, by omega, by go_num, HSN, hb2⟩
        case measure => simp [intOf] <;> omega
set_option maxHeartbeats 16000000 in
set_option maxRecDepth 100000 in
theorem conSubs_any (a : Option Addr) (n c : Nat) (K : Nat → JV) (ks : List Sj) (g : Nat) (f : Sj → Bool) (w : World) (hr : RowJ w a n c K) (hnk : n = ks.length) (he : AnsJ ks K g f w) :
    Calls Tryd.prog 39 #[.slice a n c, .func (.func 40) #[] #[.pointer (some ⟨g, 0, none⟩)]] w fun e w' => e = .returned (.bool (ks.any f)) ∧ Below w.heap.size w w' := by
  have HI := Lib.hid (idxSubs_any a n c K ks g f w hr hnk he)
  clear hr hnk he
  go_enter Tryd.func39, Tryd.ntmps39
  go_wp2_with fail
  refine HI.out.mono ?_
  rintro e w1 ⟨⟨r, rfl, hr⟩, hb⟩
  have HR := Lib.hid hr
  clear hr
  go_wp2_with fail
  go_ret
  exact ⟨by rw [← HR.out]; rfl, hb⟩
set_option maxHeartbeats 16000000 in
set_option maxRecDepth 100000 in
theorem right2_of (v : JV) (deep g : Nat) (r : Bool) (w : World) (hc : w.cell? ⟨g, 0, none⟩ = some (.int .i64 deep)) (hd : deep ≤ 1000)
    (H : ∀ w', Below w.heap.size w w' → Calls Tryd.prog 27 #[v.val, .int .i64 ((deep + 1 : Nat) : Int)] w' fun e w'' => e = .returned (.bool r) ∧ Below w'.heap.size w' w'') :
    Calls Tryd.prog 40 #[v.val, .pointer (some ⟨g, 0, none⟩)] w fun e w' => e = .returned (.bool (!r)) ∧ Below w.heap.size w w' := by
  have HH := Lib.hid H
  have hgl := cell_lt hc
  clear H
  obtain ⟨vkd, vs, va1, vn1, vc1, va2, vn2, vc2, vk, va3, vn3, vc3⟩ := v
  have hb : Below w.heap.size w (w.alloc (.cells #[.int .u8 vkd, .bool vs, .slice va1 vn1 vc1, .slice va2 vn2 vc2, .int .i64 vk, .slice va3 vn3 vc3] 28)) := (Below.refl _ _).alloc (Nat.le_refl _) _
  have hc1 : ((w.alloc (.cells #[.int .u8 vkd, .bool vs, .slice va1 vn1 vc1, .slice va2 vn2 vc2, .int .i64 vk, .slice va3 vn3 vc3] 28))).cell? ⟨g, 0, none⟩ = some (.int .i64 deep) := (World.cell?_of_block (a := ⟨g, 0, none⟩) (hb.block g hgl)).trans hc
  have HX := Lib.hid (Box.new w 28 #[.int .u8 vkd, .bool vs, .slice va1 vn1 vc1, .slice va2 vn2 vc2, .int .i64 vk, .slice va3 vn3 vc3])
  have HC := Lib.hid (HH.out _ hb)
  have hdd : ((deep + 1 : Nat) : Int) = (deep : Int) + 1 := by omega
  rw [hdd] at HC
  clear hc hdd
  show Calls _ _ #[.agg #[.int .u8 vkd, .bool vs, .slice va1 vn1 vc1, .slice va2 vn2 vc2, .int .i64 vk, .slice va3 vn3 vc3], .pointer (some ⟨g, 0, none⟩)] _ _
  go_enter Tryd.func40, Tryd.ntmps40
  go_upto_region 1 with fail
  change Code.wp _ _ _ _ (w.alloc (.cells #[.int .u8 vkd, .bool vs, .slice va1 vn1 vc1, .slice va2 vn2 vc2, .int .i64 vk, .slice va3 vn3 vc3] 28))
  generalize (w.alloc (.cells #[.int .u8 vkd, .bool vs, .slice va1 vn1 vc1, .slice va2 vn2 vc2, .int .i64 vk, .slice va3 vn3 vc3] 28)) = x0 at *
  go_wp2_with (refine wpList_load_box rfl 28 _ rfl HX.out (by rfl) Tryd.underlying28 rfl (by kernel_rfl) ?_)
  refine HC.out.mono ?_
  rintro e w1 ⟨rfl, hb1⟩
  have hb2 := hb.trans (hb1.mono hb.size)
  go_wp2_with fail
  go_ret
  exact ⟨rfl, hb2⟩
set_option maxHeartbeats 16000000 in
set_option maxRecDepth 100000 in
theorem plain_any2 {kd : Nat} {sb : Bool} {da : List UInt8} {ns : List (List UInt8)} {kk : Int} {ks : List Sj} (v : JV) (w : World) (hr : RdJ (fun _ => True) w v (.mk kd sb da ns kk ks)) (hl : da.length ≤ 1000000) :
    Calls Tryd.prog 36 #[v.val] w fun e w' => e = .returned (.bool (pl sb da kk ks)) ∧ Below w.heap.size w w' := by
  obtain ⟨hkd, hsb, hkk, hs1, ⟨Z, hN⟩, hn, ⟨K, hrow, hk⟩, hk0, hk1⟩ := hr.all2
  obtain ⟨vkd, vs, a1, n1, c1, a2, n2, c2, vk, a3, n3, c3⟩ := v
  dsimp only at hkd hsb hkk hs1 hN hn hrow
  obtain rfl : vkd = kd := hkd
  obtain rfl : vs = sb := hsb
  obtain rfl : vk = kk := hkk
  subst hn
  have HS := Lib.hid hs1
  have HR := Lib.hid hrow
  have HK := Lib.hid hk
  have HNS := Lib.hid hN.1
  have HN2 := Lib.hid hN.1.2.2.2.1
  have HN1 := Lib.hid hs1.1
  have hnc1 := Nat.le_trans hs1.2.1 hs1.2.2.1
  have hnc2 := Nat.le_trans hN.1.1 hN.1.2.1
  have hnc3 := Nat.le_trans hrow.1 hrow.2.1
  unfold maxLen at hnc1 hnc2 hnc3
  clear hs1 hrow hk hN hr
  have hq1 : n1 ≤ 1000000 := by have := HN1.out; omega
  have C := Lib.hid (fun w' => keyMay_any vs a1 n1 c1 w' hq1)
  have hkm : keyMay vs n1 = keyMay vs da.length := by rw [HN1.out]
  rw [hkm] at C
  clear hkm
  have HP := Lib.hid (show pl vs da vk ks = (vk == 0 && (ks.length == 0 && keyMay vs da.length)) from rfl)
  generalize keyMay vs da.length = r at *
  generalize pl vs da vk ks = R at *
  have B : Below w.heap.size w (w.alloc (.cells #[.int .u8 vkd, .bool vs, .slice a1 n1 c1, .slice a2 n2 c2, .int .i64 vk, .slice a3 ks.length c3] 28)) := (Below.refl _ _).alloc (Nat.le_refl _) _
  have X := Lib.hid (Box.new w 28 #[.int .u8 vkd, .bool vs, .slice a1 n1 c1, .slice a2 n2 c2, .int .i64 vk, .slice a3 ks.length c3])
  show Calls _ _ #[.agg #[.int .u8 vkd, .bool vs, .slice a1 n1 c1, .slice a2 n2 c2, .int .i64 vk, .slice a3 ks.length c3]] _ _
  go_enter Tryd.func36, Tryd.ntmps36
  go_upto_region 1 with fail
  change Code.wp _ _ _ _ (w.alloc (.cells #[.int .u8 vkd, .bool vs, .slice a1 n1 c1, .slice a2 n2 c2, .int .i64 vk, .slice a3 ks.length c3] 28))
  generalize (w.alloc (.cells #[.int .u8 vkd, .bool vs, .slice a1 n1 c1, .slice a2 n2 c2, .int .i64 vk, .slice a3 ks.length c3] 28)) = x0 at *
  by_cases hq : vk = 0
  case neg =>
    have HF : Hid (R = false) := Lib.hid (by rw [HP.out]; simp [hq])
    go_step
    refine wpList_made 14 x0.heap.size x0 (Below.refl _ _) ?_
    simp only [List.take_succ_cons, List.take_zero, List.drop_succ_cons, List.drop_zero]
    refine wpQ_run rfl (.pointer (some ⟨w.heap.size, 4, none⟩)) (fun w' hw => by simp [go_sem]) ?_
    simp only [Act.put, List.setIfInBounds_toArray, List.set_cons_zero, List.set_cons_succ]
    refine wpQ_run rfl (.int .i64 vk) (fun w' hw => by have := (X.out.after hw).cell 4 rfl; simp [go_sem, this]) ?_
    simp only [Act.put, List.setIfInBounds_toArray, List.set_cons_zero, List.set_cons_succ]
    refine wpQ_run rfl (.bool false) (fun w' hw => by simp [go_sem, hq]) ?_
    simp only [Act.put, List.setIfInBounds_toArray, List.set_cons_zero, List.set_cons_succ]
    refine wpQ_run rfl (.bool false) (fun w' hw => by simp [go_sem]) ?_
    simp only [Act.put, List.setIfInBounds_toArray, List.set_cons_zero, List.set_cons_succ]
    refine wpQ_skip rfl ?_
    simp only [Act.put, List.setIfInBounds_toArray, List.set_cons_zero, List.set_cons_succ]
    refine wpQ_skip rfl ?_
    simp only [Act.put, List.setIfInBounds_toArray, List.set_cons_zero, List.set_cons_succ]
    refine wpQ_skip rfl ?_
    simp only [Act.put, List.setIfInBounds_toArray, List.set_cons_zero, List.set_cons_succ]
    refine wpQ_skip rfl ?_
    simp only [Act.put, List.setIfInBounds_toArray, List.set_cons_zero, List.set_cons_succ]
    refine wpQ_run rfl (.bool false) (fun w' hw => by simp [go_sem]) ?_
    simp only [Act.put, List.setIfInBounds_toArray, List.set_cons_zero, List.set_cons_succ]
    refine wpQ_run rfl (.bool false) (fun w' hw => by simp [go_sem]) ?_
    simp only [Act.put, List.setIfInBounds_toArray, List.set_cons_zero, List.set_cons_succ]
    refine wpQ_skip rfl ?_
    simp only [Act.put, List.setIfInBounds_toArray, List.set_cons_zero, List.set_cons_succ]
    refine wpQ_skip rfl ?_
    simp only [Act.put, List.setIfInBounds_toArray, List.set_cons_zero, List.set_cons_succ]
    refine wpQ_skip rfl ?_
    simp only [Act.put, List.setIfInBounds_toArray, List.set_cons_zero, List.set_cons_succ]
    refine wpQ_run rfl (.bool false) (fun w' hw => by simp [go_sem]) ?_
    simp only [Act.put, List.setIfInBounds_toArray, List.set_cons_zero, List.set_cons_succ]
    intro y1 hb1
    replace B := B.trans (hb1.mono B.size)
    clear hb1
    go_wp2_with fail
    go_ret
    exact ⟨by rw [HF.out]; rfl, B⟩
  by_cases hq3 : ks.length = 0
  case neg =>
    have HF : Hid (R = false) := Lib.hid (by rw [HP.out, show (ks.length == 0) = false from beq_eq_false_iff_ne.2 hq3]; simp)
    go_step
    refine wpList_made 14 x0.heap.size x0 (Below.refl _ _) ?_
    simp only [List.take_succ_cons, List.take_zero, List.drop_succ_cons, List.drop_zero]
    refine wpQ_run rfl (.pointer (some ⟨w.heap.size, 4, none⟩)) (fun w' hw => by simp [go_sem]) ?_
    simp only [Act.put, List.setIfInBounds_toArray, List.set_cons_zero, List.set_cons_succ]
    refine wpQ_run rfl (.int .i64 vk) (fun w' hw => by have := (X.out.after hw).cell 4 rfl; simp [go_sem, this]) ?_
    simp only [Act.put, List.setIfInBounds_toArray, List.set_cons_zero, List.set_cons_succ]
    refine wpQ_run rfl (.bool true) (fun w' hw => by simp [go_sem, hq]) ?_
    simp only [Act.put, List.setIfInBounds_toArray, List.set_cons_zero, List.set_cons_succ]
    refine wpQ_run rfl (.bool true) (fun w' hw => by simp [go_sem]) ?_
    simp only [Act.put, List.setIfInBounds_toArray, List.set_cons_zero, List.set_cons_succ]
    refine wpQ_run rfl (.pointer (some ⟨w.heap.size, 5, none⟩)) (fun w' hw => by simp [go_sem]) ?_
    simp only [Act.put, List.setIfInBounds_toArray, List.set_cons_zero, List.set_cons_succ]
    refine wpQ_run rfl (.slice a3 ks.length c3) (fun w' hw => by have := (X.out.after hw).cell 5 rfl; simp [go_sem, this]) ?_
    simp only [Act.put, List.setIfInBounds_toArray, List.set_cons_zero, List.set_cons_succ]
    refine wpQ_run rfl (.int .i64 ks.length) (fun w' hw => by simp [go_sem]) ?_
    simp only [Act.put, List.setIfInBounds_toArray, List.set_cons_zero, List.set_cons_succ]
    refine wpQ_run rfl (.bool false) (fun w' hw => by simp [go_sem, -List.length_eq_zero_iff]; omega) ?_
    simp only [Act.put, List.setIfInBounds_toArray, List.set_cons_zero, List.set_cons_succ]
    refine wpQ_run rfl (.bool false) (fun w' hw => by simp [go_sem]) ?_
    simp only [Act.put, List.setIfInBounds_toArray, List.set_cons_zero, List.set_cons_succ]
    refine wpQ_run rfl (.bool false) (fun w' hw => by simp [go_sem]) ?_
    simp only [Act.put, List.setIfInBounds_toArray, List.set_cons_zero, List.set_cons_succ]
    refine wpQ_skip rfl ?_
    simp only [Act.put, List.setIfInBounds_toArray, List.set_cons_zero, List.set_cons_succ]
    refine wpQ_skip rfl ?_
    simp only [Act.put, List.setIfInBounds_toArray, List.set_cons_zero, List.set_cons_succ]
    refine wpQ_skip rfl ?_
    simp only [Act.put, List.setIfInBounds_toArray, List.set_cons_zero, List.set_cons_succ]
    refine wpQ_run rfl (.bool false) (fun w' hw => by simp [go_sem]) ?_
    simp only [Act.put, List.setIfInBounds_toArray, List.set_cons_zero, List.set_cons_succ]
    intro y1 hb1
    replace B := B.trans (hb1.mono B.size)
    clear hb1
    go_wp2_with fail
    go_ret
    exact ⟨by rw [HF.out]; rfl, B⟩
  have HF : Hid (R = r) := Lib.hid (by rw [HP.out, hq3, hq]; simp)
  go_step
  refine wpList_made 14 x0.heap.size x0 (Below.refl _ _) ?_
  simp only [List.take_succ_cons, List.take_zero, List.drop_succ_cons, List.drop_zero]
  refine wpQ_run rfl (.pointer (some ⟨w.heap.size, 4, none⟩)) (fun w' hw => by simp [go_sem]) ?_
  simp only [Act.put, List.setIfInBounds_toArray, List.set_cons_zero, List.set_cons_succ]
  refine wpQ_run rfl (.int .i64 vk) (fun w' hw => by have := (X.out.after hw).cell 4 rfl; simp [go_sem, this]) ?_
  simp only [Act.put, List.setIfInBounds_toArray, List.set_cons_zero, List.set_cons_succ]
  refine wpQ_run rfl (.bool true) (fun w' hw => by simp [go_sem, hq]) ?_
  simp only [Act.put, List.setIfInBounds_toArray, List.set_cons_zero, List.set_cons_succ]
  refine wpQ_run rfl (.bool true) (fun w' hw => by simp [go_sem]) ?_
  simp only [Act.put, List.setIfInBounds_toArray, List.set_cons_zero, List.set_cons_succ]
  refine wpQ_run rfl (.pointer (some ⟨w.heap.size, 5, none⟩)) (fun w' hw => by simp [go_sem]) ?_
  simp only [Act.put, List.setIfInBounds_toArray, List.set_cons_zero, List.set_cons_succ]
  refine wpQ_run rfl (.slice a3 ks.length c3) (fun w' hw => by have := (X.out.after hw).cell 5 rfl; simp [go_sem, this]) ?_
  simp only [Act.put, List.setIfInBounds_toArray, List.set_cons_zero, List.set_cons_succ]
  refine wpQ_run rfl (.int .i64 ks.length) (fun w' hw => by simp [go_sem]) ?_
  simp only [Act.put, List.setIfInBounds_toArray, List.set_cons_zero, List.set_cons_succ]
  refine wpQ_run rfl (.bool true) (fun w' hw => by simp [go_sem, -List.length_eq_zero_iff]; omega) ?_
  simp only [Act.put, List.setIfInBounds_toArray, List.set_cons_zero, List.set_cons_succ]
  refine wpQ_run rfl (.bool true) (fun w' hw => by simp [go_sem]) ?_
  simp only [Act.put, List.setIfInBounds_toArray, List.set_cons_zero, List.set_cons_succ]
  refine wpQ_run rfl (.bool true) (fun w' hw => by simp [go_sem]) ?_
  simp only [Act.put, List.setIfInBounds_toArray, List.set_cons_zero, List.set_cons_succ]
  refine wpQ_run rfl (.pointer (some ⟨w.heap.size, 1, none⟩)) (fun w' hw => by simp [go_sem]) ?_
  simp only [Act.put, List.setIfInBounds_toArray, List.set_cons_zero, List.set_cons_succ]
  refine wpQ_load_mid rfl 24 _ rfl _ 1 rfl [.bool vs, .slice a1 n1 c1] _ (Box.mid X.out 1 _ (mid2 rfl rfl)) X.out.lt Tryd.underlying24 rfl (by kernel_rfl) ?_
  simp only [Act.put, List.setIfInBounds_toArray, List.set_cons_zero, List.set_cons_succ]
  refine wpQ_callS rfl 43 #[.agg #[.bool vs, .slice a1 n1 c1]] (fun w' => by simp [go_sem]) (.bool r) (Nat.le_refl _) (fun w' hw => C.out w') ?_
  simp only [Act.put, List.setIfInBounds_toArray, List.set_cons_zero, List.set_cons_succ]
  refine wpQ_run rfl (.bool r) (fun w' hw => by simp [go_sem]) ?_
  simp only [Act.put, List.setIfInBounds_toArray, List.set_cons_zero, List.set_cons_succ]
  intro y1 hb1
  replace B := B.trans (hb1.mono B.size)
  clear hb1
  go_wp2_with fail
  go_ret
  exact ⟨by rw [HF.out]; rfl, B⟩

end Go.Proofs.YthmigigclmogiaaDoor

/- The law NotationBlanks: the walk. -/
import Derived.Test.YtkbblhioncecmaaDoorNw2
namespace Go.Proofs.YtkbblhioncecmaaDoor
open Go.RowKit
set_option linter.unusedSimpArgs false
set_option linter.unusedVariables false

def blk6 : List UInt8 := [32, 9, 10, 11, 12, 13]
def blkOf (x : UInt8) : UInt8 := blk6.getD (x.toNat % 6) 0
theorem blk_cell (j : Nat) (h : j < 6) : (#[.int .u8 32, .int .u8 9, .int .u8 10, .int .u8 11, .int .u8 12, .int .u8 13] : Array Value)[j]? = some (.int .u8 ((blk6.getD j 0).toNat : Int)) := by
  match j, h with
  | 0, _ => rfl
  | 1, _ => rfl
  | 2, _ => rfl
  | 3, _ => rfl
  | 4, _ => rfl
  | 5, _ => rfl
theorem blk_blank : ∀ j : Fin 6, blankB (blk6.getD j.val 0) = true := by decide
theorem blkOf_blank (x : UInt8) : blankB (blkOf x) = true := blk_blank ⟨x.toNat % 6, by omega⟩
theorem map_blank (l : List UInt8) : ∀ c ∈ l.map blkOf, blankB c = true := fun c h => by
  obtain ⟨x, _, rfl⟩ := List.mem_map.1 h
  exact blkOf_blank x
theorem take_blk (l : List UInt8) (k : Nat) (h : k < l.length) : (l.take (k + 1)).map blkOf = (l.take k).map blkOf ++ [blkOf (l.getD k 0)] := by
  rw [List.take_succ_eq_append_getElem h, List.map_append, List.getD_eq_getElem?_getD, List.getElem?_eq_getElem h]
  rfl
theorem sl_byte {w : World} {a : Option Addr} {n c : Nat} {l : List UInt8} (h : Sl w a n c l) {k : Nat} (hk : k < n) : ∃ b o, a = some ⟨b, o, none⟩ ∧ w.cell? ⟨b, o + k, none⟩ = some (.int .u8 ((l.getD k 0).toNat : Int)) := by
  rcases h.2.2.2.2 with h0 | ⟨b, o, e, hc⟩
  · omega
  · exact ⟨b, o, e, hc k hk⟩
theorem adv_pos (s : Sx) : 0 < s.adv.length := by
  obtain ⟨c, u, e, _⟩ := adv_head s
  rw [e]; simp

set_option maxHeartbeats 32000000 in
set_option maxRecDepth 100000 in
theorem NotationBlanks_walk (v : SV) (s : Sx) (a : Option Addr) (n c : Nat) (la : List UInt8) (a2 : Option Addr) (n2 c2 : Nat) (lb : List UInt8) (w : World) (ht : Tab w) (hr : Rd w v s) (hs : Sl w a n c la) (hs2 : Sl w a2 n2 c2 lb) :
    Calls Tryd.prog 7 #[v.val, .slice a n c, .slice a2 n2 c2] w fun e w' => e = .returned (.bool true) ∧ Below w.heap.size w w' := by
  obtain ⟨vl, vh, va1, vn1, vc1, va2, vn2, vc2, va3, vn3, vc3⟩ := v
  have HT := Lib.hid ht
  have HS := Lib.hid hs
  have HS2 := Lib.hid hs2
  have HR := Lib.hid hr
  show Calls _ _ #[.agg #[.bool vl, .bool vh, .slice va1 vn1 vc1, .slice va2 vn2 vc2, .slice va3 vn3 vc3], .slice a n c, .slice a2 n2 c2] _ _
  have B : Below w.heap.size w (w.alloc (.cells #[.bool vl, .bool vh, .slice va1 vn1 vc1, .slice va2 vn2 vc2, .slice va3 vn3 vc3] 26)) := (Below.refl _ _).alloc (Nat.le_refl _) _
  have V := Lib.hid (Box.new w 26 #[.bool vl, .bool vh, .slice va1 vn1 vc1, .slice va2 vn2 vc2, .slice va3 vn3 vc3])
  have HRV := Lib.hid (hr.after B)
  have HTV := Lib.hid (ht.after B)
  have HNL := Lib.hid hs.1
  have HNL2 := Lib.hid hs2.1
  clear ht hs hs2 hr
  go_enter Tryd.func7, Tryd.ntmps7
  go_upto_region 1 with fail
  change Code.wp _ _ _ _ (w.alloc (.cells #[.bool vl, .bool vh, .slice va1 vn1 vc1, .slice va2 vn2 vc2, .slice va3 vn3 vc3] 26))
  generalize (w.alloc (.cells #[.bool vl, .bool vh, .slice va1 vn1 vc1, .slice va2 vn2 vc2, .slice va3 vn3 vc3] 26)) = x0 at *
  by_cases hgr : s.great 0 = true
  case pos =>
    have HGR := hgr
    go_step
    refine wpList_made 12 x0.heap.size x0 (Below.refl _ _) ?_
    simp only [List.take_succ_cons, List.take_zero, List.drop_succ_cons, List.drop_zero]
    refine wpQ_load_box rfl 26 _ rfl V.out (by rfl) V.out.lt Tryd.underlying26 rfl (by kernel_rfl) ?_
    simp only [Act.put, List.setIfInBounds_toArray, List.set_cons_zero, List.set_cons_succ]
    refine wpQ_callS rfl 16 #[.agg #[.bool vl, .bool vh, .slice va1 vn1 vc1, .slice va2 vn2 vc2, .slice va3 vn3 vc3], .int .i64 0] (fun w' => by simp [go_sem]) (.bool true) (Nat.le_refl _) (fun w' hw => by have := great_any s ⟨vl, vh, va1, vn1, vc1, va2, vn2, vc2, va3, vn3, vc3⟩ 0 w' (HRV.out.after hw) (by omega); rw [HGR] at this; exact this) ?_
    simp only [Act.put, List.setIfInBounds_toArray, List.set_cons_zero, List.set_cons_succ]
    refine wpQ_run rfl (.bool true) (fun w' hw => by simp [go_sem]) ?_
    simp only [Act.put, List.setIfInBounds_toArray, List.set_cons_zero, List.set_cons_succ]
    refine wpQ_skip rfl ?_
    simp only [Act.put, List.setIfInBounds_toArray, List.set_cons_zero, List.set_cons_succ]
    refine wpQ_skip rfl ?_
    simp only [Act.put, List.setIfInBounds_toArray, List.set_cons_zero, List.set_cons_succ]
    refine wpQ_skip rfl ?_
    simp only [Act.put, List.setIfInBounds_toArray, List.set_cons_zero, List.set_cons_succ]
    refine wpQ_run rfl (.bool true) (fun w' hw => by simp [go_sem]) ?_
    simp only [Act.put, List.setIfInBounds_toArray, List.set_cons_zero, List.set_cons_succ]
    refine wpQ_run rfl (.bool true) (fun w' hw => by simp [go_sem]) ?_
    simp only [Act.put, List.setIfInBounds_toArray, List.set_cons_zero, List.set_cons_succ]
    refine wpQ_skip rfl ?_
    simp only [Act.put, List.setIfInBounds_toArray, List.set_cons_zero, List.set_cons_succ]
    refine wpQ_skip rfl ?_
    simp only [Act.put, List.setIfInBounds_toArray, List.set_cons_zero, List.set_cons_succ]
    refine wpQ_skip rfl ?_
    simp only [Act.put, List.setIfInBounds_toArray, List.set_cons_zero, List.set_cons_succ]
    refine wpQ_run rfl (.bool true) (fun w' hw => by simp [go_sem]) ?_
    simp only [Act.put, List.setIfInBounds_toArray, List.set_cons_zero, List.set_cons_succ]
    intro y90 hb90
    replace V := Lib.hid (V.out.after hb90)
    replace HRV := Lib.hid (HRV.out.after hb90)
    replace HTV := Lib.hid (HTV.out.after hb90)
    replace B := B.trans (hb90.mono B.size)
    clear hb90
    go_wp2_with fail
    refine (awake_any _ HTV.out).mono ?_
    rintro e x99 ⟨rfl, bx99⟩
    replace B := B.trans (bx99.mono B.size)
    go_wp2_with fail
    go_ret
    exact ⟨rfl, B⟩
  have HGR : s.great 0 = false := by simpa using hgr
  have HW : Hid (s.wide 0 = false) := Lib.hid (by unfold Sx.great at HGR; simp at HGR; exact HGR.1)
  clear hgr
  by_cases hfa : 100 < n
  case pos =>
    have hfa' : (100 : Int) < (n : Int) := by omega
    go_step
    refine wpList_made 12 x0.heap.size x0 (Below.refl _ _) ?_
    simp only [List.take_succ_cons, List.take_zero, List.drop_succ_cons, List.drop_zero]
    refine wpQ_load_box rfl 26 _ rfl V.out (by rfl) V.out.lt Tryd.underlying26 rfl (by kernel_rfl) ?_
    simp only [Act.put, List.setIfInBounds_toArray, List.set_cons_zero, List.set_cons_succ]
    refine wpQ_callS rfl 16 #[.agg #[.bool vl, .bool vh, .slice va1 vn1 vc1, .slice va2 vn2 vc2, .slice va3 vn3 vc3], .int .i64 0] (fun w' => by simp [go_sem]) (.bool false) (Nat.le_refl _) (fun w' hw => by have := great_any s ⟨vl, vh, va1, vn1, vc1, va2, vn2, vc2, va3, vn3, vc3⟩ 0 w' (HRV.out.after hw) (by omega); rw [HGR] at this; exact this) ?_
    simp only [Act.put, List.setIfInBounds_toArray, List.set_cons_zero, List.set_cons_succ]
    refine wpQ_run rfl (.bool false) (fun w' hw => by simp [go_sem]) ?_
    simp only [Act.put, List.setIfInBounds_toArray, List.set_cons_zero, List.set_cons_succ]
    refine wpQ_run rfl (.slice a n c) (fun w' hw => by simp [go_sem]) ?_
    simp only [Act.put, List.setIfInBounds_toArray, List.set_cons_zero, List.set_cons_succ]
    refine wpQ_run rfl (.int .i64 n) (fun w' hw => by simp [go_sem]) ?_
    simp only [Act.put, List.setIfInBounds_toArray, List.set_cons_zero, List.set_cons_succ]
    refine wpQ_run rfl (.bool true) (fun w' hw => by simp [go_sem, hfa']) ?_
    simp only [Act.put, List.setIfInBounds_toArray, List.set_cons_zero, List.set_cons_succ]
    refine wpQ_run rfl (.bool true) (fun w' hw => by simp [go_sem]) ?_
    simp only [Act.put, List.setIfInBounds_toArray, List.set_cons_zero, List.set_cons_succ]
    refine wpQ_run rfl (.bool true) (fun w' hw => by simp [go_sem]) ?_
    simp only [Act.put, List.setIfInBounds_toArray, List.set_cons_zero, List.set_cons_succ]
    refine wpQ_skip rfl ?_
    simp only [Act.put, List.setIfInBounds_toArray, List.set_cons_zero, List.set_cons_succ]
    refine wpQ_skip rfl ?_
    simp only [Act.put, List.setIfInBounds_toArray, List.set_cons_zero, List.set_cons_succ]
    refine wpQ_skip rfl ?_
    simp only [Act.put, List.setIfInBounds_toArray, List.set_cons_zero, List.set_cons_succ]
    refine wpQ_run rfl (.bool true) (fun w' hw => by simp [go_sem]) ?_
    simp only [Act.put, List.setIfInBounds_toArray, List.set_cons_zero, List.set_cons_succ]
    intro y90 hb90
    replace V := Lib.hid (V.out.after hb90)
    replace HRV := Lib.hid (HRV.out.after hb90)
    replace HTV := Lib.hid (HTV.out.after hb90)
    replace B := B.trans (hb90.mono B.size)
    clear hb90
    go_wp2_with fail
    refine (awake_any _ HTV.out).mono ?_
    rintro e x99 ⟨rfl, bx99⟩
    replace B := B.trans (bx99.mono B.size)
    go_wp2_with fail
    go_ret
    exact ⟨rfl, B⟩
  have hfa' : ¬ (100 : Int) < (n : Int) := by omega
  by_cases hfb : 100 < n2
  case pos =>
    have hfb' : (100 : Int) < (n2 : Int) := by omega
    go_step
    refine wpList_made 12 x0.heap.size x0 (Below.refl _ _) ?_
    simp only [List.take_succ_cons, List.take_zero, List.drop_succ_cons, List.drop_zero]
    refine wpQ_load_box rfl 26 _ rfl V.out (by rfl) V.out.lt Tryd.underlying26 rfl (by kernel_rfl) ?_
    simp only [Act.put, List.setIfInBounds_toArray, List.set_cons_zero, List.set_cons_succ]
    refine wpQ_callS rfl 16 #[.agg #[.bool vl, .bool vh, .slice va1 vn1 vc1, .slice va2 vn2 vc2, .slice va3 vn3 vc3], .int .i64 0] (fun w' => by simp [go_sem]) (.bool false) (Nat.le_refl _) (fun w' hw => by have := great_any s ⟨vl, vh, va1, vn1, vc1, va2, vn2, vc2, va3, vn3, vc3⟩ 0 w' (HRV.out.after hw) (by omega); rw [HGR] at this; exact this) ?_
    simp only [Act.put, List.setIfInBounds_toArray, List.set_cons_zero, List.set_cons_succ]
    refine wpQ_run rfl (.bool false) (fun w' hw => by simp [go_sem]) ?_
    simp only [Act.put, List.setIfInBounds_toArray, List.set_cons_zero, List.set_cons_succ]
    refine wpQ_run rfl (.slice a n c) (fun w' hw => by simp [go_sem]) ?_
    simp only [Act.put, List.setIfInBounds_toArray, List.set_cons_zero, List.set_cons_succ]
    refine wpQ_run rfl (.int .i64 n) (fun w' hw => by simp [go_sem]) ?_
    simp only [Act.put, List.setIfInBounds_toArray, List.set_cons_zero, List.set_cons_succ]
    refine wpQ_run rfl (.bool false) (fun w' hw => by simp [go_sem, hfa']) ?_
    simp only [Act.put, List.setIfInBounds_toArray, List.set_cons_zero, List.set_cons_succ]
    refine wpQ_run rfl (.bool false) (fun w' hw => by simp [go_sem]) ?_
    simp only [Act.put, List.setIfInBounds_toArray, List.set_cons_zero, List.set_cons_succ]
    refine wpQ_run rfl (.bool false) (fun w' hw => by simp [go_sem]) ?_
    simp only [Act.put, List.setIfInBounds_toArray, List.set_cons_zero, List.set_cons_succ]
    refine wpQ_run rfl (.slice a2 n2 c2) (fun w' hw => by simp [go_sem]) ?_
    simp only [Act.put, List.setIfInBounds_toArray, List.set_cons_zero, List.set_cons_succ]
    refine wpQ_run rfl (.int .i64 n2) (fun w' hw => by simp [go_sem]) ?_
    simp only [Act.put, List.setIfInBounds_toArray, List.set_cons_zero, List.set_cons_succ]
    refine wpQ_run rfl (.bool true) (fun w' hw => by simp [go_sem, hfb']) ?_
    simp only [Act.put, List.setIfInBounds_toArray, List.set_cons_zero, List.set_cons_succ]
    refine wpQ_run rfl (.bool true) (fun w' hw => by simp [go_sem]) ?_
    simp only [Act.put, List.setIfInBounds_toArray, List.set_cons_zero, List.set_cons_succ]
    intro y90 hb90
    replace V := Lib.hid (V.out.after hb90)
    replace HRV := Lib.hid (HRV.out.after hb90)
    replace HTV := Lib.hid (HTV.out.after hb90)
    replace B := B.trans (hb90.mono B.size)
    clear hb90
    go_wp2_with fail
    refine (awake_any _ HTV.out).mono ?_
    rintro e x99 ⟨rfl, bx99⟩
    replace B := B.trans (bx99.mono B.size)
    go_wp2_with fail
    go_ret
    exact ⟨rfl, B⟩
  have hfb' : ¬ (100 : Int) < (n2 : Int) := by omega
  go_step
  refine wpList_made 12 x0.heap.size x0 (Below.refl _ _) ?_
  simp only [List.take_succ_cons, List.take_zero, List.drop_succ_cons, List.drop_zero]
  refine wpQ_load_box rfl 26 _ rfl V.out (by rfl) V.out.lt Tryd.underlying26 rfl (by kernel_rfl) ?_
  simp only [Act.put, List.setIfInBounds_toArray, List.set_cons_zero, List.set_cons_succ]
  refine wpQ_callS rfl 16 #[.agg #[.bool vl, .bool vh, .slice va1 vn1 vc1, .slice va2 vn2 vc2, .slice va3 vn3 vc3], .int .i64 0] (fun w' => by simp [go_sem]) (.bool false) (Nat.le_refl _) (fun w' hw => by have := great_any s ⟨vl, vh, va1, vn1, vc1, va2, vn2, vc2, va3, vn3, vc3⟩ 0 w' (HRV.out.after hw) (by omega); rw [HGR] at this; exact this) ?_
  simp only [Act.put, List.setIfInBounds_toArray, List.set_cons_zero, List.set_cons_succ]
  refine wpQ_run rfl (.bool false) (fun w' hw => by simp [go_sem]) ?_
  simp only [Act.put, List.setIfInBounds_toArray, List.set_cons_zero, List.set_cons_succ]
  refine wpQ_run rfl (.slice a n c) (fun w' hw => by simp [go_sem]) ?_
  simp only [Act.put, List.setIfInBounds_toArray, List.set_cons_zero, List.set_cons_succ]
  refine wpQ_run rfl (.int .i64 n) (fun w' hw => by simp [go_sem]) ?_
  simp only [Act.put, List.setIfInBounds_toArray, List.set_cons_zero, List.set_cons_succ]
  refine wpQ_run rfl (.bool false) (fun w' hw => by simp [go_sem, hfa']) ?_
  simp only [Act.put, List.setIfInBounds_toArray, List.set_cons_zero, List.set_cons_succ]
  refine wpQ_run rfl (.bool false) (fun w' hw => by simp [go_sem]) ?_
  simp only [Act.put, List.setIfInBounds_toArray, List.set_cons_zero, List.set_cons_succ]
  refine wpQ_run rfl (.bool false) (fun w' hw => by simp [go_sem]) ?_
  simp only [Act.put, List.setIfInBounds_toArray, List.set_cons_zero, List.set_cons_succ]
  refine wpQ_run rfl (.slice a2 n2 c2) (fun w' hw => by simp [go_sem]) ?_
  simp only [Act.put, List.setIfInBounds_toArray, List.set_cons_zero, List.set_cons_succ]
  refine wpQ_run rfl (.int .i64 n2) (fun w' hw => by simp [go_sem]) ?_
  simp only [Act.put, List.setIfInBounds_toArray, List.set_cons_zero, List.set_cons_succ]
  refine wpQ_run rfl (.bool false) (fun w' hw => by simp [go_sem, hfb']) ?_
  simp only [Act.put, List.setIfInBounds_toArray, List.set_cons_zero, List.set_cons_succ]
  refine wpQ_run rfl (.bool false) (fun w' hw => by simp [go_sem]) ?_
  simp only [Act.put, List.setIfInBounds_toArray, List.set_cons_zero, List.set_cons_succ]
  intro y1 hb1
  replace V := Lib.hid (V.out.after hb1)
  replace HRV := Lib.hid (HRV.out.after hb1)
  replace HTV := Lib.hid (HTV.out.after hb1)
  replace B := B.trans (hb1.mono B.size)
  clear hb1
  clear HGR
  go_upto_region 3 with fail
  go_wp2_with (refine wpList_load_box rfl 26 _ rfl V.out (by rfl) Tryd.underlying26 rfl (by kernel_rfl) ?_)
  refine (print_any s ⟨vl, vh, va1, vn1, vc1, va2, vn2, vc2, va3, vn3, vc3⟩ y1 HRV.out 0 (wide_broad _ _ HW.out) HTV.out).mono ?_
  rintro e x2 ⟨t, x, rfl, ht, hx, bx2⟩
  have HTT := Lib.hid ht
  have HX := Lib.hid hx
  clear ht hx
  replace V := Lib.hid (V.out.after bx2)
  replace HRV := Lib.hid (HRV.out.after bx2)
  replace HTV := Lib.hid (HTV.out.after bx2)
  replace B := B.trans (bx2.mono B.size)
  clear bx2
  go_wp2_with (refine wpList_load_box rfl 26 _ rfl V.out (by rfl) Tryd.underlying26 rfl (by kernel_rfl) ?_)
  refine (pack_any s ⟨vl, vh, va1, vn1, vc1, va2, vn2, vc2, va3, vn3, vc3⟩ x2 HRV.out 0 HW.out HTV.out).mono ?_
  rintro e x3 ⟨t2, x2_, rfl, ht, hx, bx3⟩
  have HTT2 := Lib.hid ht
  have HX2 := Lib.hid hx
  clear ht hx
  replace V := Lib.hid (V.out.after bx3)
  replace HRV := Lib.hid (HRV.out.after bx3)
  replace HTV := Lib.hid (HTV.out.after bx3)
  replace B := B.trans (bx3.mono B.size)
  clear bx3
  cases hmay : s.may with
  | false =>
    rw [hmay] at HX HX2
    obtain rfl : x = 4 := HX.out
    obtain rfl : x2_ = 4 := HX2.out
    clear HX HX2 HTT HTT2 hmay
    go_wp2_with fail
    refine (awake_any _ HTV.out).mono ?_
    rintro e x99 ⟨rfl, bx99⟩
    replace B := B.trans (bx99.mono B.size)
    go_wp2_with fail
    go_ret
    exact ⟨rfl, B⟩
  | true =>
    rw [hmay] at HX HX2 HTT HTT2
    rw [if_pos rfl] at HX HX2 HTT HTT2
    obtain rfl : x = 0 := HX.out
    obtain rfl : x2_ = 0 := HX2.out
    have HMAY := Lib.hid hmay
    have HFL := Lib.hid (may_parts hmay).2.2.2
    have HTL : Hid (t.size = s.adv.length) := Lib.hid (by rw [← HTT.out]; simp)
    have HTL2 : Hid (t2.size = s.pack.length) := Lib.hid (by rw [← HTT2.out]; simp)
    clear HX HX2 hmay
    by_cases hlen : 16000 < t.size
    case pos =>
      have hlen' : (16000 : Int) < (t.size : Int) := by omega
      go_wp2_with fail
      refine (awake_any _ HTV.out).mono ?_
      rintro e x99 ⟨rfl, bx99⟩
      replace B := B.trans (bx99.mono B.size)
      go_wp2_with fail
      go_ret
      exact ⟨rfl, B⟩
    have hlen' : ¬ (16000 : Int) < (t.size : Int) := by omega
    go_upto_region 7 with fail
    have OA : Hid (OwnB (((x3.alloc (.cells #[] 5)).alloc (.cells #[] 5)).alloc (.cells #[.int .u8 32, .int .u8 9, .int .u8 10, .int .u8 11, .int .u8 12, .int .u8 13] 5)) x3.heap.size (.slice (some ⟨x3.heap.size, 0, none⟩) 0 0) []) := Lib.hid (((OwnB.empty x3 x3.heap.size (Nat.le_refl _)).alloc _).alloc _)
    have OB : Hid (OwnB (((x3.alloc (.cells #[] 5)).alloc (.cells #[] 5)).alloc (.cells #[.int .u8 32, .int .u8 9, .int .u8 10, .int .u8 11, .int .u8 12, .int .u8 13] 5)) x3.heap.size (.slice (some ⟨x3.heap.size + 1, 0, none⟩) 0 0) []) := Lib.hid (by have := (OwnB.empty (x3.alloc (.cells #[] 5)) x3.heap.size (by simp)).alloc (.cells #[.int .u8 32, .int .u8 9, .int .u8 10, .int .u8 11, .int .u8 12, .int .u8 13] 5); simpa using this)
    have L : Hid (Box (((x3.alloc (.cells #[] 5)).alloc (.cells #[] 5)).alloc (.cells #[.int .u8 32, .int .u8 9, .int .u8 10, .int .u8 11, .int .u8 12, .int .u8 13] 5)) (x3.heap.size + 1 + 1) 5 #[.int .u8 32, .int .u8 9, .int .u8 10, .int .u8 11, .int .u8 12, .int .u8 13]) := Lib.hid (by have := Box.new ((x3.alloc (.cells #[] 5)).alloc (.cells #[] 5)) 5 #[.int .u8 32, .int .u8 9, .int .u8 10, .int .u8 11, .int .u8 12, .int .u8 13]; simpa using this)
    have b3 : Below x3.heap.size x3 (((x3.alloc (.cells #[] 5)).alloc (.cells #[] 5)).alloc (.cells #[.int .u8 32, .int .u8 9, .int .u8 10, .int .u8 11, .int .u8 12, .int .u8 13] 5)) := (((Below.refl _ _).alloc (Nat.le_refl _) _).alloc (by simp) _).alloc (by simp; omega) _
    have VL : Hid (w.heap.size < x3.heap.size) := Lib.hid V.out.lt
    replace V := Lib.hid (V.out.after b3)
    replace HRV := Lib.hid (HRV.out.after b3)
    replace HTV := Lib.hid (HTV.out.after b3)
    replace B := B.trans (b3.mono B.size)
    clear b3
    go_upto_region 9 with fail
    change Code.wp _ _ _ _ (((x3.alloc (.cells #[] 5)).alloc (.cells #[] 5)).alloc (.cells #[.int .u8 32, .int .u8 9, .int .u8 10, .int .u8 11, .int .u8 12, .int .u8 13] 5))
    generalize (((x3.alloc (.cells #[] 5)).alloc (.cells #[] 5)).alloc (.cells #[.int .u8 32, .int .u8 9, .int .u8 10, .int .u8 11, .int .u8 12, .int .u8 13] 5)) = x4 at *
    generalize x3.heap.size = ga at *
    go_wp2_with fail
    go_loopw [11, 14] (fun va i wr => ∃ (k : Nat) (d : List UInt8), k ≤ n ∧ i = .int .i64 k ∧ d.length = k ∧ Hid (d = (la.take k).map blkOf) ∧ Hid (OwnB wr ga va d) ∧ Hid (∀ k, va.ownBlock = some k → k ≠ ga + 1 ∧ k ≠ ga + 1 + 1) ∧ Hid (OwnB wr ga (.slice (some ⟨ga + 1, 0, none⟩) 0 0) []) ∧ Hid (Box wr w.heap.size 26 #[.bool vl, .bool vh, .slice va1 vn1 vc1, .slice va2 vn2 vc2, .slice va3 vn3 vc3]) ∧ Hid (Box wr (ga + 1 + 1) 5 #[.int .u8 32, .int .u8 9, .int .u8 10, .int .u8 11, .int .u8 12, .int .u8 13]) ∧ Below w.heap.size w wr) (fun _ i _ => n - (intOf i).toNat)
    case atStart => exact ⟨0, [], Nat.zero_le _, rfl, rfl, Lib.hid rfl, OA, Lib.hid (fun k hk => by have e : ga = k := Option.some.inj hk; exact ⟨by omega, by omega⟩), OB, V, L, B⟩
    case round =>
      obtain ⟨wa, rfl⟩ : ∃ wa : World, wa = wr := ⟨_, rfl⟩
      obtain ⟨k, d, hk, rfl, hdk, HD, O, HOW, OB2, V2, L2, BB⟩ := hrel
      clear OA OB V L B HRV HTV
      have hB2 := Lib.hid BB
      clear BB
      by_cases hlt : k < n
      case pos =>
        obtain ⟨bq, oq, rfl, hcell⟩ := sl_byte (HS.out.after hB2.out) hlt
        have HTK := Lib.hid (take_blk la k (by have := HNL.out; omega))
        obtain ⟨xb, hxb⟩ : ∃ x, x = la.getD k 0 := ⟨_, rfl⟩
        rw [← hxb] at hcell HTK
        obtain ⟨j, hj⟩ : ∃ j, j = xb.toNat % 6 := ⟨_, rfl⟩
        have hj6 : j < 6 := by omega
        have qj : (xb.toNat : Int) % 6 = (j : Int) := by omega
        have hyc := L2.out.cell j (blk_cell j hj6)
        obtain ⟨yb, hyb⟩ : ∃ y, y = blkOf xb := ⟨_, rfl⟩
        have hyb2 : blk6.getD j 0 = yb := by rw [hyb, hj]; rfl
        rw [hyb2] at hyc
        rw [← hyb] at HTK
        have hxl := xb.toNat_lt
        have hk0 : (0 : Int) ≤ (k : Int) := by omega
        have hk1 : (k : Int) < (n : Int) := by omega
        have hj0 : (0 : Int) ≤ (j : Int) := by omega
        have hj1 : (j : Int) < 6 := by omega
        have hga := VL.out
        have hgz := V2.out.lt
        have hgl := L2.out.lt
        clear hxb hj hyb hyb2
        go_wp2_with (refine wpList_append_B3 rfl _ _ rfl (l := d) rfl (OwnG.alloc O.out _) (l2 := [yb]) rfl (sl_cell1 _ yb _ rfl) (by omega) (by simp; omega) ?_; intro v5 w5 ho5 hg5 hw5)
        have V5 := Lib.hid ((V2.out.alloc _).grown hg5 (fun j hj => by have := O.out.lt j hj; omega))
        have L5 := Lib.hid ((L2.out.alloc _).grown hg5 (fun j hj => Ne.symm (HOW.out j hj).2))
        have OB5 := Lib.hid ((OB2.out.alloc _).grown hg5 (.inr (fun e => (HOW.out _ e.symm).1 rfl)))
        have HOW5 : Hid (∀ k, v5.ownBlock = some k → k ≠ ga + 1 ∧ k ≠ ga + 1 + 1) := Lib.hid (fun k hk => by
          rcases hw5 k hk with h | h
          · exact HOW.out k h
          · have : wa.heap.size ≤ k := by simp at h; omega
            exact ⟨by omega, by omega⟩)
        have B5 := (hB2.out.alloc hB2.out.size _).grown hg5 (by have := hB2.out.size; simp; omega) (fun j hj => by have := O.out.lt j hj; omega)
        have O5 := Lib.hid ho5
        clear ho5 hg5 hw5 O V2 L2 OB2 HOW hcell hyc hB2
        go_wp2_with fail
        go_roundw
        case rel => exact ⟨k + 1, d ++ [yb], by omega, by go_num, by simp; omega, Lib.hid (by rw [HTK.out, HD.out]), O5, HOW5, OB5, V5, L5, B5⟩
        case measure => simp [intOf]; omega
      obtain rfl : k = n := by omega
      have hltn : ¬ (k : Int) < (k : Int) := by omega
      have HDA : Hid (d = la.map blkOf) := Lib.hid (by rw [HD.out, List.take_of_length_le (by have := HNL.out; omega)])
      clear HD
      go_wp2_with fail
      obtain ⟨aa, na, ca, e1, _, _⟩ := OwnB.parts O.out
      subst e1
      go_loopw [12, 15] (fun vb i wr => ∃ (k2 : Nat) (d2 : List UInt8), k2 ≤ n2 ∧ i = .int .i64 k2 ∧ d2.length = k2 ∧ Hid (d2 = (lb.take k2).map blkOf) ∧ Hid (OwnB wr ga vb d2) ∧ Hid (∀ k, vb.ownBlock = some k → k ≠ ga + 1 + 1 ∧ (Value.slice aa na ca).ownBlock ≠ some k) ∧ Hid (OwnB wr ga (.slice aa na ca) d) ∧ Hid (Box wr w.heap.size 26 #[.bool vl, .bool vh, .slice va1 vn1 vc1, .slice va2 vn2 vc2, .slice va3 vn3 vc3]) ∧ Hid (Box wr (ga + 1 + 1) 5 #[.int .u8 32, .int .u8 9, .int .u8 10, .int .u8 11, .int .u8 12, .int .u8 13]) ∧ Below w.heap.size w wr) (fun _ i _ => n2 - (intOf i).toNat)
      case atStart => exact ⟨0, [], Nat.zero_le _, rfl, rfl, Lib.hid rfl, OB2, Lib.hid (fun k hk => by have e : ga + 1 = k := Option.some.inj hk; exact ⟨by omega, fun e2 => (HOW.out _ e2).1 e.symm⟩), O, V2, L2, hB2.out⟩
      case round =>
        obtain ⟨wb, rfl⟩ : ∃ wa : World, wa = wr := ⟨_, rfl⟩
        obtain ⟨k2, d2, hk2, rfl, hdk2, HD2, O2, HOW2, OA2, V3, L3, BB⟩ := hrel
        clear O HOW OB2 V2 L2 hB2
        have hB2 := Lib.hid BB
        clear BB
        by_cases hlt : k2 < n2
        case pos =>
          obtain ⟨bq, oq, rfl, hcell⟩ := sl_byte (HS2.out.after hB2.out) hlt
          have HTK := Lib.hid (take_blk lb k2 (by have := HNL2.out; omega))
          obtain ⟨xb, hxb⟩ : ∃ x, x = lb.getD k2 0 := ⟨_, rfl⟩
          rw [← hxb] at hcell HTK
          obtain ⟨j, hj⟩ : ∃ j, j = xb.toNat % 6 := ⟨_, rfl⟩
          have hj6 : j < 6 := by omega
          have qj : (xb.toNat : Int) % 6 = (j : Int) := by omega
          have hyc := L3.out.cell j (blk_cell j hj6)
          obtain ⟨yb, hyb⟩ : ∃ y, y = blkOf xb := ⟨_, rfl⟩
          have hyb2 : blk6.getD j 0 = yb := by rw [hyb, hj]; rfl
          rw [hyb2] at hyc
          rw [← hyb] at HTK
          have hxl := xb.toNat_lt
          have hk0 : (0 : Int) ≤ (k2 : Int) := by omega
          have hk1 : (k2 : Int) < (n2 : Int) := by omega
          have hj0 : (0 : Int) ≤ (j : Int) := by omega
          have hj1 : (j : Int) < 6 := by omega
          have hga := VL.out
          have hgz := V3.out.lt
          have hgl := L3.out.lt
          clear hxb hj hyb hyb2
          go_wp2_with (refine wpList_append_B3 rfl _ _ rfl (l := d2) rfl (OwnG.alloc O2.out _) (l2 := [yb]) rfl (sl_cell1 _ yb _ rfl) (by omega) (by simp; omega) ?_; intro v5 w5 ho5 hg5 hw5)
          have V5 := Lib.hid ((V3.out.alloc _).grown hg5 (fun j hj => by have := O2.out.lt j hj; omega))
          have L5 := Lib.hid ((L3.out.alloc _).grown hg5 (fun j hj => Ne.symm (HOW2.out j hj).1))
          have OA5 := Lib.hid ((OA2.out.alloc _).grown hg5 (by
            cases h : (Value.slice aa na ca).ownBlock with
            | none => exact .inl rfl
            | some y => exact .inr (fun e => (HOW2.out y e.symm).2 h)))
          have HOW5 : Hid (∀ k, v5.ownBlock = some k → k ≠ ga + 1 + 1 ∧ (Value.slice aa na ca).ownBlock ≠ some k) := Lib.hid (fun k hk => by
            rcases hw5 k hk with h | h
            · exact HOW2.out k h
            · have : wb.heap.size ≤ k := by simp at h; omega
              exact ⟨by omega, fun e => by have := (OA2.out.lt k e).2; omega⟩)
          have B5 := (hB2.out.alloc hB2.out.size _).grown hg5 (by have := hB2.out.size; simp; omega) (fun j hj => by have := O2.out.lt j hj; omega)
          have O5 := Lib.hid ho5
          clear ho5 hg5 hw5 O2 V3 L3 OA2 HOW2 hcell hyc hB2
          go_wp2_with fail
          go_roundw
          case rel => exact ⟨k2 + 1, d2 ++ [yb], by omega, by go_num, by simp; omega, Lib.hid (by rw [HTK.out, HD2.out]), O5, HOW5, OA5, V5, L5, B5⟩
          case measure => simp [intOf]; omega
        obtain rfl : k2 = n2 := by omega
        have HDB : Hid (d2 = lb.map blkOf) := Lib.hid (by rw [HD2.out, List.take_of_length_le (by have := HNL2.out; omega)])
        clear HD2
        obtain ⟨ab, nb, cb, e1, slb, _⟩ := OwnB.parts O2.out
        subst e1
        obtain ⟨_, _, _, e1, sla, _⟩ := OwnB.parts OA2.out
        cases e1
        have SA := Lib.hid sla
        have SB := Lib.hid slb
        have B := hB2.out
        have V := V3
        have HRV := Lib.hid (HR.out.after hB2.out)
        have HTV := Lib.hid (HT.out.after hB2.out)
        clear sla slb O2 OA2 HOW2 L3 hB2 V3 HR HT HS HS2
        have q1 := conv_sl SA.out
        have q2 := conv_sl SB.out
        go_wp2_with fail
        have HPL : Hid (s.pack.length ≤ 9000) := Lib.hid (by have := b64_len s.form; have := HFL.out; simp only [Sx.pack, List.length_append, List.length_cons, List.length_nil]; omega)
        have ht2 : t2.size ≤ 9000 := by have := HTL2.out; have := HPL.out; omega
        refine (readN_any _ wb HTV.out).mono ?_
        rintro e x11 ⟨u, sa, p_, x_, hg, rfl, rd, bx11⟩
        obtain ⟨ul, uh, ua1, un1, uc1, ua2, un2, uc2, ua3, un3, uc3⟩ := u
        have RDu := Lib.hid (rd.mono (ok' := fun _ => True) (fun _ _ => trivial))
        obtain ⟨rfl, rfl, rfl⟩ : s = sa ∧ p_ = 0 ∧ x_ = 0 := by
          have e0 : (ByteArray.mk d.toArray ++ t ++ ByteArray.mk d2.toArray).data.toList = la.map blkOf ++ s.adv ++ lb.map blkOf := by rw [← HDA.out, ← HDB.out, ← HTT.out]; simp [ByteArray.data_append]
          rw [e0] at hg
          have hh := GotN.det nt_one hg (adv_read HMAY.out (map_blank la) (map_blank lb) (by have := HTL.out; have := HNL.out; have := HNL2.out; simp only [List.length_append, List.length_map]; omega))
          exact ⟨hh.1.symm, hh.2⟩
        clear rd hg q1 q2
        replace V := Lib.hid (V.out.after bx11)
        replace HRV := Lib.hid (HRV.out.after bx11)
        replace HTV := Lib.hid (HTV.out.after bx11)
        replace SA := Lib.hid (SA.out.after bx11)
        replace SB := Lib.hid (SB.out.after bx11)
        replace B := B.trans (bx11.mono B.size)
        clear bx11
        go_upto_region 18 with (refine wpList_store_box (cells := #[.bool ul, .bool uh, .slice ua1 un1 uc1, .slice ua2 un2 uc2, .slice ua3 un3 uc3]) rfl 26 _ _ rfl (Box.new _ _ _) (by rfl) (by rfl) rfl (by kernel_rfl) (by simp [Value.oneCell']) ?_; intro u9 X9 st9)
        have bs12 : Below x11.heap.size x11 u9 := st9.below x11.heap.size x11 (Nat.le_refl _) ((Below.refl _ _).alloc (Nat.le_refl _) _)
        have Y1 := Lib.hid X9
        replace V := Lib.hid (V.out.after bs12)
        replace HRV := Lib.hid (HRV.out.after bs12)
        replace HTV := Lib.hid (HTV.out.after bs12)
        replace SA := Lib.hid (SA.out.after bs12)
        replace SB := Lib.hid (SB.out.after bs12)
        replace RDu := Lib.hid (RDu.out.after bs12)
        replace B := B.trans (bs12.mono B.size)
        clear bs12 st9 X9
        generalize u9 = x12 at *
        generalize x11.heap.size = y1_ at *
        have q1 := conv_sl SA.out
        have q2 := conv_sl SB.out
        go_wp2_with fail
        refine (unpackN_any _ x12 HTV.out).mono ?_
        rintro e x13 ⟨r, sb, p_, x_, hg, rfl, rd, bx13⟩
        obtain ⟨rl, rh, ra1, rn1, rc1, ra2, rn2, rc2, ra3, rn3, rc3⟩ := r
        have RDr := Lib.hid (rd.mono (ok' := fun _ => True) (fun _ _ => trivial))
        obtain ⟨rfl, rfl, rfl⟩ : s = sb ∧ p_ = 0 ∧ x_ = 0 := by
          have e0 : (ByteArray.mk d.toArray ++ t2 ++ ByteArray.mk d2.toArray).data.toList = la.map blkOf ++ s.pack ++ lb.map blkOf := by rw [← HDA.out, ← HDB.out, ← HTT2.out]; simp [ByteArray.data_append]
          rw [e0] at hg
          have hh := GotN.det pk_one hg (pack_read HMAY.out (map_blank la) (map_blank lb) (by have := HTL2.out; have := HNL.out; have := HNL2.out; have := HPL.out; simp only [List.length_append, List.length_map]; omega))
          exact ⟨hh.1.symm, hh.2⟩
        clear rd hg q1 q2
        replace V := Lib.hid (V.out.after bx13)
        replace HRV := Lib.hid (HRV.out.after bx13)
        replace HTV := Lib.hid (HTV.out.after bx13)
        replace SA := Lib.hid (SA.out.after bx13)
        replace SB := Lib.hid (SB.out.after bx13)
        replace RDu := Lib.hid (RDu.out.after bx13)
        replace Y1 := Lib.hid (Y1.out.after bx13)
        replace B := B.trans (bx13.mono B.size)
        clear bx13
        go_upto_region 19 with (refine wpList_store_box (cells := #[.bool rl, .bool rh, .slice ra1 rn1 rc1, .slice ra2 rn2 rc2, .slice ra3 rn3 rc3]) rfl 26 _ _ rfl (Box.new _ _ _) (by rfl) (by rfl) rfl (by kernel_rfl) (by simp [Value.oneCell']) ?_; intro u9 X9 st9)
        have bs14 : Below x13.heap.size x13 u9 := st9.below x13.heap.size x13 (Nat.le_refl _) ((Below.refl _ _).alloc (Nat.le_refl _) _)
        have Y2 := Lib.hid X9
        replace V := Lib.hid (V.out.after bs14)
        replace HRV := Lib.hid (HRV.out.after bs14)
        replace HTV := Lib.hid (HTV.out.after bs14)
        replace SA := Lib.hid (SA.out.after bs14)
        replace SB := Lib.hid (SB.out.after bs14)
        replace RDu := Lib.hid (RDu.out.after bs14)
        replace Y1 := Lib.hid (Y1.out.after bs14)
        replace RDr := Lib.hid (RDr.out.after bs14)
        replace B := B.trans (bs14.mono B.size)
        clear bs14 st9 X9
        generalize u9 = x14 at *
        generalize x13.heap.size = y2_ at *
        go_step
        refine wpList_made 19 x14.heap.size x14 (Below.refl _ _) ?_
        simp only [List.take_succ_cons, List.take_zero, List.drop_succ_cons, List.drop_zero]
        refine wpQ_run rfl (.int .i64 0) (fun w' hw => by simp [go_sem]) ?_
        simp only [Act.put, List.setIfInBounds_toArray, List.set_cons_zero, List.set_cons_succ]
        refine wpQ_run rfl (.bool true) (fun w' hw => by simp [go_sem]) ?_
        simp only [Act.put, List.setIfInBounds_toArray, List.set_cons_zero, List.set_cons_succ]
        refine wpQ_run rfl (.bool true) (fun w' hw => by simp [go_sem]) ?_
        simp only [Act.put, List.setIfInBounds_toArray, List.set_cons_zero, List.set_cons_succ]
        refine wpQ_run rfl (.int .i64 0) (fun w' hw => by simp [go_sem]) ?_
        simp only [Act.put, List.setIfInBounds_toArray, List.set_cons_zero, List.set_cons_succ]
        refine wpQ_run rfl (.bool true) (fun w' hw => by simp [go_sem]) ?_
        simp only [Act.put, List.setIfInBounds_toArray, List.set_cons_zero, List.set_cons_succ]
        refine wpQ_run rfl (.bool true) (fun w' hw => by simp [go_sem]) ?_
        simp only [Act.put, List.setIfInBounds_toArray, List.set_cons_zero, List.set_cons_succ]
        refine wpQ_run rfl (.bool true) (fun w' hw => by simp [go_sem]) ?_
        simp only [Act.put, List.setIfInBounds_toArray, List.set_cons_zero, List.set_cons_succ]
        refine wpQ_load_box rfl 26 _ rfl Y1.out (by rfl) Y1.out.lt Tryd.underlying26 rfl (by kernel_rfl) ?_
        simp only [Act.put, List.setIfInBounds_toArray, List.set_cons_zero, List.set_cons_succ]
        refine wpQ_load_box rfl 26 _ rfl V.out (by rfl) V.out.lt Tryd.underlying26 rfl (by kernel_rfl) ?_
        simp only [Act.put, List.setIfInBounds_toArray, List.set_cons_zero, List.set_cons_succ]
        refine wpQ_callS rfl 11 #[.agg #[.bool ul, .bool uh, .slice ua1 un1 uc1, .slice ua2 un2 uc2, .slice ua3 un3 uc3], .agg #[.bool vl, .bool vh, .slice va1 vn1 vc1, .slice va2 vn2 vc2, .slice va3 vn3 vc3]] (fun w' => by simp [go_sem]) (.bool true) (Nat.le_refl _) (fun w' hw => by have := refSame_any _ _ ⟨ul, uh, ua1, un1, uc1, ua2, un2, uc2, ua3, un3, uc3⟩ ⟨vl, vh, va1, vn1, vc1, va2, vn2, vc2, va3, vn3, vc3⟩ w' (RDu.out.after hw) (HRV.out.after hw); rw [Sx.same_refl] at this; exact this) ?_
        simp only [Act.put, List.setIfInBounds_toArray, List.set_cons_zero, List.set_cons_succ]
        refine wpQ_run rfl (.bool true) (fun w' hw => by simp [go_sem]) ?_
        simp only [Act.put, List.setIfInBounds_toArray, List.set_cons_zero, List.set_cons_succ]
        refine wpQ_run rfl (.bool true) (fun w' hw => by simp [go_sem]) ?_
        simp only [Act.put, List.setIfInBounds_toArray, List.set_cons_zero, List.set_cons_succ]
        refine wpQ_load_box rfl 26 _ rfl Y2.out (by rfl) Y2.out.lt Tryd.underlying26 rfl (by kernel_rfl) ?_
        simp only [Act.put, List.setIfInBounds_toArray, List.set_cons_zero, List.set_cons_succ]
        refine wpQ_load_box rfl 26 _ rfl V.out (by rfl) V.out.lt Tryd.underlying26 rfl (by kernel_rfl) ?_
        simp only [Act.put, List.setIfInBounds_toArray, List.set_cons_zero, List.set_cons_succ]
        refine wpQ_callS rfl 11 #[.agg #[.bool rl, .bool rh, .slice ra1 rn1 rc1, .slice ra2 rn2 rc2, .slice ra3 rn3 rc3], .agg #[.bool vl, .bool vh, .slice va1 vn1 vc1, .slice va2 vn2 vc2, .slice va3 vn3 vc3]] (fun w' => by simp [go_sem]) (.bool true) (Nat.le_refl _) (fun w' hw => by have := refSame_any _ _ ⟨rl, rh, ra1, rn1, rc1, ra2, rn2, rc2, ra3, rn3, rc3⟩ ⟨vl, vh, va1, vn1, vc1, va2, vn2, vc2, va3, vn3, vc3⟩ w' (RDr.out.after hw) (HRV.out.after hw); rw [Sx.same_refl] at this; exact this) ?_
        simp only [Act.put, List.setIfInBounds_toArray, List.set_cons_zero, List.set_cons_succ]
        refine wpQ_run rfl (.bool true) (fun w' hw => by simp [go_sem]) ?_
        simp only [Act.put, List.setIfInBounds_toArray, List.set_cons_zero, List.set_cons_succ]
        refine wpQ_run rfl (.bool true) (fun w' hw => by simp [go_sem]) ?_
        simp only [Act.put, List.setIfInBounds_toArray, List.set_cons_zero, List.set_cons_succ]
        refine wpQ_callS rfl 8 #[] (fun w' => by simp [go_sem]) (.bool true) (Nat.le_refl _) (fun w' hw => awake_any w' (HTV.out.after hw)) ?_
        simp only [Act.put, List.setIfInBounds_toArray, List.set_cons_zero, List.set_cons_succ]
        refine wpQ_run rfl (.bool true) (fun w' hw => by simp [go_sem]) ?_
        simp only [Act.put, List.setIfInBounds_toArray, List.set_cons_zero, List.set_cons_succ]
        intro y60 hb60
        replace V := Lib.hid (V.out.after hb60)
        replace HRV := Lib.hid (HRV.out.after hb60)
        replace HTV := Lib.hid (HTV.out.after hb60)
        replace SA := Lib.hid (SA.out.after hb60)
        replace SB := Lib.hid (SB.out.after hb60)
        replace RDu := Lib.hid (RDu.out.after hb60)
        replace Y1 := Lib.hid (Y1.out.after hb60)
        replace RDr := Lib.hid (RDr.out.after hb60)
        replace Y2 := Lib.hid (Y2.out.after hb60)
        replace B := B.trans (hb60.mono B.size)
        clear hb60
        go_wp2_with fail
        go_ret
        exact ⟨rfl, B⟩

end Go.Proofs.YtkbblhioncecmaaDoor

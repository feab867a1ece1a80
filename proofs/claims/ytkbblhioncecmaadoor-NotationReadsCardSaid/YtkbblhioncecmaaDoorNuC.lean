/- The document's reader of advanced forms: signs up to an end, and what they make. -/
import Derived.Test.YtkbblhioncecmaaDoorNuB
import Derived.Test.YtkbblhioncecmaaDoorNtO2
namespace Go.Proofs.YtkbblhioncecmaaDoor
open Go.RowKit
set_option linter.unusedSimpArgs false
set_option linter.unusedVariables false

theorem box_result_tc {P : Program} {fn : Func} {p q : Tmp} {ty : TypeId} (h : fn.results = #[.tmp q, .cell p ty]) (tmps : Array Value) (w : World) {g : Nat} {T : TypeId} {cs : Array Value} {d : TypeDesc}
    (hp : tmps.getD p undef = .pointer (some ⟨g, 0, none⟩)) (hg : Box w g T cs) (hu : P.underlying ty = some d) (hd : (match d with | .struct _ | .array _ _ => true | _ => false) = true) (hi : (P.info? ty).map (·.size) = some cs.size) :
    (results fn tmps).run P w = .ok (.tuple #[tmps.getD q undef, .agg cs]) w := by
  have hp' : tmps[p]?.getD undef = .pointer (some ⟨g, 0, none⟩) := by simpa using hp
  simp [results, h, hp', asAddr, run_loadVar_row w g T ty cs (0, 0) d hg hu hd hi]
/-- signs that were gathered are handed back -/
def SomeP (r : BR) (w : World) (e : Ending) (w' : World) : Prop :=
  ∃ t : ByteArray, e = .returned (.tuple #[.string t, .agg #[.slice none 0 0, .int .i64 r.p, .int .i64 r.e]]) ∧ t.data.toList = r.b ∧ Below w.heap.size w w'
theorem sp_err {r : BR} {p e : Nat} (h : r = BR.err p e) {w w' : World} (hb : Below w.heap.size w w') : SomeP r w (.returned (.tuple #[.string ⟨#[]⟩, .agg #[.slice none 0 0, .int .i64 p, .int .i64 e]])) w' := by
  subst h
  exact ⟨_, rfl, rfl, hb⟩
theorem sp_ok {r : BR} {l : List UInt8} {p : Nat} (h : r = ⟨l, p, 0⟩) {w w' : World} (hb : Below w.heap.size w w') : SomeP r w (.returned (.tuple #[.string ⟨l.toArray⟩, .agg #[.slice none 0 0, .int .i64 p, .int .i64 0]])) w' := by
  subst h
  exact ⟨_, rfl, by simp, hb⟩
theorem hexC_isB (c : UInt8) : hexC c = isB (hval c.toNat) := rfl

set_option maxHeartbeats 16000000 in
set_option maxRecDepth 100000 in
theorem rsome16_any (en : UInt8) (s : ByteArray) (p : Nat) (w : World) (hs : s.size ≤ 100000) (hp : p ≤ s.size) : Calls Tryd.prog 92 #[.string s, .int .i64 p, .int .i64 16, .int .u8 (en.toNat : Int)] w (SomeP (nSome hexC en (s.data.toList.drop p) p) w) := by
  obtain ⟨R, hR⟩ : ∃ R, R = nSome hexC en (s.data.toList.drop p) p := ⟨_, rfl⟩
  rw [← hR]
  have HR := Lib.hid hR
  have HL : Hid (s.data.toList.length = s.size) := Lib.hid (by simp)
  clear hR
  have B0 : Below w.heap.size w (w.alloc (.cells #[.slice none 0 0, .int .i64 0, .int .i64 0] 81)) := (Below.refl _ _).alloc (Nat.le_refl _) _
  have X0 := Lib.hid (Box.new w 81 #[.slice none 0 0, .int .i64 0, .int .i64 0])
  have hz0 : w.heap.size < (w.alloc (.cells #[.slice none 0 0, .int .i64 0, .int .i64 0] 81)).heap.size := X0.out.lt
  go_enter Tryd.func92, Tryd.ntmps92
  go_upto_region 1 with fail
  change Code.wp _ _ _ _ (w.alloc (.cells #[.slice none 0 0, .int .i64 0, .int .i64 0] 81))
  generalize (w.alloc (.cells #[.slice none 0 0, .int .i64 0, .int .i64 0] 81)) = v0 at *
  have B1 : Below w.heap.size w (v0.alloc (.cells #[] 5)) := B0.alloc B0.size _
  have X1 := Lib.hid (X0.out.alloc (.cells #[] 5))
  have O1 := Lib.hid (OwnB.empty v0 (w.heap.size + 1) (by omega))
  have hz1 : w.heap.size + 1 ≤ (v0.alloc (.cells #[] 5)).heap.size := X1.out.lt
  have Z0 := Lib.hid hz0
  clear hz0 X0
  go_wp2_with fail
  go_loopw [1, 10] (fun at' out wr => ∃ (k : Nat) (d : List UInt8), k ≤ s.size ∧ d.length ≤ k ∧ at' = .int .i64 k ∧ Hid (R = (nSome hexC en (s.data.toList.drop k) k).pre d) ∧ Hid (Box wr w.heap.size 81 #[.slice none 0 0, .int .i64 0, .int .i64 0]) ∧ Hid (OwnB wr (w.heap.size + 1) out d) ∧ Below w.heap.size w wr) (fun at' _ _ => s.size + 1 - (intOf at').toNat)
  case atStart => exact ⟨p, [], hp, Nat.zero_le _, rfl, Lib.hid (by rw [HR.out, pre_nil]), X1, O1, B1⟩
  case round =>
    obtain ⟨wa, rfl⟩ : ∃ wa : World, wa = wr := ⟨_, rfl⟩
    obtain ⟨k, d, hk, hd, rfl, HRK, X, O, B⟩ := hrel
    have HB : Hid (w.heap.size + 1 ≤ wa.heap.size) := Lib.hid X.out.lt
    have BB := Lib.hid B
    clear X1 O1 B1 B0 Z0 HR hz1 B
    by_cases hlt : k < s.size
    case neg =>
      have hge : ¬ (k : Int) < (s.size : Int) := by omega
      have HE : Hid (R = BR.err s.size 2) := Lib.hid (by rw [HRK.out, nSome_end (by have := HL.out; omega), show k = s.size by omega]; rfl)
      clear HRK hlt
      go_wp2_with (refine wpList_store_box (cells := #[.slice none 0 0, .int .i64 s.size, .int .i64 2]) rfl 81 _ _ rfl X.out (by rfl) (by rfl) rfl (by kernel_rfl) (by simp [Value.oneCell']) ?_; intro u9 X9 st9)
      have B9 := st9.below w.heap.size w (Nat.le_refl _) BB.out
      exact bodyPost_ret (v := .tuple #[.string ⟨#[]⟩, .agg #[.slice none 0 0, .int .i64 s.size, .int .i64 2]]) (box_result_tc (p := 9) (q := 8) rfl _ _ (by rfl) X9 Tryd.underlying81 rfl (by kernel_rfl)) rfl (sp_err HE.out B9)
    have hk0 : (0 : Int) ≤ k := by omega
    have hk1 : (k : Int) < s.size := by omega
    obtain ⟨c, hc, hc1, hc2⟩ := at_byte s k hlt
    have HST := Lib.hid (nSome_step (good := hexC) (en := en) (l := s.data.toList) (k := k) (by rw [HL.out]; exact hlt))
    rw [hc1.out] at HST
    clear hc1 hc2
    by_cases he : c = en
    case pos =>
      subst he
      have e1 : ((c.toNat : Int) == (c.toNat : Int)) = true := by simp
      have HE : Hid (R = ⟨d, k, 0⟩) := Lib.hid (by rw [HRK.out, HST.out, if_pos rfl]; simp [BR.pre])
      clear HRK HST
      obtain ⟨a1, n1, c1, rfl, sl1, in1⟩ := OwnB.parts O.out
      have q1 := conv_sl sl1
      clear O sl1 in1
      go_wp2_with (refine wpList_store_box (cells := #[.slice none 0 0, .int .i64 k, .int .i64 0]) rfl 81 _ _ rfl X.out (by rfl) (by rfl) rfl (by kernel_rfl) (by simp [Value.oneCell']) ?_; intro u9 X9 st9)
      have B9 := st9.below w.heap.size w (Nat.le_refl _) BB.out
      exact bodyPost_ret (v := .tuple #[.string ⟨d.toArray⟩, .agg #[.slice none 0 0, .int .i64 k, .int .i64 0]]) (box_result_tc (p := 9) (q := 8) rfl _ _ (by rfl) X9 Tryd.underlying81 rfl (by kernel_rfl)) rfl (sp_ok HE.out B9)
    obtain ⟨z1, z2⟩ := byteNe he
    have HNE := Lib.hid he
    clear he
    by_cases hx : hexC c = true
    case pos =>
      have HGG : hexC c = true := hx
      have HV : isB (hval c.toNat) = true := hx
      clear hx
      have HG : Hid (hexC c = true) := Lib.hid HGG
      have HT : Hid (R = (nSome hexC en (s.data.toList.drop (k + 1)) (k + 1)).pre (d ++ [c])) := Lib.hid (by rw [HRK.out, HST.out, if_neg HNE.out, HG.out]; simp [pre_pre])
      clear HRK HST HGG
      go_wp2_with fail
      refine (refValue_any c _).mono ?_
      rintro e w1 ⟨rfl, rfl⟩
      go_wp2_with (refine wpList_append_B rfl _ _ rfl (l := d) rfl (OwnG.alloc O.out _) (l2 := [c]) rfl (sl_cell1 _ c _ rfl) (by simp; omega) (by have := HB.out; simp; omega) ?_; intro v5 w5 ho5 hg5)
      have X5 := Lib.hid ((X.out.alloc _).grown hg5 (fun j hj => by have := O.out.lt j hj; omega))
      have B5 := (BB.out.alloc (by have := HB.out; omega) _).grown hg5 (by have := HB.out; simp; omega) (fun j hj => by have := O.out.lt _ hj; omega)
      have O5 := Lib.hid ho5
      clear ho5 hg5 X O BB
      go_wp2_with fail
      go_roundw
      case rel => exact ⟨k + 1, d ++ [c], by omega, by simp; omega, by go_num, HT, X5, O5, B5⟩
      case measure => simp [intOf]; omega
    have HGG : hexC c = false := by simpa using hx
    have HV : isB (hval c.toNat) = false := HGG
    clear hx
    cases hb : blankB c with
    | true =>
      have HB1 := Lib.hid hb
      have HT : Hid (R = (nSome hexC en (s.data.toList.drop (k + 1)) (k + 1)).pre d) := Lib.hid (by rw [HRK.out, HST.out, if_neg HNE.out, HGG, hb]; simp [pre_nil])
      clear HRK HST HGG hb
      go_wp2_with fail
      refine (refValue_any c _).mono ?_
      rintro e w1 ⟨rfl, rfl⟩
      go_wp2_with fail
      refine (rblank_any c _).mono ?_
      unfold BitP
      rintro e w1 ⟨rfl, rfl⟩
      rw [HB1.out]
      go_wp2_with fail
      go_roundw
      case rel => exact ⟨k + 1, d, by omega, by omega, by go_num, HT, X, O, BB.out⟩
      case measure => simp [intOf]; omega
    | false =>
      have HB1 := Lib.hid hb
      have HE : Hid (R = BR.err k 3) := Lib.hid (by rw [HRK.out, HST.out, if_neg HNE.out, HGG, hb]; rfl)
      clear HRK HST HGG hb
      go_wp2_with fail
      refine (refValue_any c _).mono ?_
      rintro e w1 ⟨rfl, rfl⟩
      go_wp2_with fail
      refine (rblank_any c _).mono ?_
      unfold BitP
      rintro e w1 ⟨rfl, rfl⟩
      rw [HB1.out]
      go_wp2_with (refine wpList_store_box (cells := #[.slice none 0 0, .int .i64 k, .int .i64 3]) rfl 81 _ _ rfl X.out (by rfl) (by rfl) rfl (by kernel_rfl) (by simp [Value.oneCell']) ?_; intro u9 X9 st9)
      have B9 := st9.below w.heap.size w (Nat.le_refl _) BB.out
      exact bodyPost_ret (v := .tuple #[.string ⟨#[]⟩, .agg #[.slice none 0 0, .int .i64 k, .int .i64 3]]) (box_result_tc (p := 9) (q := 8) rfl _ _ (by rfl) X9 Tryd.underlying81 rfl (by kernel_rfl)) rfl (sp_err HE.out B9)

set_option maxHeartbeats 16000000 in
set_option maxRecDepth 100000 in
theorem rsome64_any (en : UInt8) (s : ByteArray) (p : Nat) (w : World) (hs : s.size ≤ 100000) (hp : p ≤ s.size) : Calls Tryd.prog 92 #[.string s, .int .i64 p, .int .i64 64, .int .u8 (en.toNat : Int)] w (SomeP (nSome b64C en (s.data.toList.drop p) p) w) := by
  obtain ⟨R, hR⟩ : ∃ R, R = nSome b64C en (s.data.toList.drop p) p := ⟨_, rfl⟩
  rw [← hR]
  have HR := Lib.hid hR
  have HL : Hid (s.data.toList.length = s.size) := Lib.hid (by simp)
  clear hR
  have B0 : Below w.heap.size w (w.alloc (.cells #[.slice none 0 0, .int .i64 0, .int .i64 0] 81)) := (Below.refl _ _).alloc (Nat.le_refl _) _
  have X0 := Lib.hid (Box.new w 81 #[.slice none 0 0, .int .i64 0, .int .i64 0])
  have hz0 : w.heap.size < (w.alloc (.cells #[.slice none 0 0, .int .i64 0, .int .i64 0] 81)).heap.size := X0.out.lt
  go_enter Tryd.func92, Tryd.ntmps92
  go_upto_region 1 with fail
  change Code.wp _ _ _ _ (w.alloc (.cells #[.slice none 0 0, .int .i64 0, .int .i64 0] 81))
  generalize (w.alloc (.cells #[.slice none 0 0, .int .i64 0, .int .i64 0] 81)) = v0 at *
  have B1 : Below w.heap.size w (v0.alloc (.cells #[] 5)) := B0.alloc B0.size _
  have X1 := Lib.hid (X0.out.alloc (.cells #[] 5))
  have O1 := Lib.hid (OwnB.empty v0 (w.heap.size + 1) (by omega))
  have hz1 : w.heap.size + 1 ≤ (v0.alloc (.cells #[] 5)).heap.size := X1.out.lt
  have Z0 := Lib.hid hz0
  clear hz0 X0
  go_wp2_with fail
  go_loopw [1, 10] (fun at' out wr => ∃ (k : Nat) (d : List UInt8), k ≤ s.size ∧ d.length ≤ k ∧ at' = .int .i64 k ∧ Hid (R = (nSome b64C en (s.data.toList.drop k) k).pre d) ∧ Hid (Box wr w.heap.size 81 #[.slice none 0 0, .int .i64 0, .int .i64 0]) ∧ Hid (OwnB wr (w.heap.size + 1) out d) ∧ Below w.heap.size w wr) (fun at' _ _ => s.size + 1 - (intOf at').toNat)
  case atStart => exact ⟨p, [], hp, Nat.zero_le _, rfl, Lib.hid (by rw [HR.out, pre_nil]), X1, O1, B1⟩
  case round =>
    obtain ⟨wa, rfl⟩ : ∃ wa : World, wa = wr := ⟨_, rfl⟩
    obtain ⟨k, d, hk, hd, rfl, HRK, X, O, B⟩ := hrel
    have HB : Hid (w.heap.size + 1 ≤ wa.heap.size) := Lib.hid X.out.lt
    have BB := Lib.hid B
    clear X1 O1 B1 B0 Z0 HR hz1 B
    by_cases hlt : k < s.size
    case neg =>
      have hge : ¬ (k : Int) < (s.size : Int) := by omega
      have HE : Hid (R = BR.err s.size 2) := Lib.hid (by rw [HRK.out, nSome_end (by have := HL.out; omega), show k = s.size by omega]; rfl)
      clear HRK hlt
      go_wp2_with (refine wpList_store_box (cells := #[.slice none 0 0, .int .i64 s.size, .int .i64 2]) rfl 81 _ _ rfl X.out (by rfl) (by rfl) rfl (by kernel_rfl) (by simp [Value.oneCell']) ?_; intro u9 X9 st9)
      have B9 := st9.below w.heap.size w (Nat.le_refl _) BB.out
      exact bodyPost_ret (v := .tuple #[.string ⟨#[]⟩, .agg #[.slice none 0 0, .int .i64 s.size, .int .i64 2]]) (box_result_tc (p := 9) (q := 8) rfl _ _ (by rfl) X9 Tryd.underlying81 rfl (by kernel_rfl)) rfl (sp_err HE.out B9)
    have hk0 : (0 : Int) ≤ k := by omega
    have hk1 : (k : Int) < s.size := by omega
    obtain ⟨c, hc, hc1, hc2⟩ := at_byte s k hlt
    have HST := Lib.hid (nSome_step (good := b64C) (en := en) (l := s.data.toList) (k := k) (by rw [HL.out]; exact hlt))
    rw [hc1.out] at HST
    clear hc1 hc2
    by_cases he : c = en
    case pos =>
      subst he
      have e1 : ((c.toNat : Int) == (c.toNat : Int)) = true := by simp
      have HE : Hid (R = ⟨d, k, 0⟩) := Lib.hid (by rw [HRK.out, HST.out, if_pos rfl]; simp [BR.pre])
      clear HRK HST
      obtain ⟨a1, n1, c1, rfl, sl1, in1⟩ := OwnB.parts O.out
      have q1 := conv_sl sl1
      clear O sl1 in1
      go_wp2_with (refine wpList_store_box (cells := #[.slice none 0 0, .int .i64 k, .int .i64 0]) rfl 81 _ _ rfl X.out (by rfl) (by rfl) rfl (by kernel_rfl) (by simp [Value.oneCell']) ?_; intro u9 X9 st9)
      have B9 := st9.below w.heap.size w (Nat.le_refl _) BB.out
      exact bodyPost_ret (v := .tuple #[.string ⟨d.toArray⟩, .agg #[.slice none 0 0, .int .i64 k, .int .i64 0]]) (box_result_tc (p := 9) (q := 8) rfl _ _ (by rfl) X9 Tryd.underlying81 rfl (by kernel_rfl)) rfl (sp_ok HE.out B9)
    obtain ⟨z1, z2⟩ := byteNe he
    have HNE := Lib.hid he
    clear he
    by_cases hle : letterB c = true
    case pos =>
      have HGG : b64C c = true := by unfold b64C; simp [hle]
      have HLE := Lib.hid hle
      clear hle
      have HG : Hid (b64C c = true) := Lib.hid HGG
      have HT : Hid (R = (nSome b64C en (s.data.toList.drop (k + 1)) (k + 1)).pre (d ++ [c])) := Lib.hid (by rw [HRK.out, HST.out, if_neg HNE.out, HG.out]; simp [pre_pre])
      clear HRK HST HGG
      go_wp2_with fail
      refine (refValue_any c _).mono ?_
      rintro e w1 ⟨rfl, rfl⟩
      go_wp2_with fail
      refine (rletter_any c _).mono ?_
      unfold BitP
      rintro e w1 ⟨rfl, rfl⟩
      rw [HLE.out]
      go_wp2_with (refine wpList_append_B rfl _ _ rfl (l := d) rfl (OwnG.alloc O.out _) (l2 := [c]) rfl (sl_cell1 _ c _ rfl) (by simp; omega) (by have := HB.out; simp; omega) ?_; intro v5 w5 ho5 hg5)
      have X5 := Lib.hid ((X.out.alloc _).grown hg5 (fun j hj => by have := O.out.lt j hj; omega))
      have B5 := (BB.out.alloc (by have := HB.out; omega) _).grown hg5 (by have := HB.out; simp; omega) (fun j hj => by have := O.out.lt _ hj; omega)
      have O5 := Lib.hid ho5
      clear ho5 hg5 X O BB
      go_wp2_with fail
      go_roundw
      case rel => exact ⟨k + 1, d ++ [c], by omega, by simp; omega, by go_num, HT, X5, O5, B5⟩
      case measure => simp [intOf]; omega
    have HLE : Hid (letterB c = false) := Lib.hid (by simpa using hle)
    clear hle
    by_cases hnu : numB c = true
    case pos =>
      have HGG : b64C c = true := by unfold b64C; simp [hnu]
      have HNU := Lib.hid hnu
      clear hnu
      have HG : Hid (b64C c = true) := Lib.hid HGG
      have HT : Hid (R = (nSome b64C en (s.data.toList.drop (k + 1)) (k + 1)).pre (d ++ [c])) := Lib.hid (by rw [HRK.out, HST.out, if_neg HNE.out, HG.out]; simp [pre_pre])
      clear HRK HST HGG
      go_wp2_with fail
      refine (refValue_any c _).mono ?_
      rintro e w1 ⟨rfl, rfl⟩
      go_wp2_with fail
      refine (rletter_any c _).mono ?_
      unfold BitP
      rintro e w1 ⟨rfl, rfl⟩
      rw [HLE.out]
      go_wp2_with fail
      refine (rnumber_any c _).mono ?_
      unfold BitP
      rintro e w1 ⟨rfl, rfl⟩
      rw [HNU.out]
      go_wp2_with (refine wpList_append_B rfl _ _ rfl (l := d) rfl (OwnG.alloc O.out _) (l2 := [c]) rfl (sl_cell1 _ c _ rfl) (by simp; omega) (by have := HB.out; simp; omega) ?_; intro v5 w5 ho5 hg5)
      have X5 := Lib.hid ((X.out.alloc _).grown hg5 (fun j hj => by have := O.out.lt j hj; omega))
      have B5 := (BB.out.alloc (by have := HB.out; omega) _).grown hg5 (by have := HB.out; simp; omega) (fun j hj => by have := O.out.lt _ hj; omega)
      have O5 := Lib.hid ho5
      clear ho5 hg5 X O BB
      go_wp2_with fail
      go_roundw
      case rel => exact ⟨k + 1, d ++ [c], by omega, by simp; omega, by go_num, HT, X5, O5, B5⟩
      case measure => simp [intOf]; omega
    have HNU : Hid (numB c = false) := Lib.hid (by simpa using hnu)
    clear hnu
    by_cases h43 : c.toNat = 43
    case pos =>
      have HGG : b64C c = true := by obtain rfl : c = 43 := UInt8.toNat_inj.1 h43; rfl
      obtain ⟨y1, y2, y3⟩ := bEq 43 43 rfl h43
      clear h43 y3
      have HG : Hid (b64C c = true) := Lib.hid HGG
      have HT : Hid (R = (nSome b64C en (s.data.toList.drop (k + 1)) (k + 1)).pre (d ++ [c])) := Lib.hid (by rw [HRK.out, HST.out, if_neg HNE.out, HG.out]; simp [pre_pre])
      clear HRK HST HGG
      go_wp2_with fail
      refine (refValue_any c _).mono ?_
      rintro e w1 ⟨rfl, rfl⟩
      go_wp2_with fail
      refine (rletter_any c _).mono ?_
      unfold BitP
      rintro e w1 ⟨rfl, rfl⟩
      rw [HLE.out]
      go_wp2_with fail
      refine (rnumber_any c _).mono ?_
      unfold BitP
      rintro e w1 ⟨rfl, rfl⟩
      rw [HNU.out]
      go_wp2_with (refine wpList_append_B rfl _ _ rfl (l := d) rfl (OwnG.alloc O.out _) (l2 := [c]) rfl (sl_cell1 _ c _ rfl) (by simp; omega) (by have := HB.out; simp; omega) ?_; intro v5 w5 ho5 hg5)
      have X5 := Lib.hid ((X.out.alloc _).grown hg5 (fun j hj => by have := O.out.lt j hj; omega))
      have B5 := (BB.out.alloc (by have := HB.out; omega) _).grown hg5 (by have := HB.out; simp; omega) (fun j hj => by have := O.out.lt _ hj; omega)
      have O5 := Lib.hid ho5
      clear ho5 hg5 X O BB
      go_wp2_with fail
      go_roundw
      case rel => exact ⟨k + 1, d ++ [c], by omega, by simp; omega, by go_num, HT, X5, O5, B5⟩
      case measure => simp [intOf]; omega
    obtain ⟨y43, yy43, yyy43⟩ := bNe 43 43 rfl h43
    have n43 : Hid (c ≠ 43) := Lib.hid (fun e => h43 (by rw [e]; rfl))
    clear h43 yyy43
    by_cases h47 : c.toNat = 47
    case pos =>
      have HGG : b64C c = true := by obtain rfl : c = 47 := UInt8.toNat_inj.1 h47; rfl
      obtain ⟨y1, y2, y3⟩ := bEq 47 47 rfl h47
      clear h47 y3
      have HG : Hid (b64C c = true) := Lib.hid HGG
      have HT : Hid (R = (nSome b64C en (s.data.toList.drop (k + 1)) (k + 1)).pre (d ++ [c])) := Lib.hid (by rw [HRK.out, HST.out, if_neg HNE.out, HG.out]; simp [pre_pre])
      clear HRK HST HGG
      go_wp2_with fail
      refine (refValue_any c _).mono ?_
      rintro e w1 ⟨rfl, rfl⟩
      go_wp2_with fail
      refine (rletter_any c _).mono ?_
      unfold BitP
      rintro e w1 ⟨rfl, rfl⟩
      rw [HLE.out]
      go_wp2_with fail
      refine (rnumber_any c _).mono ?_
      unfold BitP
      rintro e w1 ⟨rfl, rfl⟩
      rw [HNU.out]
      go_wp2_with (refine wpList_append_B rfl _ _ rfl (l := d) rfl (OwnG.alloc O.out _) (l2 := [c]) rfl (sl_cell1 _ c _ rfl) (by simp; omega) (by have := HB.out; simp; omega) ?_; intro v5 w5 ho5 hg5)
      have X5 := Lib.hid ((X.out.alloc _).grown hg5 (fun j hj => by have := O.out.lt j hj; omega))
      have B5 := (BB.out.alloc (by have := HB.out; omega) _).grown hg5 (by have := HB.out; simp; omega) (fun j hj => by have := O.out.lt _ hj; omega)
      have O5 := Lib.hid ho5
      clear ho5 hg5 X O BB
      go_wp2_with fail
      go_roundw
      case rel => exact ⟨k + 1, d ++ [c], by omega, by simp; omega, by go_num, HT, X5, O5, B5⟩
      case measure => simp [intOf]; omega
    obtain ⟨y47, yy47, yyy47⟩ := bNe 47 47 rfl h47
    have n47 : Hid (c ≠ 47) := Lib.hid (fun e => h47 (by rw [e]; rfl))
    clear h47 yyy47
    by_cases h61 : c.toNat = 61
    case pos =>
      have HGG : b64C c = true := by obtain rfl : c = 61 := UInt8.toNat_inj.1 h61; rfl
      obtain ⟨y1, y2, y3⟩ := bEq 61 61 rfl h61
      clear h61 y3
      have HG : Hid (b64C c = true) := Lib.hid HGG
      have HT : Hid (R = (nSome b64C en (s.data.toList.drop (k + 1)) (k + 1)).pre (d ++ [c])) := Lib.hid (by rw [HRK.out, HST.out, if_neg HNE.out, HG.out]; simp [pre_pre])
      clear HRK HST HGG
      go_wp2_with fail
      refine (refValue_any c _).mono ?_
      rintro e w1 ⟨rfl, rfl⟩
      go_wp2_with fail
      refine (rletter_any c _).mono ?_
      unfold BitP
      rintro e w1 ⟨rfl, rfl⟩
      rw [HLE.out]
      go_wp2_with fail
      refine (rnumber_any c _).mono ?_
      unfold BitP
      rintro e w1 ⟨rfl, rfl⟩
      rw [HNU.out]
      go_wp2_with (refine wpList_append_B rfl _ _ rfl (l := d) rfl (OwnG.alloc O.out _) (l2 := [c]) rfl (sl_cell1 _ c _ rfl) (by simp; omega) (by have := HB.out; simp; omega) ?_; intro v5 w5 ho5 hg5)
      have X5 := Lib.hid ((X.out.alloc _).grown hg5 (fun j hj => by have := O.out.lt j hj; omega))
      have B5 := (BB.out.alloc (by have := HB.out; omega) _).grown hg5 (by have := HB.out; simp; omega) (fun j hj => by have := O.out.lt _ hj; omega)
      have O5 := Lib.hid ho5
      clear ho5 hg5 X O BB
      go_wp2_with fail
      go_roundw
      case rel => exact ⟨k + 1, d ++ [c], by omega, by simp; omega, by go_num, HT, X5, O5, B5⟩
      case measure => simp [intOf]; omega
    obtain ⟨y61, yy61, yyy61⟩ := bNe 61 61 rfl h61
    have n61 : Hid (c ≠ 61) := Lib.hid (fun e => h61 (by rw [e]; rfl))
    clear h61 yyy61
    have HGG : b64C c = false := by unfold b64C; simp [HLE.out, HNU.out, n43.out, n47.out, n61.out]
    clear n43 n47 n61
    cases hb : blankB c with
    | true =>
      have HB1 := Lib.hid hb
      have HT : Hid (R = (nSome b64C en (s.data.toList.drop (k + 1)) (k + 1)).pre d) := Lib.hid (by rw [HRK.out, HST.out, if_neg HNE.out, HGG, hb]; simp [pre_nil])
      clear HRK HST HGG hb
      go_wp2_with fail
      refine (refValue_any c _).mono ?_
      rintro e w1 ⟨rfl, rfl⟩
      go_wp2_with fail
      refine (rletter_any c _).mono ?_
      unfold BitP
      rintro e w1 ⟨rfl, rfl⟩
      rw [HLE.out]
      go_wp2_with fail
      refine (rnumber_any c _).mono ?_
      unfold BitP
      rintro e w1 ⟨rfl, rfl⟩
      rw [HNU.out]
      go_wp2_with fail
      refine (rblank_any c _).mono ?_
      unfold BitP
      rintro e w1 ⟨rfl, rfl⟩
      rw [HB1.out]
      go_wp2_with fail
      go_roundw
      case rel => exact ⟨k + 1, d, by omega, by omega, by go_num, HT, X, O, BB.out⟩
      case measure => simp [intOf]; omega
    | false =>
      have HB1 := Lib.hid hb
      have HE : Hid (R = BR.err k 3) := Lib.hid (by rw [HRK.out, HST.out, if_neg HNE.out, HGG, hb]; rfl)
      clear HRK HST HGG hb
      go_wp2_with fail
      refine (refValue_any c _).mono ?_
      rintro e w1 ⟨rfl, rfl⟩
      go_wp2_with fail
      refine (rletter_any c _).mono ?_
      unfold BitP
      rintro e w1 ⟨rfl, rfl⟩
      rw [HLE.out]
      go_wp2_with fail
      refine (rnumber_any c _).mono ?_
      unfold BitP
      rintro e w1 ⟨rfl, rfl⟩
      rw [HNU.out]
      go_wp2_with fail
      refine (rblank_any c _).mono ?_
      unfold BitP
      rintro e w1 ⟨rfl, rfl⟩
      rw [HB1.out]
      go_wp2_with (refine wpList_store_box (cells := #[.slice none 0 0, .int .i64 k, .int .i64 3]) rfl 81 _ _ rfl X.out (by rfl) (by rfl) rfl (by kernel_rfl) (by simp [Value.oneCell']) ?_; intro u9 X9 st9)
      have B9 := st9.below w.heap.size w (Nat.le_refl _) BB.out
      exact bodyPost_ret (v := .tuple #[.string ⟨#[]⟩, .agg #[.slice none 0 0, .int .i64 k, .int .i64 3]]) (box_result_tc (p := 9) (q := 8) rfl _ _ (by rfl) X9 Tryd.underlying81 rfl (by kernel_rfl)) rfl (sp_err HE.out B9)
end Go.Proofs.YtkbblhioncecmaaDoor

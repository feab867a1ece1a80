/- The document's printer of advanced forms. -/
import Derived.Test.YtkbblhioncecmaaDoorNwQ
import Derived.Test.YtkbblhioncecmaaDoorNuA
namespace Go.Proofs.YtkbblhioncecmaaDoor
open Go.RowKit
set_option linter.unusedSimpArgs false
set_option linter.unusedVariables false

theorem sl_byte2 {w : World} {a : Option Addr} {n c : Nat} {l : List UInt8} (h : Sl w a n c l) {k : Nat} (hk : k < n) : ∃ b o, a = some ⟨b, o, none⟩ ∧ w.cell? ⟨b, o + k, none⟩ = some (.int .u8 ((l.getD k 0).toNat : Int)) := by
  rcases h.2.2.2.2 with h0 | ⟨b, o, e, hc⟩
  · omega
  · exact ⟨b, o, e, hc k hk⟩
theorem take_getD (l : List UInt8) (k : Nat) (h : k < l.length) : l.take (k + 1) = l.take k ++ [l.getD k 0] := by
  rw [List.take_succ_eq_append_getElem h, List.getD_eq_getElem?_getD, List.getElem?_eq_getElem h]
  rfl
theorem any_not (l : List UInt8) (f : UInt8 → Bool) : (l.all f) = !l.any (fun c => !f c) := by
  induction l with
  | nil => rfl
  | cons c r ih => rw [List.all_cons, List.any_cons, ih]; cases f c <;> simp
/-- the document's two tests -/
def tokR (l : List UInt8) : Bool := (decide (0 < l.length) && !numB (l.getD 0 0)) && l.all signB
def clrR (l : List UInt8) : Bool := l.all (fun c => !seenB c)
theorem tokR_eq (l : List UInt8) : tokR l = tokB l := by unfold tokR tokB; rw [any_not, Bool.and_assoc]
theorem clrR_eq (l : List UInt8) : clrR l = !l.any seenB := by unfold clrR; rw [any_not]; simp
theorem str_sand (c : UInt8) (l : List UInt8) : (⟨([c] ++ l ++ [c]).toArray⟩ : ByteArray) = (⟨#[c]⟩ ++ ⟨l.toArray⟩) ++ ⟨#[c]⟩ := by
  apply ByteArray.ext
  simp [ByteArray.data_append]
theorem own_one (w : World) (c : UInt8) : OwnB (w.alloc (.cells #[.int .u8 (c.toNat : Int)] 5)) w.heap.size (.slice (some ⟨w.heap.size, 0, none⟩) 1 1) [c] :=
  OwnG.made (w := w.alloc (.cells #[.int .u8 (c.toNat : Int)] 5)) rfl (Nat.le_refl _) (by simp) (Nat.le_refl _) (by unfold maxLen; omega) (fun j hj => by
    obtain rfl : j = 0 := by omega
    have hX := Box.new w 5 #[.int .u8 (c.toNat : Int)]
    exact ⟨by rw [hX.cell 0 rfl]; rfl, hX.frozen 0⟩) (fun j u hu => by
    have hX := Box.new w 5 #[.int .u8 (c.toNat : Int)]
    cases j with
    | zero => exact hX.cell 0 (by simpa [Lib.byteCells] using hu)
    | succ j => simp [Lib.byteCells] at hu)
set_option maxHeartbeats 32000000 in
set_option maxRecDepth 100000 in
theorem rbytes_any (a : Option Addr) (n c : Nat) (l : List UInt8) (w : World) (hs : Sl w a n c l) (hn : n ≤ 1000000) : Calls Tryd.prog 38 #[.slice a n c] w (fun e w' => e = .returned (.string ⟨(plainL l).toArray⟩) ∧ Below w.heap.size w w') := by
  have HS := Lib.hid hs
  have HNL := Lib.hid hs.1
  clear hs
  by_cases h0 : n = 0
  case pos =>
    have h0' : ¬ (0 : Int) < (n : Int) := by omega
    have HT0 : Hid ((decide (0 < l.length) && !numB (l.getD 0 0)) = false) := Lib.hid (by have := HNL.out; simp; omega)
    clear h0
    go_enter Tryd.func38, Tryd.ntmps38
    go_wp2_with fail
    go_loopw [3, 4, 20] (fun tk cl i wr => ∃ (k : Nat) (tv cv : Bool), k ≤ n ∧ i = .int .i64 k ∧ tk = .bool tv ∧ cl = .bool cv ∧ Hid (tv = (false && (l.take k).all signB)) ∧ Hid (cv = (l.take k).all (fun c => !seenB c)) ∧ wr = w) (fun _ _ i _ => n - (intOf i).toNat)
    case atStart => exact ⟨0, false, true, Nat.zero_le _, rfl, rfl, rfl, Lib.hid rfl, Lib.hid rfl, rfl⟩
    case round =>
      obtain ⟨k, tv, cv, hk, rfl, rfl, rfl, HTK, HCK, h0⟩ := hrel
      obtain rfl := h0.symm
      by_cases hlt : k < n
      case pos => omega
      have hk1 : ¬ (k : Int) < (n : Int) := by omega
      have hte : l.take k = l := List.take_of_length_le (by have := HNL.out; omega)
      have HTB : Hid (tokB l = tv) := Lib.hid (by rw [HTK.out, hte, ← tokR_eq]; unfold tokR; rw [HT0.out])
      have HSB : Hid (l.any seenB = !cv) := Lib.hid (by rw [HCK.out, hte]; have := clrR_eq l; unfold clrR at this; rw [this]; simp)
      have HTV : tv = false := HTK.out
      have HCV : cv = true := by rw [HCK.out, hte, List.eq_nil_of_length_eq_zero (by have := HNL.out; omega : l.length = 0)]; rfl
      clear HTK HCK hte HT0
      obtain rfl : tv = false := HTV
      obtain rfl : cv = true := HCV
      have HPL : Hid (plainL l = quoteL l) := Lib.hid (by unfold plainL; rw [if_neg (by rw [HTB.out]; simp), if_neg (by rw [HSB.out]; simp)])
      have O0 := Lib.hid (own_one w 34)
      have B0 : Below w.heap.size w (w.alloc (.cells #[.int .u8 34] 5)) := (Below.refl _ _).alloc (Nat.le_refl _) _
      go_upto_region 13 with fail
      change Code.wp _ _ _ _ (w.alloc (.cells #[.int .u8 34] 5))
      replace O0 : Hid (OwnB (w.alloc (.cells #[.int .u8 34] 5)) w.heap.size (.slice (some ⟨w.heap.size, 0, none⟩) 1 1) [34]) := O0
      generalize (w.alloc (.cells #[.int .u8 34] 5)) = v0 at *
      go_wp2_with fail
      go_loopw [6, 54] (fun vo i wq => ∃ k : Nat, k ≤ n ∧ i = .int .i64 k ∧ Hid (OwnB wq w.heap.size vo ([34] ++ (l.take k).flatMap quoteC)) ∧ Below w.heap.size w wq) (fun _ i _ => n - (intOf i).toNat)
      case atStart => exact ⟨0, Nat.zero_le _, rfl, by simpa using O0, B0⟩
      case round =>
        obtain ⟨k, hk, rfl, O, B⟩ := hrel
        clear O0 B0
        have HQL := Lib.hid (quote_len (l.take k))
        have HTL : Hid ((l.take k).length ≤ 1000000) := Lib.hid (by simp; have := HNL.out; omega)
        by_cases hlt : k < n
        · omega
        · have hk1 : ¬ (k : Int) < (n : Int) := by omega
          rw [show l.take k = l from List.take_of_length_le (by have := HNL.out; omega)] at O HQL HTL
          obtain ⟨d, hd⟩ : ∃ d, d = [34] ++ l.flatMap quoteC := ⟨_, rfl⟩
          have hdl : d.length ≤ 2000002 := by rw [hd]; have := HQL.out; have := HTL.out; simp only [List.length_append, List.length_cons, List.length_nil]; omega
          have HPD : Hid (plainL l = d ++ [34]) := Lib.hid (by rw [HPL.out, hd]; simp [quoteL])
          rw [← hd] at O
          clear hd
          go_wp2_with (refine wpList_append_B rfl _ _ rfl (l := d) rfl (OwnG.alloc O.out _) (l2 := [34]) rfl (sl_cell1 _ 34 _ rfl) (by simp; omega) (by have := B.size; simp; omega) ?_; intro v5 w5 ho5 hg5; obtain ⟨a5, n5, c5, rfl, sl5, _⟩ := OwnB.parts ho5; have q5 := conv_sl sl5)
          have B5 := (B.alloc B.size _).grown hg5 (by have := B.size; simp; omega) (fun j hj => (O.out.lt j hj).1)
          clear O B hg5 ho5 sl5
          go_wp2_with fail
          go_ret
          exact ⟨by rw [HPD.out]; rfl, B5⟩
  have h0' : (0 : Int) < (n : Int) := by omega
  have hlt0 : 0 < n := by omega
  obtain ⟨bz, oz, ez, hz⟩ := sl_byte2 HS.out hlt0
  obtain ⟨x0, hx0⟩ : ∃ x, x = l.getD 0 0 := ⟨_, rfl⟩
  rw [← hx0] at hz
  have HT1 : Hid ((decide (0 < l.length) && !numB (l.getD 0 0)) = !numB x0) := Lib.hid (by rw [← hx0, show decide (0 < l.length) = true by have := HNL.out; simp; omega]; rfl)
  replace hz : w.cell? ⟨bz, oz, none⟩ = some (.int .u8 (x0.toNat : Int)) := hz
  clear h0 hx0
  have a' := a
  cases hnu : numB x0 with
  | true =>
    have HT0 : Hid ((decide (0 < l.length) && !numB (l.getD 0 0)) = false) := Lib.hid (by rw [HT1.out, hnu]; rfl)
    have HNU := Lib.hid hnu
    subst ez
    clear HT1 hnu a'
    go_enter Tryd.func38, Tryd.ntmps38
    go_wp2_with fail
    refine (rnumber_any x0 _).mono ?_
    unfold BitP
    rintro e wn ⟨rfl, h0⟩
    obtain rfl := h0.symm
    rw [HNU.out]
    clear hz
    go_wp2_with fail
    go_loopw [3, 4, 20] (fun tk cl i wr => ∃ (k : Nat) (tv cv : Bool), k ≤ n ∧ i = .int .i64 k ∧ tk = .bool tv ∧ cl = .bool cv ∧ Hid (tv = (false && (l.take k).all signB)) ∧ Hid (cv = (l.take k).all (fun c => !seenB c)) ∧ wr = w) (fun _ _ i _ => n - (intOf i).toNat)
    case atStart => exact ⟨0, false, true, Nat.zero_le _, rfl, rfl, rfl, Lib.hid rfl, Lib.hid rfl, rfl⟩
    case round =>
      obtain ⟨k, tv, cv, hk, rfl, rfl, rfl, HTK, HCK, h0⟩ := hrel
      obtain rfl := h0.symm
      by_cases hlt : k < n
      case pos =>
        have hk0 : (0 : Int) ≤ (k : Int) := by omega
        have hk1 : (k : Int) < (n : Int) := by omega
        obtain ⟨bq, oq, ez, hcell⟩ := sl_byte2 HS.out hlt
        cases ez
        obtain ⟨x, hx⟩ : ∃ x, x = l.getD k 0 := ⟨_, rfl⟩
        rw [← hx] at hcell
        have HX := Lib.hid hx
        clear hx
        cases tv with
        | false =>
          have HSG : (false && [x].all signB) = false := rfl
          cases cv with
          | false =>
            have HSN : (false && [x].all (fun c => !seenB c)) = false := rfl
            go_wp2_with fail
            go_roundw
            case rel => exact ⟨k + 1, false, false, by omega, by go_num, by first | rfl | (simp; done) | (simp; omega), by first | rfl | (simp; done) | (simp; omega), Lib.hid (by rw [take_getD l k (by have := HNL.out; omega), List.all_append, ← Bool.and_assoc, ← HTK.out, ← HX.out]; exact HSG.symm), Lib.hid (by rw [take_getD l k (by have := HNL.out; omega), List.all_append, ← HCK.out, ← HX.out]; exact HSN.symm), trivial⟩
            case measure => simp [intOf]; omega
          | true =>
            by_cases hc1 : x.toNat < 32
            case pos =>
              have HSN : (true && [x].all (fun c => !seenB c)) = false := by unfold seenB; simp; omega
              have h1 : ¬ (32 : Int) ≤ (x.toNat : Int) := by omega
              clear hc1
              go_wp2_with fail
              go_roundw
              case rel => exact ⟨k + 1, false, false, by omega, by go_num, by first | rfl | (simp; done) | (simp; omega), by first | rfl | (simp; done) | (simp; omega), Lib.hid (by rw [take_getD l k (by have := HNL.out; omega), List.all_append, ← Bool.and_assoc, ← HTK.out, ← HX.out]; exact HSG.symm), Lib.hid (by rw [take_getD l k (by have := HNL.out; omega), List.all_append, ← HCK.out, ← HX.out]; exact HSN.symm), trivial⟩
              case measure => simp [intOf]; omega
            by_cases hc2 : 126 < x.toNat
            case pos =>
              have HSN : (true && [x].all (fun c => !seenB c)) = false := by unfold seenB; simp; omega
              have h1 : (32 : Int) ≤ (x.toNat : Int) := by omega
              have h2 : ¬ (x.toNat : Int) ≤ 126 := by omega
              clear hc1 hc2
              go_wp2_with fail
              go_roundw
              case rel => exact ⟨k + 1, false, false, by omega, by go_num, by first | rfl | (simp; done) | (simp; omega), by first | rfl | (simp; done) | (simp; omega), Lib.hid (by rw [take_getD l k (by have := HNL.out; omega), List.all_append, ← Bool.and_assoc, ← HTK.out, ← HX.out]; exact HSG.symm), Lib.hid (by rw [take_getD l k (by have := HNL.out; omega), List.all_append, ← HCK.out, ← HX.out]; exact HSN.symm), trivial⟩
              case measure => simp [intOf]; omega
            have HSN : (true && [x].all (fun c => !seenB c)) = true := by unfold seenB; simp; omega
            have h1 : (32 : Int) ≤ (x.toNat : Int) := by omega
            have h2 : (x.toNat : Int) ≤ 126 := by omega
            clear hc1 hc2
            go_wp2_with fail
            go_roundw
            case rel => exact ⟨k + 1, false, true, by omega, by go_num, by first | rfl | (simp; done) | (simp; omega), by first | rfl | (simp; done) | (simp; omega), Lib.hid (by rw [take_getD l k (by have := HNL.out; omega), List.all_append, ← Bool.and_assoc, ← HTK.out, ← HX.out]; exact HSG.symm), Lib.hid (by rw [take_getD l k (by have := HNL.out; omega), List.all_append, ← HCK.out, ← HX.out]; exact HSN.symm), trivial⟩
            case measure => simp [intOf]; omega
        | true => exact absurd HTK.out (by simp)
      have hk1 : ¬ (k : Int) < (n : Int) := by omega
      have hte : l.take k = l := List.take_of_length_le (by have := HNL.out; omega)
      have HTB : Hid (tokB l = tv) := Lib.hid (by rw [HTK.out, hte, ← tokR_eq]; unfold tokR; rw [HT0.out])
      have HSB : Hid (l.any seenB = !cv) := Lib.hid (by rw [HCK.out, hte]; have := clrR_eq l; unfold clrR at this; rw [this]; simp)
      clear HTK HCK hte HT0
      cases tv with
      | true =>
        have HPL : Hid (plainL l = l) := Lib.hid (by unfold plainL; rw [if_pos HTB.out])
        have q1 := conv_sl HS.out
        clear HTB HSB
        go_wp2_with fail
        go_ret
        exact ⟨by rw [HPL.out]; rfl, Below.refl _ _⟩
      | false =>
        cases cv with
        | true =>
          have HPL : Hid (plainL l = quoteL l) := Lib.hid (by unfold plainL; rw [if_neg (by rw [HTB.out]; simp), if_neg (by rw [HSB.out]; simp)])
          have O0 := Lib.hid (own_one w 34)
          have B0 : Below w.heap.size w (w.alloc (.cells #[.int .u8 34] 5)) := (Below.refl _ _).alloc (Nat.le_refl _) _
          go_upto_region 13 with fail
          change Code.wp _ _ _ _ (w.alloc (.cells #[.int .u8 34] 5))
          replace O0 : Hid (OwnB (w.alloc (.cells #[.int .u8 34] 5)) w.heap.size (.slice (some ⟨w.heap.size, 0, none⟩) 1 1) [34]) := O0
          generalize (w.alloc (.cells #[.int .u8 34] 5)) = v0 at *
          go_wp2_with fail
          go_loopw [6, 54] (fun vo i wq => ∃ k : Nat, k ≤ n ∧ i = .int .i64 k ∧ Hid (OwnB wq w.heap.size vo ([34] ++ (l.take k).flatMap quoteC)) ∧ Below w.heap.size w wq) (fun _ i _ => n - (intOf i).toNat)
          case atStart => exact ⟨0, Nat.zero_le _, rfl, by simpa using O0, B0⟩
          case round =>
            obtain ⟨k, hk, rfl, O, B⟩ := hrel
            clear O0 B0
            have HQL := Lib.hid (quote_len (l.take k))
            have HTL : Hid ((l.take k).length ≤ 1000000) := Lib.hid (by simp; have := HNL.out; omega)
            by_cases hlt : k < n
            · have hk0 : (0 : Int) ≤ (k : Int) := by omega
              have hk1 : (k : Int) < (n : Int) := by omega
              obtain ⟨bq, oq, ez, hcell⟩ := sl_byte2 (HS.out.after B) hlt
              cases ez
              obtain ⟨x, hx⟩ : ∃ x, x = l.getD k 0 := ⟨_, rfl⟩
              have HX := Lib.hid hx
              rw [← hx] at hcell
              have hTN : Hid ([34] ++ (l.take (k + 1)).flatMap quoteC = [34] ++ (l.take k).flatMap quoteC ++ quoteC x) := Lib.hid (by rw [take_getD l k (by have := HNL.out; omega), ← hx]; simp)
              obtain ⟨d, hd⟩ : ∃ d, d = [34] ++ (l.take k).flatMap quoteC := ⟨_, rfl⟩
              have hdl : d.length ≤ 2000002 := by rw [hd]; have := HQL.out; have := HTL.out; simp only [List.length_append, List.length_cons, List.length_nil]; omega
              rw [← hd] at O hTN
              clear hx hd
              by_cases h34 : x.toNat = 34
              case pos =>
                obtain ⟨z1, z2, z3⟩ := bEq 34 34 rfl h34
                have HQ : Hid (quoteC x = [92, x]) := Lib.hid (if_pos (.inl (UInt8.toNat_inj.1 h34)))
                clear h34 z3
                go_upto_region 18 with (refine wpList_append_B rfl _ _ rfl (l := d) rfl (OwnG.alloc O.out _) (l2 := [92]) rfl (sl_cell1 _ 92 _ rfl) (by simp; omega) (by have := B.size; simp; omega) ?_; intro v5 w5 ho5 hg5)
                have B5 := (B.alloc B.size _).grown hg5 (by have := B.size; simp; omega) (fun j hj => (O.out.lt j hj).1)
                have O5 := Lib.hid ho5
                clear ho5 hg5 O B
                obtain ⟨b', o', e', hcy⟩ := sl_byte2 (HS.out.after B5) hlt
                cases e'
                rw [← HX.out] at hcy
                clear hcell
                have O6 := O5
                have B6 := B5
                clear O5 B5
                go_wp2_with (refine wpList_append_B rfl _ _ rfl (l := d ++ [92]) rfl (OwnG.alloc O6.out _) (l2 := [x]) rfl (sl_cell1 _ x _ rfl) (by simp; omega) (by have := B6.size; simp; omega) ?_; intro v5 w5 ho5 hg5)
                have B5 := (B6.alloc B6.size _).grown hg5 (by have := B6.size; simp; omega) (fun j hj => (O6.out.lt j hj).1)
                have O5 := Lib.hid ho5
                clear ho5 hg5 O6 B6
                rw [show d ++ [92] ++ [x] = d ++ [92, x] by simp] at O5
                rw [← HQ.out, ← hTN.out] at O5
                go_wp2_with fail
                go_roundw
                case rel => exact ⟨k + 1, by omega, by go_num, O5, B5⟩
                case measure => simp [intOf]; omega
              obtain ⟨z1, z2, z3⟩ := bNe 34 34 rfl h34
              by_cases h92 : x.toNat = 92
              case pos =>
                obtain ⟨y1, y2, y3⟩ := bEq 92 92 rfl h92
                have HQ : Hid (quoteC x = [92, x]) := Lib.hid (if_pos (.inr (UInt8.toNat_inj.1 h92)))
                clear h34 h92 z3 y3
                go_upto_region 18 with (refine wpList_append_B rfl _ _ rfl (l := d) rfl (OwnG.alloc O.out _) (l2 := [92]) rfl (sl_cell1 _ 92 _ rfl) (by simp; omega) (by have := B.size; simp; omega) ?_; intro v5 w5 ho5 hg5)
                have B5 := (B.alloc B.size _).grown hg5 (by have := B.size; simp; omega) (fun j hj => (O.out.lt j hj).1)
                have O5 := Lib.hid ho5
                clear ho5 hg5 O B
                obtain ⟨b', o', e', hcy⟩ := sl_byte2 (HS.out.after B5) hlt
                cases e'
                rw [← HX.out] at hcy
                clear hcell
                have O6 := O5
                have B6 := B5
                clear O5 B5
                go_wp2_with (refine wpList_append_B rfl _ _ rfl (l := d ++ [92]) rfl (OwnG.alloc O6.out _) (l2 := [x]) rfl (sl_cell1 _ x _ rfl) (by simp; omega) (by have := B6.size; simp; omega) ?_; intro v5 w5 ho5 hg5)
                have B5 := (B6.alloc B6.size _).grown hg5 (by have := B6.size; simp; omega) (fun j hj => (O6.out.lt j hj).1)
                have O5 := Lib.hid ho5
                clear ho5 hg5 O6 B6
                rw [show d ++ [92] ++ [x] = d ++ [92, x] by simp] at O5
                rw [← HQ.out, ← hTN.out] at O5
                go_wp2_with fail
                go_roundw
                case rel => exact ⟨k + 1, by omega, by go_num, O5, B5⟩
                case measure => simp [intOf]; omega
              obtain ⟨y1, y2, y3⟩ := bNe 92 92 rfl h92
              have HQ : Hid (quoteC x = [x]) := Lib.hid (if_neg (fun h => h.elim (fun e => h34 (by rw [e]; rfl)) (fun e => h92 (by rw [e]; rfl))))
              clear h34 h92 z3 y3
              go_wp2_with (refine wpList_append_B rfl _ _ rfl (l := d) rfl (OwnG.alloc O.out _) (l2 := [x]) rfl (sl_cell1 _ x _ rfl) (by simp; omega) (by have := B.size; simp; omega) ?_; intro v5 w5 ho5 hg5)
              have B5 := (B.alloc B.size _).grown hg5 (by have := B.size; simp; omega) (fun j hj => (O.out.lt j hj).1)
              have O5 := Lib.hid ho5
              clear ho5 hg5 O B
              rw [← HQ.out, ← hTN.out] at O5
              go_wp2_with fail
              go_roundw
              case rel => exact ⟨k + 1, by omega, by go_num, O5, B5⟩
              case measure => simp [intOf]; omega
            · have hk1 : ¬ (k : Int) < (n : Int) := by omega
              rw [show l.take k = l from List.take_of_length_le (by have := HNL.out; omega)] at O HQL HTL
              obtain ⟨d, hd⟩ : ∃ d, d = [34] ++ l.flatMap quoteC := ⟨_, rfl⟩
              have hdl : d.length ≤ 2000002 := by rw [hd]; have := HQL.out; have := HTL.out; simp only [List.length_append, List.length_cons, List.length_nil]; omega
              have HPD : Hid (plainL l = d ++ [34]) := Lib.hid (by rw [HPL.out, hd]; simp [quoteL])
              rw [← hd] at O
              clear hd
              go_wp2_with (refine wpList_append_B rfl _ _ rfl (l := d) rfl (OwnG.alloc O.out _) (l2 := [34]) rfl (sl_cell1 _ 34 _ rfl) (by simp; omega) (by have := B.size; simp; omega) ?_; intro v5 w5 ho5 hg5; obtain ⟨a5, n5, c5, rfl, sl5, _⟩ := OwnB.parts ho5; have q5 := conv_sl sl5)
              have B5 := (B.alloc B.size _).grown hg5 (by have := B.size; simp; omega) (fun j hj => (O.out.lt j hj).1)
              clear O B hg5 ho5 sl5
              go_wp2_with fail
              go_ret
              exact ⟨by rw [HPD.out]; rfl, B5⟩
        | false =>
          by_cases h16 : n ≤ 16
          · have h16' : (n : Int) ≤ 16 := by omega
            have HPL : Hid (plainL l = [35] ++ hexL l ++ [35]) := Lib.hid (by unfold plainL; rw [if_neg (by rw [HTB.out]; simp), if_pos (show l.any seenB = true by have := HSB.out; simpa using this), if_pos (by have := HNL.out; omega)])
            have hxl : (hexL l).length ≤ 3000000 := by have := hexL_len l; have := HNL.out; omega
            go_wp2_with fail
            refine (refHex_any _ n c l _ HS.out (by have := HNL.out; omega)).mono ?_
            rintro e w1 ⟨rfl, b1⟩
            go_wp2_with fail
            go_ret
            exact ⟨by rw [HPL.out, str_sand]; rfl, b1⟩
          · have h16' : ¬ (n : Int) ≤ 16 := by omega
            have HPL : Hid (plainL l = [124] ++ b64 l ++ [124]) := Lib.hid (by unfold plainL; rw [if_neg (by rw [HTB.out]; simp), if_pos (show l.any seenB = true by have := HSB.out; simpa using this), if_neg (by have := HNL.out; omega)])
            have hxl : (b64 l).length ≤ 3000000 := by have := b64_len l; have := HNL.out; omega
            go_wp2_with fail
            refine (refB64_any _ n c l _ HS.out (by have := HNL.out; omega)).mono ?_
            rintro e w1 ⟨rfl, b1⟩
            go_wp2_with fail
            go_ret
            exact ⟨by rw [HPL.out, str_sand]; rfl, b1⟩
  | false =>
    have HT0 : Hid ((decide (0 < l.length) && !numB (l.getD 0 0)) = true) := Lib.hid (by rw [HT1.out, hnu]; rfl)
    have HNU := Lib.hid hnu
    subst ez
    clear HT1 hnu a'
    go_enter Tryd.func38, Tryd.ntmps38
    go_wp2_with fail
    refine (rnumber_any x0 _).mono ?_
    unfold BitP
    rintro e wn ⟨rfl, h0⟩
    obtain rfl := h0.symm
    rw [HNU.out]
    clear hz
    go_wp2_with fail
    go_loopw [3, 4, 20] (fun tk cl i wr => ∃ (k : Nat) (tv cv : Bool), k ≤ n ∧ i = .int .i64 k ∧ tk = .bool tv ∧ cl = .bool cv ∧ Hid (tv = (true && (l.take k).all signB)) ∧ Hid (cv = (l.take k).all (fun c => !seenB c)) ∧ wr = w) (fun _ _ i _ => n - (intOf i).toNat)
    case atStart => exact ⟨0, true, true, Nat.zero_le _, rfl, rfl, rfl, Lib.hid rfl, Lib.hid rfl, rfl⟩
    case round =>
      obtain ⟨k, tv, cv, hk, rfl, rfl, rfl, HTK, HCK, h0⟩ := hrel
      obtain rfl := h0.symm
      by_cases hlt : k < n
      case pos =>
        have hk0 : (0 : Int) ≤ (k : Int) := by omega
        have hk1 : (k : Int) < (n : Int) := by omega
        obtain ⟨bq, oq, ez, hcell⟩ := sl_byte2 HS.out hlt
        cases ez
        obtain ⟨x, hx⟩ : ∃ x, x = l.getD k 0 := ⟨_, rfl⟩
        rw [← hx] at hcell
        have HX := Lib.hid hx
        clear hx
        cases tv with
        | false =>
          have HSG : (false && [x].all signB) = false := rfl
          cases cv with
          | false =>
            have HSN : (false && [x].all (fun c => !seenB c)) = false := rfl
            go_wp2_with fail
            go_roundw
            case rel => exact ⟨k + 1, false, false, by omega, by go_num, by first | rfl | (simp; done) | (simp; omega), by first | rfl | (simp; done) | (simp; omega), Lib.hid (by rw [take_getD l k (by have := HNL.out; omega), List.all_append, ← Bool.and_assoc, ← HTK.out, ← HX.out]; exact HSG.symm), Lib.hid (by rw [take_getD l k (by have := HNL.out; omega), List.all_append, ← HCK.out, ← HX.out]; exact HSN.symm), trivial⟩
            case measure => simp [intOf]; omega
          | true =>
            by_cases hc1 : x.toNat < 32
            case pos =>
              have HSN : (true && [x].all (fun c => !seenB c)) = false := by unfold seenB; simp; omega
              have h1 : ¬ (32 : Int) ≤ (x.toNat : Int) := by omega
              clear hc1
              go_wp2_with fail
              go_roundw
              case rel => exact ⟨k + 1, false, false, by omega, by go_num, by first | rfl | (simp; done) | (simp; omega), by first | rfl | (simp; done) | (simp; omega), Lib.hid (by rw [take_getD l k (by have := HNL.out; omega), List.all_append, ← Bool.and_assoc, ← HTK.out, ← HX.out]; exact HSG.symm), Lib.hid (by rw [take_getD l k (by have := HNL.out; omega), List.all_append, ← HCK.out, ← HX.out]; exact HSN.symm), trivial⟩
              case measure => simp [intOf]; omega
            by_cases hc2 : 126 < x.toNat
            case pos =>
              have HSN : (true && [x].all (fun c => !seenB c)) = false := by unfold seenB; simp; omega
              have h1 : (32 : Int) ≤ (x.toNat : Int) := by omega
              have h2 : ¬ (x.toNat : Int) ≤ 126 := by omega
              clear hc1 hc2
              go_wp2_with fail
              go_roundw
              case rel => exact ⟨k + 1, false, false, by omega, by go_num, by first | rfl | (simp; done) | (simp; omega), by first | rfl | (simp; done) | (simp; omega), Lib.hid (by rw [take_getD l k (by have := HNL.out; omega), List.all_append, ← Bool.and_assoc, ← HTK.out, ← HX.out]; exact HSG.symm), Lib.hid (by rw [take_getD l k (by have := HNL.out; omega), List.all_append, ← HCK.out, ← HX.out]; exact HSN.symm), trivial⟩
              case measure => simp [intOf]; omega
            have HSN : (true && [x].all (fun c => !seenB c)) = true := by unfold seenB; simp; omega
            have h1 : (32 : Int) ≤ (x.toNat : Int) := by omega
            have h2 : (x.toNat : Int) ≤ 126 := by omega
            clear hc1 hc2
            go_wp2_with fail
            go_roundw
            case rel => exact ⟨k + 1, false, true, by omega, by go_num, by first | rfl | (simp; done) | (simp; omega), by first | rfl | (simp; done) | (simp; omega), Lib.hid (by rw [take_getD l k (by have := HNL.out; omega), List.all_append, ← Bool.and_assoc, ← HTK.out, ← HX.out]; exact HSG.symm), Lib.hid (by rw [take_getD l k (by have := HNL.out; omega), List.all_append, ← HCK.out, ← HX.out]; exact HSN.symm), trivial⟩
            case measure => simp [intOf]; omega
        | true =>
          cases hsx : signB x with
          | false =>
            have HSX := Lib.hid hsx
            have HSG : (true && [x].all signB) = false := by simp [hsx]
            clear hsx
            cases cv with
            | false =>
              have HSN : (false && [x].all (fun c => !seenB c)) = false := rfl
              go_wp2_with fail
              refine (rsign_any x _).mono ?_
              unfold BitP
              rintro e w1 ⟨rfl, h0⟩
              obtain rfl := h0.symm
              rw [HSX.out]
              go_wp2_with fail
              go_roundw
              case rel => exact ⟨k + 1, false, false, by omega, by go_num, by first | rfl | (simp; done) | (simp; omega), by first | rfl | (simp; done) | (simp; omega), Lib.hid (by rw [take_getD l k (by have := HNL.out; omega), List.all_append, ← Bool.and_assoc, ← HTK.out, ← HX.out]; exact HSG.symm), Lib.hid (by rw [take_getD l k (by have := HNL.out; omega), List.all_append, ← HCK.out, ← HX.out]; exact HSN.symm), trivial⟩
              case measure => simp [intOf]; omega
            | true =>
              by_cases hc1 : x.toNat < 32
              case pos =>
                have HSN : (true && [x].all (fun c => !seenB c)) = false := by unfold seenB; simp; omega
                have h1 : ¬ (32 : Int) ≤ (x.toNat : Int) := by omega
                clear hc1
                go_wp2_with fail
                refine (rsign_any x _).mono ?_
                unfold BitP
                rintro e w1 ⟨rfl, h0⟩
                obtain rfl := h0.symm
                rw [HSX.out]
                go_wp2_with fail
                go_roundw
                case rel => exact ⟨k + 1, false, false, by omega, by go_num, by first | rfl | (simp; done) | (simp; omega), by first | rfl | (simp; done) | (simp; omega), Lib.hid (by rw [take_getD l k (by have := HNL.out; omega), List.all_append, ← Bool.and_assoc, ← HTK.out, ← HX.out]; exact HSG.symm), Lib.hid (by rw [take_getD l k (by have := HNL.out; omega), List.all_append, ← HCK.out, ← HX.out]; exact HSN.symm), trivial⟩
                case measure => simp [intOf]; omega
              by_cases hc2 : 126 < x.toNat
              case pos =>
                have HSN : (true && [x].all (fun c => !seenB c)) = false := by unfold seenB; simp; omega
                have h1 : (32 : Int) ≤ (x.toNat : Int) := by omega
                have h2 : ¬ (x.toNat : Int) ≤ 126 := by omega
                clear hc1 hc2
                go_wp2_with fail
                refine (rsign_any x _).mono ?_
                unfold BitP
                rintro e w1 ⟨rfl, h0⟩
                obtain rfl := h0.symm
                rw [HSX.out]
                go_wp2_with fail
                go_roundw
                case rel => exact ⟨k + 1, false, false, by omega, by go_num, by first | rfl | (simp; done) | (simp; omega), by first | rfl | (simp; done) | (simp; omega), Lib.hid (by rw [take_getD l k (by have := HNL.out; omega), List.all_append, ← Bool.and_assoc, ← HTK.out, ← HX.out]; exact HSG.symm), Lib.hid (by rw [take_getD l k (by have := HNL.out; omega), List.all_append, ← HCK.out, ← HX.out]; exact HSN.symm), trivial⟩
                case measure => simp [intOf]; omega
              have HSN : (true && [x].all (fun c => !seenB c)) = true := by unfold seenB; simp; omega
              have h1 : (32 : Int) ≤ (x.toNat : Int) := by omega
              have h2 : (x.toNat : Int) ≤ 126 := by omega
              clear hc1 hc2
              go_wp2_with fail
              refine (rsign_any x _).mono ?_
              unfold BitP
              rintro e w1 ⟨rfl, h0⟩
              obtain rfl := h0.symm
              rw [HSX.out]
              go_wp2_with fail
              go_roundw
              case rel => exact ⟨k + 1, false, true, by omega, by go_num, by first | rfl | (simp; done) | (simp; omega), by first | rfl | (simp; done) | (simp; omega), Lib.hid (by rw [take_getD l k (by have := HNL.out; omega), List.all_append, ← Bool.and_assoc, ← HTK.out, ← HX.out]; exact HSG.symm), Lib.hid (by rw [take_getD l k (by have := HNL.out; omega), List.all_append, ← HCK.out, ← HX.out]; exact HSN.symm), trivial⟩
              case measure => simp [intOf]; omega
          | true =>
            have HSX := Lib.hid hsx
            have HSG : (true && [x].all signB) = true := by simp [hsx]
            clear hsx
            cases cv with
            | false =>
              have HSN : (false && [x].all (fun c => !seenB c)) = false := rfl
              go_wp2_with fail
              refine (rsign_any x _).mono ?_
              unfold BitP
              rintro e w1 ⟨rfl, h0⟩
              obtain rfl := h0.symm
              rw [HSX.out]
              go_wp2_with fail
              go_roundw
              case rel => exact ⟨k + 1, true, false, by omega, by go_num, by first | rfl | (simp; done) | (simp; omega), by first | rfl | (simp; done) | (simp; omega), Lib.hid (by rw [take_getD l k (by have := HNL.out; omega), List.all_append, ← Bool.and_assoc, ← HTK.out, ← HX.out]; exact HSG.symm), Lib.hid (by rw [take_getD l k (by have := HNL.out; omega), List.all_append, ← HCK.out, ← HX.out]; exact HSN.symm), trivial⟩
              case measure => simp [intOf]; omega
            | true =>
              by_cases hc1 : x.toNat < 32
              case pos =>
                have HSN : (true && [x].all (fun c => !seenB c)) = false := by unfold seenB; simp; omega
                have h1 : ¬ (32 : Int) ≤ (x.toNat : Int) := by omega
                clear hc1
                go_wp2_with fail
                refine (rsign_any x _).mono ?_
                unfold BitP
                rintro e w1 ⟨rfl, h0⟩
                obtain rfl := h0.symm
                rw [HSX.out]
                go_wp2_with fail
                go_roundw
                case rel => exact ⟨k + 1, true, false, by omega, by go_num, by first | rfl | (simp; done) | (simp; omega), by first | rfl | (simp; done) | (simp; omega), Lib.hid (by rw [take_getD l k (by have := HNL.out; omega), List.all_append, ← Bool.and_assoc, ← HTK.out, ← HX.out]; exact HSG.symm), Lib.hid (by rw [take_getD l k (by have := HNL.out; omega), List.all_append, ← HCK.out, ← HX.out]; exact HSN.symm), trivial⟩
                case measure => simp [intOf]; omega
              by_cases hc2 : 126 < x.toNat
              case pos =>
                have HSN : (true && [x].all (fun c => !seenB c)) = false := by unfold seenB; simp; omega
                have h1 : (32 : Int) ≤ (x.toNat : Int) := by omega
                have h2 : ¬ (x.toNat : Int) ≤ 126 := by omega
                clear hc1 hc2
                go_wp2_with fail
                refine (rsign_any x _).mono ?_
                unfold BitP
                rintro e w1 ⟨rfl, h0⟩
                obtain rfl := h0.symm
                rw [HSX.out]
                go_wp2_with fail
                go_roundw
                case rel => exact ⟨k + 1, true, false, by omega, by go_num, by first | rfl | (simp; done) | (simp; omega), by first | rfl | (simp; done) | (simp; omega), Lib.hid (by rw [take_getD l k (by have := HNL.out; omega), List.all_append, ← Bool.and_assoc, ← HTK.out, ← HX.out]; exact HSG.symm), Lib.hid (by rw [take_getD l k (by have := HNL.out; omega), List.all_append, ← HCK.out, ← HX.out]; exact HSN.symm), trivial⟩
                case measure => simp [intOf]; omega
              have HSN : (true && [x].all (fun c => !seenB c)) = true := by unfold seenB; simp; omega
              have h1 : (32 : Int) ≤ (x.toNat : Int) := by omega
              have h2 : (x.toNat : Int) ≤ 126 := by omega
              clear hc1 hc2
              go_wp2_with fail
              refine (rsign_any x _).mono ?_
              unfold BitP
              rintro e w1 ⟨rfl, h0⟩
              obtain rfl := h0.symm
              rw [HSX.out]
              go_wp2_with fail
              go_roundw
              case rel => exact ⟨k + 1, true, true, by omega, by go_num, by first | rfl | (simp; done) | (simp; omega), by first | rfl | (simp; done) | (simp; omega), Lib.hid (by rw [take_getD l k (by have := HNL.out; omega), List.all_append, ← Bool.and_assoc, ← HTK.out, ← HX.out]; exact HSG.symm), Lib.hid (by rw [take_getD l k (by have := HNL.out; omega), List.all_append, ← HCK.out, ← HX.out]; exact HSN.symm), trivial⟩
              case measure => simp [intOf]; omega
      have hk1 : ¬ (k : Int) < (n : Int) := by omega
      have hte : l.take k = l := List.take_of_length_le (by have := HNL.out; omega)
      have HTB : Hid (tokB l = tv) := Lib.hid (by rw [HTK.out, hte, ← tokR_eq]; unfold tokR; rw [HT0.out])
      have HSB : Hid (l.any seenB = !cv) := Lib.hid (by rw [HCK.out, hte]; have := clrR_eq l; unfold clrR at this; rw [this]; simp)
      clear HTK HCK hte HT0
      cases tv with
      | true =>
        have HPL : Hid (plainL l = l) := Lib.hid (by unfold plainL; rw [if_pos HTB.out])
        have q1 := conv_sl HS.out
        clear HTB HSB
        go_wp2_with fail
        go_ret
        exact ⟨by rw [HPL.out]; rfl, Below.refl _ _⟩
      | false =>
        cases cv with
        | true =>
          have HPL : Hid (plainL l = quoteL l) := Lib.hid (by unfold plainL; rw [if_neg (by rw [HTB.out]; simp), if_neg (by rw [HSB.out]; simp)])
          have O0 := Lib.hid (own_one w 34)
          have B0 : Below w.heap.size w (w.alloc (.cells #[.int .u8 34] 5)) := (Below.refl _ _).alloc (Nat.le_refl _) _
          go_upto_region 13 with fail
          change Code.wp _ _ _ _ (w.alloc (.cells #[.int .u8 34] 5))
          replace O0 : Hid (OwnB (w.alloc (.cells #[.int .u8 34] 5)) w.heap.size (.slice (some ⟨w.heap.size, 0, none⟩) 1 1) [34]) := O0
          generalize (w.alloc (.cells #[.int .u8 34] 5)) = v0 at *
          go_wp2_with fail
          go_loopw [6, 54] (fun vo i wq => ∃ k : Nat, k ≤ n ∧ i = .int .i64 k ∧ Hid (OwnB wq w.heap.size vo ([34] ++ (l.take k).flatMap quoteC)) ∧ Below w.heap.size w wq) (fun _ i _ => n - (intOf i).toNat)
          case atStart => exact ⟨0, Nat.zero_le _, rfl, by simpa using O0, B0⟩
          case round =>
            obtain ⟨k, hk, rfl, O, B⟩ := hrel
            clear O0 B0
            have HQL := Lib.hid (quote_len (l.take k))
            have HTL : Hid ((l.take k).length ≤ 1000000) := Lib.hid (by simp; have := HNL.out; omega)
            by_cases hlt : k < n
            · have hk0 : (0 : Int) ≤ (k : Int) := by omega
              have hk1 : (k : Int) < (n : Int) := by omega
              obtain ⟨bq, oq, ez, hcell⟩ := sl_byte2 (HS.out.after B) hlt
              cases ez
              obtain ⟨x, hx⟩ : ∃ x, x = l.getD k 0 := ⟨_, rfl⟩
              have HX := Lib.hid hx
              rw [← hx] at hcell
              have hTN : Hid ([34] ++ (l.take (k + 1)).flatMap quoteC = [34] ++ (l.take k).flatMap quoteC ++ quoteC x) := Lib.hid (by rw [take_getD l k (by have := HNL.out; omega), ← hx]; simp)
              obtain ⟨d, hd⟩ : ∃ d, d = [34] ++ (l.take k).flatMap quoteC := ⟨_, rfl⟩
              have hdl : d.length ≤ 2000002 := by rw [hd]; have := HQL.out; have := HTL.out; simp only [List.length_append, List.length_cons, List.length_nil]; omega
              rw [← hd] at O hTN
              clear hx hd
              by_cases h34 : x.toNat = 34
              case pos =>
                obtain ⟨z1, z2, z3⟩ := bEq 34 34 rfl h34
                have HQ : Hid (quoteC x = [92, x]) := Lib.hid (if_pos (.inl (UInt8.toNat_inj.1 h34)))
                clear h34 z3
                go_upto_region 18 with (refine wpList_append_B rfl _ _ rfl (l := d) rfl (OwnG.alloc O.out _) (l2 := [92]) rfl (sl_cell1 _ 92 _ rfl) (by simp; omega) (by have := B.size; simp; omega) ?_; intro v5 w5 ho5 hg5)
                have B5 := (B.alloc B.size _).grown hg5 (by have := B.size; simp; omega) (fun j hj => (O.out.lt j hj).1)
                have O5 := Lib.hid ho5
                clear ho5 hg5 O B
                obtain ⟨b', o', e', hcy⟩ := sl_byte2 (HS.out.after B5) hlt
                cases e'
                rw [← HX.out] at hcy
                clear hcell
                have O6 := O5
                have B6 := B5
                clear O5 B5
                go_wp2_with (refine wpList_append_B rfl _ _ rfl (l := d ++ [92]) rfl (OwnG.alloc O6.out _) (l2 := [x]) rfl (sl_cell1 _ x _ rfl) (by simp; omega) (by have := B6.size; simp; omega) ?_; intro v5 w5 ho5 hg5)
                have B5 := (B6.alloc B6.size _).grown hg5 (by have := B6.size; simp; omega) (fun j hj => (O6.out.lt j hj).1)
                have O5 := Lib.hid ho5
                clear ho5 hg5 O6 B6
                rw [show d ++ [92] ++ [x] = d ++ [92, x] by simp] at O5
                rw [← HQ.out, ← hTN.out] at O5
                go_wp2_with fail
                go_roundw
                case rel => exact ⟨k + 1, by omega, by go_num, O5, B5⟩
                case measure => simp [intOf]; omega
              obtain ⟨z1, z2, z3⟩ := bNe 34 34 rfl h34
              by_cases h92 : x.toNat = 92
              case pos =>
                obtain ⟨y1, y2, y3⟩ := bEq 92 92 rfl h92
                have HQ : Hid (quoteC x = [92, x]) := Lib.hid (if_pos (.inr (UInt8.toNat_inj.1 h92)))
                clear h34 h92 z3 y3
                go_upto_region 18 with (refine wpList_append_B rfl _ _ rfl (l := d) rfl (OwnG.alloc O.out _) (l2 := [92]) rfl (sl_cell1 _ 92 _ rfl) (by simp; omega) (by have := B.size; simp; omega) ?_; intro v5 w5 ho5 hg5)
                have B5 := (B.alloc B.size _).grown hg5 (by have := B.size; simp; omega) (fun j hj => (O.out.lt j hj).1)
                have O5 := Lib.hid ho5
                clear ho5 hg5 O B
                obtain ⟨b', o', e', hcy⟩ := sl_byte2 (HS.out.after B5) hlt
                cases e'
                rw [← HX.out] at hcy
                clear hcell
                have O6 := O5
                have B6 := B5
                clear O5 B5
                go_wp2_with (refine wpList_append_B rfl _ _ rfl (l := d ++ [92]) rfl (OwnG.alloc O6.out _) (l2 := [x]) rfl (sl_cell1 _ x _ rfl) (by simp; omega) (by have := B6.size; simp; omega) ?_; intro v5 w5 ho5 hg5)
                have B5 := (B6.alloc B6.size _).grown hg5 (by have := B6.size; simp; omega) (fun j hj => (O6.out.lt j hj).1)
                have O5 := Lib.hid ho5
                clear ho5 hg5 O6 B6
                rw [show d ++ [92] ++ [x] = d ++ [92, x] by simp] at O5
                rw [← HQ.out, ← hTN.out] at O5
                go_wp2_with fail
                go_roundw
                case rel => exact ⟨k + 1, by omega, by go_num, O5, B5⟩
                case measure => simp [intOf]; omega
              obtain ⟨y1, y2, y3⟩ := bNe 92 92 rfl h92
              have HQ : Hid (quoteC x = [x]) := Lib.hid (if_neg (fun h => h.elim (fun e => h34 (by rw [e]; rfl)) (fun e => h92 (by rw [e]; rfl))))
              clear h34 h92 z3 y3
              go_wp2_with (refine wpList_append_B rfl _ _ rfl (l := d) rfl (OwnG.alloc O.out _) (l2 := [x]) rfl (sl_cell1 _ x _ rfl) (by simp; omega) (by have := B.size; simp; omega) ?_; intro v5 w5 ho5 hg5)
              have B5 := (B.alloc B.size _).grown hg5 (by have := B.size; simp; omega) (fun j hj => (O.out.lt j hj).1)
              have O5 := Lib.hid ho5
              clear ho5 hg5 O B
              rw [← HQ.out, ← hTN.out] at O5
              go_wp2_with fail
              go_roundw
              case rel => exact ⟨k + 1, by omega, by go_num, O5, B5⟩
              case measure => simp [intOf]; omega
            · have hk1 : ¬ (k : Int) < (n : Int) := by omega
              rw [show l.take k = l from List.take_of_length_le (by have := HNL.out; omega)] at O HQL HTL
              obtain ⟨d, hd⟩ : ∃ d, d = [34] ++ l.flatMap quoteC := ⟨_, rfl⟩
              have hdl : d.length ≤ 2000002 := by rw [hd]; have := HQL.out; have := HTL.out; simp only [List.length_append, List.length_cons, List.length_nil]; omega
              have HPD : Hid (plainL l = d ++ [34]) := Lib.hid (by rw [HPL.out, hd]; simp [quoteL])
              rw [← hd] at O
              clear hd
              go_wp2_with (refine wpList_append_B rfl _ _ rfl (l := d) rfl (OwnG.alloc O.out _) (l2 := [34]) rfl (sl_cell1 _ 34 _ rfl) (by simp; omega) (by have := B.size; simp; omega) ?_; intro v5 w5 ho5 hg5; obtain ⟨a5, n5, c5, rfl, sl5, _⟩ := OwnB.parts ho5; have q5 := conv_sl sl5)
              have B5 := (B.alloc B.size _).grown hg5 (by have := B.size; simp; omega) (fun j hj => (O.out.lt j hj).1)
              clear O B hg5 ho5 sl5
              go_wp2_with fail
              go_ret
              exact ⟨by rw [HPD.out]; rfl, B5⟩
        | false =>
          by_cases h16 : n ≤ 16
          · have h16' : (n : Int) ≤ 16 := by omega
            have HPL : Hid (plainL l = [35] ++ hexL l ++ [35]) := Lib.hid (by unfold plainL; rw [if_neg (by rw [HTB.out]; simp), if_pos (show l.any seenB = true by have := HSB.out; simpa using this), if_pos (by have := HNL.out; omega)])
            have hxl : (hexL l).length ≤ 3000000 := by have := hexL_len l; have := HNL.out; omega
            go_wp2_with fail
            refine (refHex_any _ n c l _ HS.out (by have := HNL.out; omega)).mono ?_
            rintro e w1 ⟨rfl, b1⟩
            go_wp2_with fail
            go_ret
            exact ⟨by rw [HPL.out, str_sand]; rfl, b1⟩
          · have h16' : ¬ (n : Int) ≤ 16 := by omega
            have HPL : Hid (plainL l = [124] ++ b64 l ++ [124]) := Lib.hid (by unfold plainL; rw [if_neg (by rw [HTB.out]; simp), if_pos (show l.any seenB = true by have := HSB.out; simpa using this), if_neg (by have := HNL.out; omega)])
            have hxl : (b64 l).length ≤ 3000000 := by have := b64_len l; have := HNL.out; omega
            go_wp2_with fail
            refine (refB64_any _ n c l _ HS.out (by have := HNL.out; omega)).mono ?_
            rintro e w1 ⟨rfl, b1⟩
            go_wp2_with fail
            go_ret
            exact ⟨by rw [HPL.out, str_sand]; rfl, b1⟩
end Go.Proofs.YtkbblhioncecmaaDoor

/- Atom, List, and the document's example. -/
import Derived.Test.YtcflgoddfakepaaDoorSx9
namespace Go.Proofs.YtcflgoddfakepaaDoor
open Go.RowKit
set_option linter.unusedSimpArgs false
set_option linter.unusedVariables false

/-- a value is handed back that reads as a tree -/
def ValP (s : Sx) (w : World) (e : Ending) (w' : World) : Prop := ∃ v : SV, e = .returned v.val ∧ Rd w' v s ∧ Below w.heap.size w w'

theorem rd_atom {w : World} {a : Option Addr} {n c : Nat} {l : List UInt8} (h : Sl w a n c l) : Rd w ⟨false, false, none, 0, 0, a, n, c, none, 0, 0⟩ (.mk false false [] l []) :=
  .mk _ [] l [] (fun _ => SV.nil) (Sl.nil w) (.inl rfl) h (.inr fun _ _ _ _ => trivial) ⟨Nat.le_refl _, Nat.zero_le _, fun _ => rfl, .inl rfl⟩ (.inl rfl) rfl (fun i hi => by cases hi)

/-- the cells of a row, one behind the other -/
def newsK (K : Nat → SV) : Nat → List Value
  | 0 => []
  | n + 1 => newsK K n ++ (K n).cells.toList
theorem newsK_len (K : Nat → SV) (n : Nat) : (newsK K n).length = n * 5 := by
  induction n with
  | zero => rfl
  | succ n ih => simp only [newsK, List.length_append, ih]; rw [Array.length_toList, SV.cells_size]; omega
theorem newsK_at (K : Nat → SV) (n i j : Nat) (hi : i < n) (hj : j < 5) : (newsK K n)[i * 5 + j]? = (K i).cells[j]? := by
  induction n with
  | zero => omega
  | succ n ih =>
    simp only [newsK]
    by_cases h : i < n
    · rw [List.getElem?_append_left (by rw [newsK_len]; omega), ih h]
    · obtain rfl : i = n := by omega
      rw [List.getElem?_append_right (by rw [newsK_len]; omega), newsK_len, Nat.add_sub_cancel_left]
      simp
theorem newsK_congr {K K' : Nat → SV} {n : Nat} (h : ∀ i, i < n → K i = K' i) : newsK K n = newsK K' n := by
  induction n with
  | zero => rfl
  | succ n ih => simp only [newsK]; rw [ih (fun i hi => h i (by omega)), h n (by omega)]
theorem newsK_one (K : Nat → SV) (n : Nat) : ∀ u ∈ newsK K n, u.oneCell' = true := by
  induction n with
  | zero => intro u hu; cases hu
  | succ n ih =>
    intro u hu
    simp only [newsK, List.mem_append] at hu
    rcases hu with hu | hu
    · exact ih u hu
    · exact (Array.all_eq_true_iff_forall_mem.1 (SV.one (K n))) u (by simpa using hu)
theorem newsK_cells {w : World} {b o n c : Nat} {K : Nat → SV} (h : RowAt w (some ⟨b, o, none⟩) n c K) : ∀ j u, (newsK K n)[j]? = some u → w.cell? ((⟨b, o, none⟩ : Addr).add j) = some u := by
  intro j u hu
  have hlt : j < n * 5 := by rw [← newsK_len K n]; exact (List.getElem?_eq_some_iff.1 hu).1
  have e : j = j / 5 * 5 + j % 5 := by omega
  rw [e, newsK_at K n _ _ (by omega) (by omega)] at hu
  rw [Addr.add_mid]
  have := h.rangeA (i := j / 5) (by omega) (j % 5) u (by simpa using hu)
  rwa [show o + j / 5 * 5 + j % 5 = o + j by omega] at this
theorem OwnG.row {w : World} {B n : Nat} {v : Value} {K : Nat → SV} (h : OwnG w B 5 v n (newsK K n)) : ∃ a c, v = .slice a n c ∧ RowAt w a n c K ∧ InB (fun k => B ≤ k) a n := by
  rcases h.2 with ⟨rfl, rfl⟩ | ⟨g, o, cap, rfl, h3, h4, h5, h6, h7, h8⟩
  · exact ⟨none, 0, rfl, ⟨Nat.le_refl _, Nat.zero_le _, fun _ => rfl, .inl rfl⟩, .inl rfl⟩
  · refine ⟨_, _, rfl, ⟨h5, h6, (fun h => by cases h), .inr ⟨g, o, rfl, fun i hi j u hu => ?_⟩⟩, .inr fun b o' s e => by cases e; exact h3⟩
    have hj : j < 5 := by rw [← SV.cells_size (K i)]; exact (Array.getElem?_eq_some_iff.1 hu).1
    have := h8 (i * 5 + j) u (by rw [newsK_at K n i j hi hj]; exact hu)
    rwa [← Nat.add_assoc] at this

theorem infoSV : (Tryd.prog.info? 25).map (fun i => (i.zero, i.size, i.bytes)) = some (some SV.nil.val, 5, 80) := by kernel_rfl
theorem nilV_size : SV.nil.val.cells.size = 5 := rfl
/-- 'append(out, l...)' of values -/
theorem wp_append_K {o : Oper} {a : Act} {w : World} {B n : Nat} {v : Value} {xs : List Value} {K : Act → World → Prop} {Q : Exit → Act → World → Prop} (s x : Operand)
    (ho : o.op = .call { callee := .builtin .append, args := #[s, x], argTypes := #[23, 23] })
    (hs : a.eval s = v) (h : OwnG w B 5 v n xs) {m : Nat} {news : List Value} {xv : Value} (hx : a.eval x = xv) (hsrc : Src Tryd.prog 5 23 xv m news w) (hn : n + m ≤ 1000000) (hB : B ≤ w.heap.size)
    (hk : ∀ v' w', OwnG w' B 5 v' (n + m) (xs ++ news) → w.grownBy w' v.ownBlock → (∀ k, v'.ownBlock = some k → v.ownBlock = some k ∨ w.heap.size ≤ k) → K (a.put o.dst v') w') : o.wp Tryd.prog a w K Q := by
  obtain ⟨i0, hi, hi2⟩ := Option.map_eq_some_iff.1 infoSV
  simp only [Prod.mk.injEq] at hi2
  obtain ⟨hz0, hz1, hz2⟩ := hi2
  exact wp_append_G s x 23 23 ho 25 i0 SV.nil.val 80 Tryd.underlying23 hi hz0 hz1 hz2 nilV_size (by decide) hs h _ hx m news hsrc (by unfold maxLen; omega) (by omega) hB hk
theorem wpList_append_K {ops : Array Oper} {rest : List Oper} {o : Oper} {a : Act} {w : World} {B n : Nat} {v : Value} {xs : List Value} {Q : Exit → Act → World → Prop} (hgd : o.guard = none) (s x : Operand)
    (ho : o.op = .call { callee := .builtin .append, args := #[s, x], argTypes := #[23, 23] })
    (hs : a.eval s = v) (h : OwnG w B 5 v n xs) {m : Nat} {news : List Value} {xv : Value} (hx : a.eval x = xv) (hsrc : Src Tryd.prog 5 23 xv m news w) (hn : n + m ≤ 1000000) (hB : B ≤ w.heap.size)
    (hk : ∀ v' w', OwnG w' B 5 v' (n + m) (xs ++ news) → w.grownBy w' v.ownBlock → (∀ k, v'.ownBlock = some k → v.ownBlock = some k ∨ w.heap.size ≤ k) → wpList Tryd.prog ops Q rest (a.put o.dst v') w') : wpList Tryd.prog ops Q (o :: rest) a w :=
  wpList_plain hgd fun _ hK => wp_append_K s x ho hs h hx hsrc hn hB fun v' w' h1 h2 h3 => hK _ _ (hk v' w' h1 h2 h3)

/-- a row of the call's own -/
def RowP (n : Nat) (K : Nat → SV) (w : World) (e : Ending) (w' : World) : Prop := ∃ a c, e = .returned (.slice a n c) ∧ RowAt w' a n c K ∧ InB (fun k => w.heap.size ≤ k) a n ∧ Below w.heap.size w w'

set_option maxHeartbeats 2000000 in
set_option maxRecDepth 100000 in
theorem cloneK_any (a : Option Addr) (n c : Nat) (K : Nat → SV) (w : World) (hr : RowAt w a n c K) (hn : n ≤ 1000) : Calls Tryd.prog 27 #[.slice a n c] w (RowP n K w) := by
  cases a with
  | none =>
    have hc := hr.2.2.1 rfl
    have hle := hr.1
    obtain rfl : n = 0 := by omega
    subst hc
    clear hle hn
    have hnn : ∀ W, (binOp .eql 23 (.slice none 0 0) (.slice none 0 0)).run Tryd.prog W = .ok (.bool true) W := fun _ => rfl
    go_enter Tryd.func27, Tryd.ntmps27
    go_wp2_with fail
    go_ret
    exact ⟨none, 0, rfl, ⟨Nat.le_refl _, Nat.zero_le _, fun _ => rfl, .inl rfl⟩, .inl rfl, Below.refl _ _⟩
  | some ad =>
    have hnn : ∀ W, (binOp .eql 23 (.slice (some ad) n c) (.slice none 0 0)).run Tryd.prog W = .ok (.bool false) W := fun _ => rfl
    have hb0 : Below w.heap.size w (w.alloc (.cells #[] 25)) := (Below.refl _ _).alloc (Nat.le_refl _) _
    have ho0 : OwnG (w.alloc (.cells #[] 25)) w.heap.size 5 (.slice (some ⟨w.heap.size, 0, none⟩) 0 0) 0 [] := OwnG.new w w.heap.size 5 (Nat.le_refl _) #[] 25 0 0 (Nat.le_refl _) (Nat.zero_le _) rfl
    have hsrc : Src Tryd.prog 5 23 (.slice (some ad) n c) n (newsK K n) (w.alloc (.cells #[] 25)) := by
      refine Src.ofSlice _ Tryd.underlying23 ad n c _ (newsK_len K n) ?_ (newsK_one K n)
      have hr' := hr.after hb0
      rcases hr'.2.2.2 with h0 | ⟨b, o, e, h4⟩
      · subst h0
        intro j u hu
        simp [newsK] at hu
      · cases e
        exact newsK_cells hr'
    have HO := Lib.hid ho0
    have HS := Lib.hid hsrc
    clear ho0 hsrc hr
    go_enter Tryd.func27, Tryd.ntmps27
    go_wp2_with (refine wpList_append_K rfl _ _ rfl rfl HO.out rfl HS.out (by omega) (by simp) ?_; intro v2 w2 ho2 hg2 hw2)
    rw [Nat.zero_add, List.nil_append] at ho2
    obtain ⟨a', c', rfl, h5, h6⟩ := ho2.row
    have hB := hb0.grown hg2 (by simp) (fun k hk => by cases hk; exact Nat.le_refl _)
    clear ho2 hg2 hw2
    go_ret
    exact ⟨a', c', rfl, h5, h6, hB⟩

set_option maxHeartbeats 2000000 in
set_option maxRecDepth 100000 in
theorem atom_any (s : ByteArray) (hs : s.size ≤ 140737488355328) (w : World) : Calls Tryd.prog 25 #[.string s] w (ValP (.mk false false [] s.data.toList []) w) := by
  have hb0 : Below w.heap.size w (w.alloc (.cells SV.nil.cells 25)) := (Below.refl _ _).alloc (Nat.le_refl _) _
  have X0 := Box.new w 25 SV.nil.cells
  go_enter Tryd.func25, Tryd.ntmps25
  go_upto_region 1 with fail
  change Code.wp _ _ _ _ (w.alloc (.cells SV.nil.cells 25))
  generalize w.alloc (.cells SV.nil.cells 25) = v0 at *
  obtain ⟨v, v1, hr, ho, hb1⟩ := conv_own v0 s hs
  obtain ⟨a, c, rfl, hsl⟩ := ho.sl
  have hown : ∀ b o s, a = some ⟨b, o, s⟩ → v0.heap.size ≤ b := fun b o s e => by subst e; exact (ho.own b rfl).1
  have X1 := Lib.hid (X0.after hb1)
  have HS := Lib.hid hsl
  have hB1 := hb0.trans (hb1.mono hb0.size)
  have hz := X0.lt
  obtain ⟨n, hn⟩ : ∃ n, n = s.data.toList.length := ⟨_, rfl⟩
  rw [← hn] at hr HS
  have HOW := Lib.hid hown
  clear X0 ho hsl hb1 hb0 hn hown
  go_wp2_with (refine wpList_store_box (cells := (SV.mk false false none 0 0 a n c none 0 0).cells) rfl 25 _ _ rfl X1.out (by rfl) (by rfl) rfl (by kernel_rfl) (SV.one _) ?_; intro v2 X2 st2)
  have hB2 := st2.below w.heap.size w (Nat.le_refl _) hB1
  have hsl2 := HS.out.keep (w' := v2) (.inr fun b o s e => st2.other b (by have := HOW.out b o s e; omega))
  exact bodyPost_ret (v := (SV.mk false false none 0 0 a n c none 0 0).val) (box_result rfl _ _ (by rfl) X2 Tryd.underlying25 rfl (by kernel_rfl)) rfl ⟨_, rfl, rd_atom hsl2, hB2⟩

theorem rd_list {ok : Nat → Prop} {w : World} {a : Option Addr} {n c : Nat} {K : Nat → SV} {ks : List Sx} (h : RowAt w a n c K) (hi : InB ok a n) (hn : n = ks.length) (hk : ∀ i (hi : i < ks.length), RdI ok w (K i) ks[i]) : RdI ok w ⟨true, false, none, 0, 0, none, 0, 0, a, n, c⟩ (.mk true false [] [] ks) :=
  .mk _ [] [] ks K (Sl.nil w) (.inl rfl) (Sl.nil w) (.inl rfl) h hi hn hk

set_option maxHeartbeats 2000000 in
set_option maxRecDepth 100000 in
theorem list_any (a : Option Addr) (n c : Nat) (K : Nat → SV) (ks : List Sx) (w : World) (hr : RowAt w a n c K) (hn : n ≤ 1000) (hnk : n = ks.length) (hk : ∀ i (hi : i < ks.length), Rd w (K i) ks[i]) : Calls Tryd.prog 15 #[.slice a n c] w (ValP (.mk true false [] [] ks) w) := by
  have hb0 : Below w.heap.size w (w.alloc (.cells SV.nil.cells 25)) := (Below.refl _ _).alloc (Nat.le_refl _) _
  have X0 := Box.new w 25 SV.nil.cells
  have HR := Lib.hid hr
  have HK := Lib.hid hk
  have HN := Lib.hid hnk
  clear hr hk hnk
  go_enter Tryd.func15, Tryd.ntmps15
  go_upto_region 1 with fail
  change Code.wp _ _ _ _ (w.alloc (.cells SV.nil.cells 25))
  generalize w.alloc (.cells SV.nil.cells 25) = v0 at *
  go_wp2_with fail
  refine (cloneK_any a n c K v0 (HR.out.after hb0) hn).mono ?_
  rintro e v1 ⟨a', c', rfl, hrow, hin, hb1⟩
  have X1 := Lib.hid (X0.after hb1)
  have HS := Lib.hid hrow
  have HI := Lib.hid hin
  have hB1 := hb0.trans (hb1.mono hb0.size)
  have hz := X0.lt
  clear X0 hrow hin hb1 hb0
  go_wp2_with (refine wpList_store_box (cells := (SV.mk true false none 0 0 none 0 0 a' n c').cells) rfl 25 _ _ rfl X1.out (by rfl) (by rfl) rfl (by kernel_rfl) (SV.one _) ?_; intro v2 X2 st2)
  have hB2 := st2.below w.heap.size w (Nat.le_refl _) hB1
  have hrow2 := HS.out.keep (w' := v2) (HI.out.imp id fun h b o s e => st2.other b (by have := h b o s e; omega))
  exact bodyPost_ret (v := (SV.mk true false none 0 0 none 0 0 a' n c').val) (box_result rfl _ _ (by rfl) X2 Tryd.underlying25 rfl (by kernel_rfl)) rfl ⟨_, rfl, rd_list hrow2 (.inr fun _ _ _ _ => trivial) HN.out (fun i hi => (HK.out i hi).after hB2), hB2⟩

/-- two values, one behind the other -/
def twoK (u v : SV) : Nat → SV
  | 0 => u
  | _ => v
theorem row_two (w : World) (u v : SV) (T : TypeId) : RowAt (w.alloc (.cells #[.bool u.l, .bool u.h, .slice u.a1 u.n1 u.c1, .slice u.a2 u.n2 u.c2, .slice u.a3 u.n3 u.c3, .bool v.l, .bool v.h, .slice v.a1 v.n1 v.c1, .slice v.a2 v.n2 v.c2, .slice v.a3 v.n3 v.c3] T)) (some ⟨w.heap.size, 0, none⟩) 2 2 (twoK u v) := by
  refine ⟨Nat.le_refl _, by unfold maxLen; omega, (fun h => by cases h), .inr ⟨_, 0, rfl, fun i hi j x hx => ?_⟩⟩
  have hb := Box.new w T #[.bool u.l, .bool u.h, .slice u.a1 u.n1 u.c1, .slice u.a2 u.n2 u.c2, .slice u.a3 u.n3 u.c3, .bool v.l, .bool v.h, .slice v.a1 v.n1 v.c1, .slice v.a2 v.n2 v.c2, .slice v.a3 v.n3 v.c3]
  rw [Nat.zero_add]
  have hj : j < 5 := by
    have := (Array.getElem?_eq_some_iff.1 hx).1
    rwa [SV.cells_size] at this
  refine hb.cell (i * 5 + j) ?_
  match i, hi, j, hj with
  | 0, _, 0, _ => exact hx
  | 0, _, 1, _ => exact hx
  | 0, _, 2, _ => exact hx
  | 0, _, 3, _ => exact hx
  | 0, _, 4, _ => exact hx
  | 1, _, 0, _ => exact hx
  | 1, _, 1, _ => exact hx
  | 1, _, 2, _ => exact hx
  | 1, _, 3, _ => exact hx
  | 1, _, 4, _ => exact hx

def exS : Sx := .mk true false [] [] [.mk false false [] [97, 98, 99] [], .mk false false [] [120] []]
theorem exS_form : exS.form = [40, 51, 58, 97, 98, 99, 49, 58, 120, 41] := by
  unfold exS
  simp [form_def, Sx.formL, textL, numL_small]
theorem exS_may : exS.may = true := by
  unfold Sx.may
  rw [exS_form]
  decide
theorem exS_wide : exS.wide 0 = false := by decide

set_option maxHeartbeats 4000000 in
set_option maxRecDepth 100000 in
theorem awakeX_any (w : World) (ht : Tab w) : Calls Tryd.prog 12 #[] w fun e w' => e = .returned (.bool true) ∧ Below w.heap.size w w' := by
  have HT := Lib.hid ht
  clear ht
  go_enter Tryd.func12, Tryd.ntmps12
  go_wp2_with fail
  refine (atom_any ⟨#[97, 98, 99]⟩ (by decide) _).mono ?_
  rintro e w1 ⟨va, rfl, hra, hb1⟩
  have HA := Lib.hid hra
  clear hra
  go_wp2_with fail
  refine (atom_any ⟨#[120]⟩ (by decide) _).mono ?_
  rintro e w2 ⟨vb, rfl, hrb, hb2⟩
  have HA2 := Lib.hid (HA.out.after hb2)
  have HB2 := Lib.hid hrb
  have hB2 := hb1.trans (hb2.mono hb1.size)
  clear hrb hb1 hb2 HA
  obtain ⟨pl, ph, p1, pn1, pc1, p2, pn2, pc2, p3, pn3, pc3⟩ := va
  obtain ⟨ql, qh, q1, qn1, qc1, q2, qn2, qc2, q3, qn3, qc3⟩ := vb
  unfold SV.val
  go_wp2_with fail
  have hb3 : Below w2.heap.size w2 (w2.alloc (.cells #[.bool pl, .bool ph, .slice p1 pn1 pc1, .slice p2 pn2 pc2, .slice p3 pn3 pc3, .bool ql, .bool qh, .slice q1 qn1 qc1, .slice q2 qn2 qc2, .slice q3 qn3 qc3] 25)) := (Below.refl _ _).alloc (Nat.le_refl _) _
  have hrow := row_two w2 ⟨pl, ph, p1, pn1, pc1, p2, pn2, pc2, p3, pn3, pc3⟩ ⟨ql, qh, q1, qn1, qc1, q2, qn2, qc2, q3, qn3, qc3⟩ 25
  have hB3 := hB2.trans (hb3.mono hB2.size)
  have hks : ∀ i (hi : i < [Sx.mk false false [] [97, 98, 99] [], .mk false false [] [120] []].length), Rd (w2.alloc (.cells #[.bool pl, .bool ph, .slice p1 pn1 pc1, .slice p2 pn2 pc2, .slice p3 pn3 pc3, .bool ql, .bool qh, .slice q1 qn1 qc1, .slice q2 qn2 qc2, .slice q3 qn3 qc3] 25)) (twoK ⟨pl, ph, p1, pn1, pc1, p2, pn2, pc2, p3, pn3, pc3⟩ ⟨ql, qh, q1, qn1, qc1, q2, qn2, qc2, q3, qn3, qc3⟩ i) [Sx.mk false false [] [97, 98, 99] [], .mk false false [] [120] []][i] := fun i hi => by
    match i, hi with
    | 0, _ => exact HA2.out.after hb3
    | 1, _ => exact HB2.out.after hb3
  refine (list_any _ 2 2 _ _ _ hrow (by omega) rfl hks).mono ?_
  clear hrow hks HA2 HB2 hb3 hB2
  rintro e w4 ⟨vl, rfl, hrl, hb4⟩
  have hB4 := hB3.trans (hb4.mono hB3.size)
  have HL := Lib.hid hrl
  clear hrl hb4 hB3
  go_wp2_with fail
  refine (put_all exS vl w4 HL.out 0 exS_wide (HT.out.after hB4)).mono ?_
  rintro e w5 hp
  rcases hp with ⟨_, vp, rfl, ho, hb5⟩ | ⟨hno, _⟩
  · rw [exS_form] at ho
    obtain ⟨a, c, rfl, hsl⟩ := ho.sl
    have hcv := conv_sl hsl
    have hB5 := hB4.trans (hb5.mono hB4.size)
    clear ho hb5 hsl hB4 HL
    obtain ⟨n, hn⟩ : ∃ n, n = [40, 51, 58, 97, 98, 99, 49, 58, 120, (41 : UInt8)].length := ⟨_, rfl⟩
    rw [← hn] at hcv ⊢
    clear hn
    go_wp2_with fail
    go_ret
    exact ⟨rfl, hB5⟩
  · rw [exS_may] at hno
    cases hno
end Go.Proofs.YtcflgoddfakepaaDoor

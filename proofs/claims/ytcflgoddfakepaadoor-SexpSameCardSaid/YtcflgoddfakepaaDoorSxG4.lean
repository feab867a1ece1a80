/- Atom, List, and the document's example. octet.GetLen and the document's Len: what they compute. A length that is written is read: plain. No two trees have one form: plain. SexpOne: the walk. SexpLists: the walk. How a canonical form is read: plain. Lengths and bytes, read as they are written, and cut off: plain. Forms, read as they are written, cut off, and what is read: plain. -/
import Derived.Test.YtcflgoddfakepaaDoorSxG3
import Derived.Deep.QuietTactic
import Derived.BigQuiet
import Derived.WalkLawsBesides
import Derived.WalkSmall
namespace Go.Proofs.YtcflgoddfakepaaDoor
open Go.RowKit
set_option linter.unusedSimpArgs false
set_option linter.unusedVariables false

/-- a value is handed back that reads as a tree -/
def ValP (s : Sx) (w : World) (e : Ending) (w' : World) : Prop := ∃ v : SV, e = .returned v.val ∧ Rd w' v s ∧ Below w.heap.size w w'

theorem rd_atom {w : World} {a : Option Addr} {n c : Nat} {l : List UInt8} (h : Sl w a n c l) : Rd w ⟨false, false, none, 0, 0, a, n, c, none, 0, 0⟩ (.mk false false [] l []) :=
  .mk _ [] l [] (fun _ => SV.nil) (Sl.nil w) (.inl rfl) h (.inr fun _ _ _ _ => trivial) ⟨Nat.le_refl _, Nat.zero_le _, fun _ => rfl, .inl rfl⟩ (.inl rfl) rfl (fun i hi => by cases hi)

/-- the cells of a row, one behind the other -/
def newsK (K : Nat → SV) : Nat → List Value
  | 0 => []
  | n + 1 => newsK K n ++ (K n).cells.toList
theorem newsK_len (K : Nat → SV) (n : Nat) : (newsK K n).length = n * 5 := by
  induction n with
  | zero => rfl
  | succ n ih => simp only [newsK, List.length_append, ih]; rw [Array.length_toList, SV.cells_size]; omega
theorem newsK_at (K : Nat → SV) (n i j : Nat) (hi : i < n) (hj : j < 5) : (newsK K n)[i * 5 + j]? = (K i).cells[j]? := by
  induction n with
  | zero => omega
  | succ n ih =>
    simp only [newsK]
    by_cases h : i < n
    · rw [List.getElem?_append_left (by rw [newsK_len]; omega), ih h]
    · obtain rfl : i = n := by omega
      rw [List.getElem?_append_right (by rw [newsK_len]; omega), newsK_len, Nat.add_sub_cancel_left]
      simp
theorem newsK_congr {K K' : Nat → SV} {n : Nat} (h : ∀ i, i < n → K i = K' i) : newsK K n = newsK K' n := by
  induction n with
  | zero => rfl
  | succ n ih => simp only [newsK]; rw [ih (fun i hi => h i (by omega)), h n (by omega)]
theorem newsK_one (K : Nat → SV) (n : Nat) : ∀ u ∈ newsK K n, u.oneCell' = true := by
  induction n with
  | zero => intro u hu; cases hu
  | succ n ih =>
    intro u hu
    simp only [newsK, List.mem_append] at hu
    rcases hu with hu | hu
    · exact ih u hu
    · exact (Array.all_eq_true_iff_forall_mem.1 (SV.one (K n))) u (by simpa using hu)
theorem newsK_cells {w : World} {b o n c : Nat} {K : Nat → SV} (h : RowAt w (some ⟨b, o, none⟩) n c K) : ∀ j u, (newsK K n)[j]? = some u → w.cell? ((⟨b, o, none⟩ : Addr).add j) = some u := by
  intro j u hu
  have hlt : j < n * 5 := by rw [← newsK_len K n]; exact (List.getElem?_eq_some_iff.1 hu).1
  have e : j = j / 5 * 5 + j % 5 := by omega
  rw [e, newsK_at K n _ _ (by omega) (by omega)] at hu
  rw [Addr.add_mid]
  have := h.rangeA (i := j / 5) (by omega) (j % 5) u (by simpa using hu)
  rwa [show o + j / 5 * 5 + j % 5 = o + j by omega] at this
theorem OwnG.row {w : World} {B n : Nat} {v : Value} {K : Nat → SV} (h : OwnG w B 5 v n (newsK K n)) : ∃ a c, v = .slice a n c ∧ RowAt w a n c K ∧ InB (fun k => B ≤ k) a n := by
  rcases h.2 with ⟨rfl, rfl⟩ | ⟨g, o, cap, rfl, h3, h4, h5, h6, h7, h8⟩
  · exact ⟨none, 0, rfl, ⟨Nat.le_refl _, Nat.zero_le _, fun _ => rfl, .inl rfl⟩, .inl rfl⟩
  · refine ⟨_, _, rfl, ⟨h5, h6, (fun h => by cases h), .inr ⟨g, o, rfl, fun i hi j u hu => ?_⟩⟩, .inr fun b o' s e => by cases e; exact h3⟩
    have hj : j < 5 := by rw [← SV.cells_size (K i)]; exact (Array.getElem?_eq_some_iff.1 hu).1
    have := h8 (i * 5 + j) u (by rw [newsK_at K n i j hi hj]; exact hu)
    rwa [← Nat.add_assoc] at this

theorem infoSV : (Tryd.prog.info? 25).map (fun i => (i.zero, i.size, i.bytes)) = some (some SV.nil.val, 5, 80) := by kernel_rfl
theorem nilV_size : SV.nil.val.cells.size = 5 := rfl
/-- 'append(out, l...)' of values -/
theorem wp_append_K {o : Oper} {a : Act} {w : World} {B n : Nat} {v : Value} {xs : List Value} {K : Act → World → Prop} {Q : Exit → Act → World → Prop} (s x : Operand)
    (ho : o.op = .call { callee := .builtin .append, args := #[s, x], argTypes := #[23, 23] })
    (hs : a.eval s = v) (h : OwnG w B 5 v n xs) {m : Nat} {news : List Value} {xv : Value} (hx : a.eval x = xv) (hsrc : Src Tryd.prog 5 23 xv m news w) (hn : n + m ≤ 1000000) (hB : B ≤ w.heap.size)
    (hk : ∀ v' w', OwnG w' B 5 v' (n + m) (xs ++ news) → w.grownBy w' v.ownBlock → (∀ k, v'.ownBlock = some k → v.ownBlock = some k ∨ w.heap.size ≤ k) → K (a.put o.dst v') w') : o.wp Tryd.prog a w K Q := by
  obtain ⟨i0, hi, hi2⟩ := Option.map_eq_some_iff.1 infoSV
  simp only [Prod.mk.injEq] at hi2
  obtain ⟨hz0, hz1, hz2⟩ := hi2
  exact wp_append_G s x 23 23 ho 25 i0 SV.nil.val 80 Tryd.underlying23 hi hz0 hz1 hz2 nilV_size (by decide) hs h _ hx m news hsrc (by unfold maxLen; omega) (by omega) hB hk
theorem wpList_append_K {ops : Array Oper} {rest : List Oper} {o : Oper} {a : Act} {w : World} {B n : Nat} {v : Value} {xs : List Value} {Q : Exit → Act → World → Prop} (hgd : o.guard = none) (s x : Operand)
    (ho : o.op = .call { callee := .builtin .append, args := #[s, x], argTypes := #[23, 23] })
    (hs : a.eval s = v) (h : OwnG w B 5 v n xs) {m : Nat} {news : List Value} {xv : Value} (hx : a.eval x = xv) (hsrc : Src Tryd.prog 5 23 xv m news w) (hn : n + m ≤ 1000000) (hB : B ≤ w.heap.size)
    (hk : ∀ v' w', OwnG w' B 5 v' (n + m) (xs ++ news) → w.grownBy w' v.ownBlock → (∀ k, v'.ownBlock = some k → v.ownBlock = some k ∨ w.heap.size ≤ k) → wpList Tryd.prog ops Q rest (a.put o.dst v') w') : wpList Tryd.prog ops Q (o :: rest) a w :=
  wpList_plain hgd fun _ hK => wp_append_K s x ho hs h hx hsrc hn hB fun v' w' h1 h2 h3 => hK _ _ (hk v' w' h1 h2 h3)

/-- a row of the call's own -/
def RowP (n : Nat) (K : Nat → SV) (w : World) (e : Ending) (w' : World) : Prop := ∃ a c, e = .returned (.slice a n c) ∧ RowAt w' a n c K ∧ InB (fun k => w.heap.size ≤ k) a n ∧ Below w.heap.size w w'

set_option maxHeartbeats 2000000 in
set_option maxRecDepth 100000 in
theorem cloneK_any (a : Option Addr) (n c : Nat) (K : Nat → SV) (w : World) (hr : RowAt w a n c K) (hn : n ≤ 1000) : Calls Tryd.prog 27 #[.slice a n c] w (RowP n K w) := by
  cases a with
  | none =>
    have hc := hr.2.2.1 rfl
    have hle := hr.1
    obtain rfl : n = 0 := by omega
    subst hc
    clear hle hn
    have hnn : ∀ W, (binOp .eql 23 (.slice none 0 0) (.slice none 0 0)).run Tryd.prog W = .ok (.bool true) W := fun _ => rfl
    go_enter Tryd.func27, Tryd.ntmps27
    go_wp2_with fail
    go_ret
    exact ⟨none, 0, rfl, ⟨Nat.le_refl _, Nat.zero_le _, fun _ => rfl, .inl rfl⟩, .inl rfl, Below.refl _ _⟩
  | some ad =>
    have hnn : ∀ W, (binOp .eql 23 (.slice (some ad) n c) (.slice none 0 0)).run Tryd.prog W = .ok (.bool false) W := fun _ => rfl
    have hb0 : Below w.heap.size w (w.alloc (.cells #[] 25)) := (Below.refl _ _).alloc (Nat.le_refl _) _
    have ho0 : OwnG (w.alloc (.cells #[] 25)) w.heap.size 5 (.slice (some ⟨w.heap.size, 0, none⟩) 0 0) 0 [] := OwnG.new w w.heap.size 5 (Nat.le_refl _) #[] 25 0 0 (Nat.le_refl _) (Nat.zero_le _) rfl
    have hsrc : Src Tryd.prog 5 23 (.slice (some ad) n c) n (newsK K n) (w.alloc (.cells #[] 25)) := by
      refine Src.ofSlice _ Tryd.underlying23 ad n c _ (newsK_len K n) ?_ (newsK_one K n)
      have hr' := hr.after hb0
      rcases hr'.2.2.2 with h0 | ⟨b, o, e, h4⟩
      · subst h0
        intro j u hu
        simp [newsK] at hu
      · cases e
        exact newsK_cells hr'
    have HO := Lib.hid ho0
    have HS := Lib.hid hsrc
    clear ho0 hsrc hr
    go_enter Tryd.func27, Tryd.ntmps27
    go_wp2_with (refine wpList_append_K rfl _ _ rfl rfl HO.out rfl HS.out (by omega) (by simp) ?_; intro v2 w2 ho2 hg2 hw2)
    rw [Nat.zero_add, List.nil_append] at ho2
    obtain ⟨a', c', rfl, h5, h6⟩ := ho2.row
    have hB := hb0.grown hg2 (by simp) (fun k hk => by cases hk; exact Nat.le_refl _)
    clear ho2 hg2 hw2
    go_ret
    exact ⟨a', c', rfl, h5, h6, hB⟩

set_option maxHeartbeats 2000000 in
set_option maxRecDepth 100000 in
theorem atom_any (s : ByteArray) (hs : s.size ≤ 140737488355328) (w : World) : Calls Tryd.prog 25 #[.string s] w (ValP (.mk false false [] s.data.toList []) w) := by
  have hb0 : Below w.heap.size w (w.alloc (.cells SV.nil.cells 25)) := (Below.refl _ _).alloc (Nat.le_refl _) _
  have X0 := Box.new w 25 SV.nil.cells
  go_enter Tryd.func25, Tryd.ntmps25
  go_upto_region 1 with fail
  change Code.wp _ _ _ _ (w.alloc (.cells SV.nil.cells 25))
  generalize w.alloc (.cells SV.nil.cells 25) = v0 at *
  obtain ⟨v, v1, hr, ho, hb1⟩ := conv_own v0 s hs
  obtain ⟨a, c, rfl, hsl⟩ := ho.sl
  have hown : ∀ b o s, a = some ⟨b, o, s⟩ → v0.heap.size ≤ b := fun b o s e => by subst e; exact (ho.own b rfl).1
  have X1 := Lib.hid (X0.after hb1)
  have HS := Lib.hid hsl
  have hB1 := hb0.trans (hb1.mono hb0.size)
  have hz := X0.lt
  obtain ⟨n, hn⟩ : ∃ n, n = s.data.toList.length := ⟨_, rfl⟩
  rw [← hn] at hr HS
  have HOW := Lib.hid hown
  clear X0 ho hsl hb1 hb0 hn hown
  go_wp2_with (refine wpList_store_box (cells := (SV.mk false false none 0 0 a n c none 0 0).cells) rfl 25 _ _ rfl X1.out (by rfl) (by rfl) rfl (by kernel_rfl) (SV.one _) ?_; intro v2 X2 st2)
  have hB2 := st2.below w.heap.size w (Nat.le_refl _) hB1
  have hsl2 := HS.out.keep (w' := v2) (.inr fun b o s e => st2.other b (by have := HOW.out b o s e; omega))
  exact bodyPost_ret (v := (SV.mk false false none 0 0 a n c none 0 0).val) (box_result rfl _ _ (by rfl) X2 Tryd.underlying25 rfl (by kernel_rfl)) rfl ⟨_, rfl, rd_atom hsl2, hB2⟩

theorem rd_list {ok : Nat → Prop} {w : World} {a : Option Addr} {n c : Nat} {K : Nat → SV} {ks : List Sx} (h : RowAt w a n c K) (hi : InB ok a n) (hn : n = ks.length) (hk : ∀ i (hi : i < ks.length), RdI ok w (K i) ks[i]) : RdI ok w ⟨true, false, none, 0, 0, none, 0, 0, a, n, c⟩ (.mk true false [] [] ks) :=
  .mk _ [] [] ks K (Sl.nil w) (.inl rfl) (Sl.nil w) (.inl rfl) h hi hn hk

set_option maxHeartbeats 2000000 in
set_option maxRecDepth 100000 in
theorem list_any (a : Option Addr) (n c : Nat) (K : Nat → SV) (ks : List Sx) (w : World) (hr : RowAt w a n c K) (hn : n ≤ 1000) (hnk : n = ks.length) (hk : ∀ i (hi : i < ks.length), Rd w (K i) ks[i]) : Calls Tryd.prog 15 #[.slice a n c] w (ValP (.mk true false [] [] ks) w) := by
  have hb0 : Below w.heap.size w (w.alloc (.cells SV.nil.cells 25)) := (Below.refl _ _).alloc (Nat.le_refl _) _
  have X0 := Box.new w 25 SV.nil.cells
  have HR := Lib.hid hr
  have HK := Lib.hid hk
  have HN := Lib.hid hnk
  clear hr hk hnk
  go_enter Tryd.func15, Tryd.ntmps15
  go_upto_region 1 with fail
  change Code.wp _ _ _ _ (w.alloc (.cells SV.nil.cells 25))
  generalize w.alloc (.cells SV.nil.cells 25) = v0 at *
  go_wp2_with fail
  refine (cloneK_any a n c K v0 (HR.out.after hb0) hn).mono ?_
  rintro e v1 ⟨a', c', rfl, hrow, hin, hb1⟩
  have X1 := Lib.hid (X0.after hb1)
  have HS := Lib.hid hrow
  have HI := Lib.hid hin
  have hB1 := hb0.trans (hb1.mono hb0.size)
  have hz := X0.lt
  clear X0 hrow hin hb1 hb0
  go_wp2_with (refine wpList_store_box (cells := (SV.mk true false none 0 0 none 0 0 a' n c').cells) rfl 25 _ _ rfl X1.out (by rfl) (by rfl) rfl (by kernel_rfl) (SV.one _) ?_; intro v2 X2 st2)
  have hB2 := st2.below w.heap.size w (Nat.le_refl _) hB1
  have hrow2 := HS.out.keep (w' := v2) (HI.out.imp id fun h b o s e => st2.other b (by have := h b o s e; omega))
  exact bodyPost_ret (v := (SV.mk true false none 0 0 none 0 0 a' n c').val) (box_result rfl _ _ (by rfl) X2 Tryd.underlying25 rfl (by kernel_rfl)) rfl ⟨_, rfl, rd_list hrow2 (.inr fun _ _ _ _ => trivial) HN.out (fun i hi => (HK.out i hi).after hB2), hB2⟩

/-- two values, one behind the other -/
def twoK (u v : SV) : Nat → SV
  | 0 => u
  | _ => v
theorem row_two (w : World) (u v : SV) (T : TypeId) : RowAt (w.alloc (.cells #[.bool u.l, .bool u.h, .slice u.a1 u.n1 u.c1, .slice u.a2 u.n2 u.c2, .slice u.a3 u.n3 u.c3, .bool v.l, .bool v.h, .slice v.a1 v.n1 v.c1, .slice v.a2 v.n2 v.c2, .slice v.a3 v.n3 v.c3] T)) (some ⟨w.heap.size, 0, none⟩) 2 2 (twoK u v) := by
  refine ⟨Nat.le_refl _, by unfold maxLen; omega, (fun h => by cases h), .inr ⟨_, 0, rfl, fun i hi j x hx => ?_⟩⟩
  have hb := Box.new w T #[.bool u.l, .bool u.h, .slice u.a1 u.n1 u.c1, .slice u.a2 u.n2 u.c2, .slice u.a3 u.n3 u.c3, .bool v.l, .bool v.h, .slice v.a1 v.n1 v.c1, .slice v.a2 v.n2 v.c2, .slice v.a3 v.n3 v.c3]
  rw [Nat.zero_add]
  have hj : j < 5 := by
    have := (Array.getElem?_eq_some_iff.1 hx).1
    rwa [SV.cells_size] at this
  refine hb.cell (i * 5 + j) ?_
  match i, hi, j, hj with
  | 0, _, 0, _ => exact hx
  | 0, _, 1, _ => exact hx
  | 0, _, 2, _ => exact hx
  | 0, _, 3, _ => exact hx
  | 0, _, 4, _ => exact hx
  | 1, _, 0, _ => exact hx
  | 1, _, 1, _ => exact hx
  | 1, _, 2, _ => exact hx
  | 1, _, 3, _ => exact hx
  | 1, _, 4, _ => exact hx

def exS : Sx := .mk true false [] [] [.mk false false [] [97, 98, 99] [], .mk false false [] [120] []]
theorem exS_form : exS.form = [40, 51, 58, 97, 98, 99, 49, 58, 120, 41] := by
  unfold exS
  simp [form_def, Sx.formL, textL, numL_small]
theorem exS_may : exS.may = true := by
  unfold Sx.may
  rw [exS_form]
  decide
theorem exS_wide : exS.wide 0 = false := by decide

set_option maxHeartbeats 4000000 in
set_option maxRecDepth 100000 in
theorem awakeX_any (w : World) (ht : Tab w) : Calls Tryd.prog 12 #[] w fun e w' => e = .returned (.bool true) ∧ Below w.heap.size w w' := by
  have HT := Lib.hid ht
  clear ht
  go_enter Tryd.func12, Tryd.ntmps12
  go_wp2_with fail
  refine (atom_any ⟨#[97, 98, 99]⟩ (by decide) _).mono ?_
  rintro e w1 ⟨va, rfl, hra, hb1⟩
  have HA := Lib.hid hra
  clear hra
  go_wp2_with fail
  refine (atom_any ⟨#[120]⟩ (by decide) _).mono ?_
  rintro e w2 ⟨vb, rfl, hrb, hb2⟩
  have HA2 := Lib.hid (HA.out.after hb2)
  have HB2 := Lib.hid hrb
  have hB2 := hb1.trans (hb2.mono hb1.size)
  clear hrb hb1 hb2 HA
  obtain ⟨pl, ph, p1, pn1, pc1, p2, pn2, pc2, p3, pn3, pc3⟩ := va
  obtain ⟨ql, qh, q1, qn1, qc1, q2, qn2, qc2, q3, qn3, qc3⟩ := vb
  unfold SV.val
  go_wp2_with fail
  have hb3 : Below w2.heap.size w2 (w2.alloc (.cells #[.bool pl, .bool ph, .slice p1 pn1 pc1, .slice p2 pn2 pc2, .slice p3 pn3 pc3, .bool ql, .bool qh, .slice q1 qn1 qc1, .slice q2 qn2 qc2, .slice q3 qn3 qc3] 25)) := (Below.refl _ _).alloc (Nat.le_refl _) _
  have hrow := row_two w2 ⟨pl, ph, p1, pn1, pc1, p2, pn2, pc2, p3, pn3, pc3⟩ ⟨ql, qh, q1, qn1, qc1, q2, qn2, qc2, q3, qn3, qc3⟩ 25
  have hB3 := hB2.trans (hb3.mono hB2.size)
  have hks : ∀ i (hi : i < [Sx.mk false false [] [97, 98, 99] [], .mk false false [] [120] []].length), Rd (w2.alloc (.cells #[.bool pl, .bool ph, .slice p1 pn1 pc1, .slice p2 pn2 pc2, .slice p3 pn3 pc3, .bool ql, .bool qh, .slice q1 qn1 qc1, .slice q2 qn2 qc2, .slice q3 qn3 qc3] 25)) (twoK ⟨pl, ph, p1, pn1, pc1, p2, pn2, pc2, p3, pn3, pc3⟩ ⟨ql, qh, q1, qn1, qc1, q2, qn2, qc2, q3, qn3, qc3⟩ i) [Sx.mk false false [] [97, 98, 99] [], .mk false false [] [120] []][i] := fun i hi => by
    match i, hi with
    | 0, _ => exact HA2.out.after hb3
    | 1, _ => exact HB2.out.after hb3
  refine (list_any _ 2 2 _ _ _ hrow (by omega) rfl hks).mono ?_
  clear hrow hks HA2 HB2 hb3 hB2
  rintro e w4 ⟨vl, rfl, hrl, hb4⟩
  have hB4 := hB3.trans (hb4.mono hB3.size)
  have HL := Lib.hid hrl
  clear hrl hb4 hB3
  go_wp2_with fail
  refine (put_all exS vl w4 HL.out 0 exS_wide (HT.out.after hB4)).mono ?_
  rintro e w5 hp
  rcases hp with ⟨_, vp, rfl, ho, hb5⟩ | ⟨hno, _⟩
  · rw [exS_form] at ho
    obtain ⟨a, c, rfl, hsl⟩ := ho.sl
    have hcv := conv_sl hsl
    have hB5 := hB4.trans (hb5.mono hB4.size)
    clear ho hb5 hsl hB4 HL
    obtain ⟨n, hn⟩ : ∃ n, n = [40, 51, 58, 97, 98, 99, 49, 58, 120, (41 : UInt8)].length := ⟨_, rfl⟩
    rw [← hn] at hcv ⊢
    clear hn
    go_wp2_with fail
    go_ret
    exact ⟨rfl, hB5⟩
  · rw [exS_may] at hno
    cases hno
end Go.Proofs.YtcflgoddfakepaaDoor
namespace Go.Proofs.YtcflgoddfakepaaDoor
open Go.RowKit

theorem Sl.some {w : World} {a : Option Addr} {len cap : Nat} {l : List UInt8} (h : Sl w a len cap l) (hl : 0 < len) : ∃ b o, a = Option.some ⟨b, o, none⟩ ∧ (∀ i, i < len → w.cell? ⟨b, o + i, none⟩ = Option.some (.int .u8 ((l.getD i 0).toNat : Int))) ∧ b < w.heap.size := by
  have hlt := h.lt
  rcases h.2.2.2.2 with h4 | ⟨b, o, rfl, h4⟩
  · omega
  · exact ⟨b, o, rfl, h4, hlt b o (by omega) rfl⟩

def isD (c : UInt8) : Prop := 48 ≤ c.toNat ∧ c.toNat ≤ 57
instance (c : UInt8) : Decidable (isD c) := by unfold isD; infer_instance

/-- the number that begins there, and how many digits it has; none: it is above M -/
def lenScan (M : Nat) : Nat → List UInt8 → Option (Nat × Nat)
  | n, [] => some (n, 0)
  | n, c :: t => if isD c then (if M < 10 * n + (c.toNat - 48) then none else (lenScan M (10 * n + (c.toNat - 48)) t).map fun p => (p.1, p.2 + 1)) else some (n, 0)
/-- the length at a place: the number, the place behind it, the error -/
def lenR (l : List UInt8) (at' : Int) (M : Nat) : Int × Int × Int :=
  if at' < 0 then (0, at', 1) else if (l.length : Int) ≤ at' then (0, at', 2) else
  if ¬ isD (l.getD at'.toNat 0) then (0, at', 3) else if l.getD at'.toNat 0 = 48 then (0, at' + 1, 0) else
  match lenScan M 0 (l.drop at'.toNat) with
  | none => (0, at', 4)
  | some (n, k) => (n, at' + k, 0)
theorem lenScan_step (M n : Nat) (l : List UInt8) (i : Nat) (h : i < l.length) (c : UInt8) (hc : c = l.getD i 0) :
    lenScan M n (l.drop i) = if isD c then (if M < 10 * n + (c.toNat - 48) then none else (lenScan M (10 * n + (c.toNat - 48)) (l.drop (i + 1))).map fun p => (p.1, p.2 + 1)) else some (n, 0) := by
  rw [List.drop_eq_getElem_cons h, lenScan]
  have e : l[i] = c := by rw [hc]; simp [List.getD_eq_getElem?_getD, h]
  rw [e]
theorem lenScan_end (M n : Nat) (l : List UInt8) (i : Nat) (h : l.length ≤ i) : lenScan M n (l.drop i) = some (n, 0) := by rw [List.drop_of_length_le h, lenScan]
theorem map_two (o : Option (Nat × Nat)) (k : Nat) : (o.map fun p => (p.1, p.2 + 1)).map (fun p => (p.1, p.2 + k)) = o.map fun p => (p.1, p.2 + (k + 1)) := by
  cases o <;> simp; omega
def LenP (r : Int × Int × Int) (w : World) (e : Ending) (w' : World) : Prop := e = .returned (.tuple #[.int .i64 r.1, .int .i64 r.2.1, .int .i64 r.2.2]) ∧ Below w.heap.size w w'

set_option maxHeartbeats 8000000 in
set_option maxRecDepth 100000 in
theorem getLen_any (a : Option Addr) (len cap : Nat) (l : List UInt8) (at' most : Int) (M : Nat) (w : World) (hs : Sl w a len cap l) (hn : len ≤ 1000000) (hat0 : -9223372036854775808 ≤ at') (hat : at' ≤ 9223372036854775807) (hm : max most 0 = (M : Int)) (hM : M ≤ 9223372036854775807) :
    Calls Tryd.prog 50 #[.slice a len cap, .int .i64 at', .int .i64 most] w (LenP (lenR l at' M) w) := by
  have HS := Lib.hid hs
  have HL := Lib.hid hs.1
  clear hs
  obtain ⟨R, hR⟩ : ∃ R, R = lenR l at' M := ⟨_, rfl⟩
  rw [← hR]
  have HR := Lib.hid hR
  clear hR
  by_cases h1 : at' < 0
  · have HE := Lib.hid (show R = (0, at', 1) by rw [HR.out, lenR, if_pos h1])
    go_enter Tryd.func50, Tryd.ntmps50
    go_wp2_with fail
    exact bodyPost_ret (v := .tuple #[.int .i64 0, .int .i64 at', .int .i64 1]) (by simp [results, Tryd.results50, go_sem]) rfl ⟨by rw [HE.out], Below.refl _ _⟩
  replace h1 : 0 ≤ at' := by omega
  by_cases h2 : (len : Int) ≤ at'
  · have HE := Lib.hid (show R = (0, at', 2) by rw [HR.out, lenR, if_neg (by omega), if_pos (by rw [← HL.out]; exact h2)])
    go_enter Tryd.func50, Tryd.ntmps50
    go_wp2_with fail
    exact bodyPost_ret (v := .tuple #[.int .i64 0, .int .i64 at', .int .i64 2]) (by simp [results, Tryd.results50, go_sem]) rfl ⟨by rw [HE.out], Below.refl _ _⟩
  replace h2 : at' < (len : Int) := by omega
  obtain ⟨p, rfl⟩ : ∃ p : Nat, at' = (p : Int) := ⟨at'.toNat, by omega⟩
  obtain ⟨b, o, rfl, hcc, _⟩ := HS.out.some (by omega)
  have c0 := hcc p (by omega)
  have HC := Lib.hid hcc
  obtain ⟨x, hx⟩ : ∃ x, x = l.getD p 0 := ⟨_, rfl⟩
  rw [← hx] at c0
  have HX := Lib.hid hx
  have hx255 := x.toNat_lt
  have HR2 := Lib.hid (show R = if ¬ isD x then ((0 : Int), (p : Int), (3 : Int)) else if x = 48 then ((0 : Int), (p : Int) + 1, (0 : Int)) else
      match lenScan M 0 (l.drop p) with
      | none => ((0 : Int), (p : Int), (4 : Int))
      | some (n, k) => ((n : Int), (p : Int) + k, (0 : Int)) by
    rw [HR.out, lenR, if_neg (by omega), if_neg (by rw [← HL.out]; omega), Int.toNat_natCast, ← HX.out])
  clear hcc hx
  by_cases h3 : (x.toNat : Int) < 48
  · have HE := Lib.hid (show R = (0, (p : Int), 3) by rw [HR2.out, if_pos (by unfold isD; omega)])
    go_enter Tryd.func50, Tryd.ntmps50
    go_wp2_with fail
    exact bodyPost_ret (v := .tuple #[.int .i64 0, .int .i64 (p : Int), .int .i64 3]) (by simp [results, Tryd.results50, go_sem]) rfl ⟨by rw [HE.out], Below.refl _ _⟩
  replace h3 : (48 : Int) ≤ x.toNat := by omega
  by_cases h4 : (57 : Int) < x.toNat
  · have HE := Lib.hid (show R = (0, (p : Int), 3) by rw [HR2.out, if_pos (by unfold isD; omega)])
    go_enter Tryd.func50, Tryd.ntmps50
    go_wp2_with fail
    exact bodyPost_ret (v := .tuple #[.int .i64 0, .int .i64 (p : Int), .int .i64 3]) (by simp [results, Tryd.results50, go_sem]) rfl ⟨by rw [HE.out], Below.refl _ _⟩
  replace h4 : (x.toNat : Int) ≤ 57 := by omega
  have HR3 := Lib.hid (HR2.out.trans (if_neg (by unfold isD; omega)))
  by_cases h5 : x = 48
  · have HE := Lib.hid (show R = (0, (p : Int) + 1, 0) by rw [HR3.out, if_pos h5])
    have t5 : ((x.toNat : Int) == 48) = true := by rw [h5]; rfl
    have H5 := Lib.hid h5
    clear h5
    go_enter Tryd.func50, Tryd.ntmps50
    go_wp2_with fail
    exact bodyPost_ret (v := .tuple #[.int .i64 0, .int .i64 ((p : Int) + 1), .int .i64 0]) (by simp [results, Tryd.results50, go_sem]) rfl ⟨by rw [HE.out], Below.refl _ _⟩
  have t5 : ((x.toNat : Int) == 48) = false := by
    have : x.toNat ≠ 48 := fun h => h5 (UInt8.toNat_inj.1 h)
    simp; omega
  have HR4 := Lib.hid (HR3.out.trans (if_neg h5))
  have H5 := Lib.hid h5
  clear h5
  obtain ⟨Z, hZ⟩ : ∃ Z, Z = lenScan M 0 (l.drop p) := ⟨_, rfl⟩
  rw [← hZ] at HR4
  have HZ := Lib.hid hZ
  clear hZ
  go_enter Tryd.func50, Tryd.ntmps50
  go_wp2_with fail
  clear t5 h3 h4 c0 hx255
  go_loop [9, 10] (fun n' i' => ∃ m k : Nat, p + k ≤ len ∧ m ≤ M ∧ n' = .int .i64 m ∧ i' = .int .i64 ((p : Int) + (k : Int)) ∧ Hid (Z = (lenScan M m (l.drop (p + k))).map fun q => (q.1, q.2 + k))) (fun _ i' => len - (intOf i').toNat)
  case atStart => exact ⟨0, 0, by omega, Nat.zero_le _, rfl, by go_num, Lib.hid (by rw [HZ.out]; simp)⟩
  case round =>
    obtain ⟨m, k, hk, hmM, rfl, rfl, HD⟩ := hrel
    obtain ⟨i, hi⟩ : ∃ i : Nat, i = p + k := ⟨_, rfl⟩
    have hik : (p : Int) + (k : Int) = (i : Int) := by omega
    rw [hik]
    have HI := Lib.hid hi
    have HIK := Lib.hid hik
    rw [← hi] at hk HD
    clear hik
    by_cases hlt : i < len
    · have c1 := HC.out i hlt
      obtain ⟨y, hy⟩ : ∃ y, y = l.getD i 0 := ⟨_, rfl⟩
      rw [← hy] at c1
      have HT := Lib.hid (lenScan_step M m l i (by have := HL.out; omega) y hy)
      have hy255 := y.toNat_lt
      have hiI : (i : Int) < len := by omega
      clear hy hi
      by_cases d1 : (48 : Int) ≤ y.toNat
      · by_cases d2 : (y.toNat : Int) ≤ 57
        · obtain ⟨d, hd⟩ : ∃ d : Nat, (y.toNat : Int) - 48 = (d : Int) := ⟨y.toNat - 48, by omega⟩
          have hd9 : d ≤ 9 := by omega
          have HDD := Lib.hid (show y.toNat - 48 = d by omega)
          have HT2 := Lib.hid (HT.out.trans (if_pos (show isD y by unfold isD; omega)))
          rw [HDD.out] at HT2
          by_cases hov : M < 10 * m + d
          · have HE := Lib.hid (show R = (0, (p : Int), 4) by rw [HR4.out, HD.out, HT2.out, if_pos hov]; rfl)
            have hw1 : IntKind.u8.wrap ((y.toNat : Int) - 48) = (d : Int) := by rw [IntKind.wrap_u8, hd]; omega
            by_cases hMd : (M : Int) < d
            · have q1 : ((M : Int) - d).tdiv 10 = 0 := by
                rw [show (M : Int) - d = -((d : Int) - M) by omega, Int.neg_tdiv, Int.tdiv_eq_ediv_of_nonneg (by omega)]; omega
              by_cases hm0 : (0 : Int) < m
              · go_wp2_with fail
                exact bodyPost_ret (v := .tuple #[.int .i64 0, .int .i64 p, .int .i64 4]) (by simp [results, Tryd.results50, go_sem]) rfl ⟨by rw [HE.out], Below.refl _ _⟩
              · have hm0' : (m : Int) ≤ 0 := by omega
                go_wp2_with fail
                exact bodyPost_ret (v := .tuple #[.int .i64 0, .int .i64 p, .int .i64 4]) (by simp [results, Tryd.results50, go_sem]) rfl ⟨by rw [HE.out], Below.refl _ _⟩
            · replace hMd : (d : Int) ≤ M := by omega
              have hMd0 : 0 ≤ (M : Int) - d := by omega
              have hq : ((M : Int) - d) / 10 < (m : Int) := by omega
              go_wp2_with fail
              exact bodyPost_ret (v := .tuple #[.int .i64 0, .int .i64 p, .int .i64 4]) (by simp [results, Tryd.results50, go_sem]) rfl ⟨by rw [HE.out], Below.refl _ _⟩
          · have HE := Lib.hid (show Z = (lenScan M (10 * m + d) (l.drop (p + (k + 1)))).map fun q => (q.1, q.2 + (k + 1)) by
              rw [HD.out, HT2.out, if_neg hov, map_two]; rw [show i + 1 = p + (k + 1) by have := HI.out; omega])
            have hMd : (d : Int) ≤ M := by omega
            have hMd0 : 0 ≤ (M : Int) - d := by omega
            have hq : (m : Int) ≤ ((M : Int) - d) / 10 := by omega
            have hmm : 10 * (m : Int) ≤ 9223372036854775807 := by omega
            have hmm2 : 10 * (m : Int) + d ≤ 9223372036854775807 := by omega
            go_wp2_with fail
            go_round
            case rel => exact ⟨10 * m + d, k + 1, by have := HI.out; omega, by omega, by go_num, by have := HIK.out; congr 1; omega, HE⟩
            case measure => simp [intOf]; omega
        · have d2' : (57 : Int) < y.toNat := by omega
          have HE := Lib.hid (show R = (((m : Nat) : Int), (i : Int), 0) by rw [HR4.out, HD.out, HT.out, if_neg (by unfold isD; omega)]; have := HI.out; simp; omega)
          clear d2
          go_wp2_with fail
          exact bodyPost_ret (v := .tuple #[.int .i64 m, .int .i64 i, .int .i64 0]) (by simp [results, Tryd.results50, go_sem]) rfl ⟨by rw [HE.out], Below.refl _ _⟩
      · have d1' : (y.toNat : Int) < 48 := by omega
        have HE := Lib.hid (show R = (((m : Nat) : Int), (i : Int), 0) by rw [HR4.out, HD.out, HT.out, if_neg (by unfold isD; omega)]; have := HI.out; simp; omega)
        clear d1
        go_wp2_with fail
        exact bodyPost_ret (v := .tuple #[.int .i64 m, .int .i64 i, .int .i64 0]) (by simp [results, Tryd.results50, go_sem]) rfl ⟨by rw [HE.out], Below.refl _ _⟩
    · obtain rfl : i = len := by omega
      have HE := Lib.hid (show R = (((m : Nat) : Int), (i : Int), 0) by rw [HR4.out, HD.out, lenScan_end _ _ _ _ (by have := HL.out; omega)]; have := HI.out; simp; omega)
      clear hi
      go_wp2_with fail
      exact bodyPost_ret (v := .tuple #[.int .i64 m, .int .i64 i, .int .i64 0]) (by simp [results, Tryd.results50, go_sem]) rfl ⟨by rw [HE.out], Below.refl _ _⟩

set_option maxHeartbeats 8000000 in
set_option maxRecDepth 100000 in
theorem refLen_any (a : Option Addr) (len cap : Nat) (l : List UInt8) (at' most : Int) (M : Nat) (w : World) (hs : Sl w a len cap l) (hn : len ≤ 1000000) (hat0 : -9223372036854775808 ≤ at') (hat : at' ≤ 9223372036854775807) (hm : max most 0 = (M : Int)) (hM : M ≤ 1000000000000000) :
    Calls Tryd.prog 48 #[.slice a len cap, .int .i64 at', .int .i64 most] w (LenP (lenR l at' M) w) := by
  have HS := Lib.hid hs
  have HL := Lib.hid hs.1
  clear hs
  obtain ⟨R, hR⟩ : ∃ R, R = lenR l at' M := ⟨_, rfl⟩
  rw [← hR]
  have HR := Lib.hid hR
  clear hR
  by_cases h1 : at' < 0
  · have HE := Lib.hid (show R = (0, at', 1) by rw [HR.out, lenR, if_pos h1])
    go_enter Tryd.func48, Tryd.ntmps48
    go_wp2_with fail
    exact bodyPost_ret (v := .tuple #[.int .i64 0, .int .i64 at', .int .i64 1]) (by simp [results, Tryd.results48, go_sem]) rfl ⟨by rw [HE.out], Below.refl _ _⟩
  replace h1 : 0 ≤ at' := by omega
  by_cases h2 : (len : Int) ≤ at'
  · have HE := Lib.hid (show R = (0, at', 2) by rw [HR.out, lenR, if_neg (by omega), if_pos (by rw [← HL.out]; exact h2)])
    go_enter Tryd.func48, Tryd.ntmps48
    go_wp2_with fail
    exact bodyPost_ret (v := .tuple #[.int .i64 0, .int .i64 at', .int .i64 2]) (by simp [results, Tryd.results48, go_sem]) rfl ⟨by rw [HE.out], Below.refl _ _⟩
  replace h2 : at' < (len : Int) := by omega
  obtain ⟨p, rfl⟩ : ∃ p : Nat, at' = (p : Int) := ⟨at'.toNat, by omega⟩
  obtain ⟨b, o, rfl, hcc, _⟩ := HS.out.some (by omega)
  have c0 := hcc p (by omega)
  have HC := Lib.hid hcc
  obtain ⟨x, hx⟩ : ∃ x, x = l.getD p 0 := ⟨_, rfl⟩
  rw [← hx] at c0
  have HX := Lib.hid hx
  have hx255 := x.toNat_lt
  have HR2 := Lib.hid (show R = if ¬ isD x then ((0 : Int), (p : Int), (3 : Int)) else if x = 48 then ((0 : Int), (p : Int) + 1, (0 : Int)) else
      match lenScan M 0 (l.drop p) with
      | none => ((0 : Int), (p : Int), (4 : Int))
      | some (n, k) => ((n : Int), (p : Int) + k, (0 : Int)) by
    rw [HR.out, lenR, if_neg (by omega), if_neg (by rw [← HL.out]; omega), Int.toNat_natCast, ← HX.out])
  clear hcc hx
  by_cases h3 : (x.toNat : Int) < 48
  · have HE := Lib.hid (show R = (0, (p : Int), 3) by rw [HR2.out, if_pos (by unfold isD; omega)])
    go_enter Tryd.func48, Tryd.ntmps48
    go_wp2_with fail
    exact bodyPost_ret (v := .tuple #[.int .i64 0, .int .i64 (p : Int), .int .i64 3]) (by simp [results, Tryd.results48, go_sem]) rfl ⟨by rw [HE.out], Below.refl _ _⟩
  replace h3 : (48 : Int) ≤ x.toNat := by omega
  by_cases h4 : (57 : Int) < x.toNat
  · have HE := Lib.hid (show R = (0, (p : Int), 3) by rw [HR2.out, if_pos (by unfold isD; omega)])
    go_enter Tryd.func48, Tryd.ntmps48
    go_wp2_with fail
    exact bodyPost_ret (v := .tuple #[.int .i64 0, .int .i64 (p : Int), .int .i64 3]) (by simp [results, Tryd.results48, go_sem]) rfl ⟨by rw [HE.out], Below.refl _ _⟩
  replace h4 : (x.toNat : Int) ≤ 57 := by omega
  have HR3 := Lib.hid (HR2.out.trans (if_neg (by unfold isD; omega)))
  by_cases h5 : x = 48
  · have HE := Lib.hid (show R = (0, (p : Int) + 1, 0) by rw [HR3.out, if_pos h5])
    have t5 : ((x.toNat : Int) == 48) = true := by rw [h5]; rfl
    have H5 := Lib.hid h5
    clear h5
    go_enter Tryd.func48, Tryd.ntmps48
    go_wp2_with fail
    exact bodyPost_ret (v := .tuple #[.int .i64 0, .int .i64 ((p : Int) + 1), .int .i64 0]) (by simp [results, Tryd.results48, go_sem]) rfl ⟨by rw [HE.out], Below.refl _ _⟩
  have t5 : ((x.toNat : Int) == 48) = false := by
    have : x.toNat ≠ 48 := fun h => h5 (UInt8.toNat_inj.1 h)
    simp; omega
  have HR4 := Lib.hid (HR3.out.trans (if_neg h5))
  have H5 := Lib.hid h5
  clear h5
  obtain ⟨Z, hZ⟩ : ∃ Z, Z = lenScan M 0 (l.drop p) := ⟨_, rfl⟩
  rw [← hZ] at HR4
  have HZ := Lib.hid hZ
  clear hZ
  go_enter Tryd.func48, Tryd.ntmps48
  go_wp2_with fail
  clear t5 h3 h4 c0 hx255
  go_loop [9, 10] (fun n' i' => ∃ m k : Nat, p + k ≤ len ∧ m ≤ M ∧ n' = .int .i64 m ∧ i' = .int .i64 ((p : Int) + (k : Int)) ∧ Hid (Z = (lenScan M m (l.drop (p + k))).map fun q => (q.1, q.2 + k))) (fun _ i' => len - (intOf i').toNat)
  case atStart => exact ⟨0, 0, by omega, Nat.zero_le _, rfl, by go_num, Lib.hid (by rw [HZ.out]; simp)⟩
  case round =>
    obtain ⟨m, k, hk, hmM, rfl, rfl, HD⟩ := hrel
    obtain ⟨i, hi⟩ : ∃ i : Nat, i = p + k := ⟨_, rfl⟩
    have hik : (p : Int) + (k : Int) = (i : Int) := by omega
    rw [hik]
    have HI := Lib.hid hi
    have HIK := Lib.hid hik
    rw [← hi] at hk HD
    clear hik
    by_cases hlt : i < len
    · have c1 := HC.out i hlt
      obtain ⟨y, hy⟩ : ∃ y, y = l.getD i 0 := ⟨_, rfl⟩
      rw [← hy] at c1
      have HT := Lib.hid (lenScan_step M m l i (by have := HL.out; omega) y hy)
      have hy255 := y.toNat_lt
      have hiI : (i : Int) < len := by omega
      clear hy hi
      by_cases d1 : (48 : Int) ≤ y.toNat
      · by_cases d2 : (y.toNat : Int) ≤ 57
        · obtain ⟨d, hd⟩ : ∃ d : Nat, (y.toNat : Int) - 48 = (d : Int) := ⟨y.toNat - 48, by omega⟩
          have hd9 : d ≤ 9 := by omega
          have HDD := Lib.hid (show y.toNat - 48 = d by omega)
          have HT2 := Lib.hid (HT.out.trans (if_pos (show isD y by unfold isD; omega)))
          rw [HDD.out] at HT2
          by_cases hov : M < 10 * m + d
          · have HE := Lib.hid (show R = (0, (p : Int), 4) by rw [HR4.out, HD.out, HT2.out, if_pos hov]; rfl)
            have hw1 : IntKind.u8.wrap ((y.toNat : Int) - 48) = (d : Int) := by rw [IntKind.wrap_u8, hd]; omega
            have hm9 : (m : Int) ≤ 900000000000000000 := by omega
            have hov' : (M : Int) < 10 * m + d := by omega
            go_wp2_with fail
            exact bodyPost_ret (v := .tuple #[.int .i64 0, .int .i64 p, .int .i64 4]) (by simp [results, Tryd.results48, go_sem]) rfl ⟨by rw [HE.out], Below.refl _ _⟩
          · have HE := Lib.hid (show Z = (lenScan M (10 * m + d) (l.drop (p + (k + 1)))).map fun q => (q.1, q.2 + (k + 1)) by
              rw [HD.out, HT2.out, if_neg hov, map_two]; rw [show i + 1 = p + (k + 1) by have := HI.out; omega])
            have hm9 : (m : Int) ≤ 900000000000000000 := by omega
            have hov' : 10 * (m : Int) + d ≤ M := by omega
            go_wp2_with fail
            go_round
            case rel => exact ⟨10 * m + d, k + 1, by have := HI.out; omega, by omega, by go_num, by have := HIK.out; congr 1; omega, HE⟩
            case measure => simp [intOf]; omega
        · have d2' : (57 : Int) < y.toNat := by omega
          have HE := Lib.hid (show R = (((m : Nat) : Int), (i : Int), 0) by rw [HR4.out, HD.out, HT.out, if_neg (by unfold isD; omega)]; have := HI.out; simp; omega)
          clear d2
          go_wp2_with fail
          exact bodyPost_ret (v := .tuple #[.int .i64 m, .int .i64 i, .int .i64 0]) (by simp [results, Tryd.results48, go_sem]) rfl ⟨by rw [HE.out], Below.refl _ _⟩
      · have d1' : (y.toNat : Int) < 48 := by omega
        have HE := Lib.hid (show R = (((m : Nat) : Int), (i : Int), 0) by rw [HR4.out, HD.out, HT.out, if_neg (by unfold isD; omega)]; have := HI.out; simp; omega)
        clear d1
        go_wp2_with fail
        exact bodyPost_ret (v := .tuple #[.int .i64 m, .int .i64 i, .int .i64 0]) (by simp [results, Tryd.results48, go_sem]) rfl ⟨by rw [HE.out], Below.refl _ _⟩
    · obtain rfl : i = len := by omega
      have HE := Lib.hid (show R = (((m : Nat) : Int), (i : Int), 0) by rw [HR4.out, HD.out, lenScan_end _ _ _ _ (by have := HL.out; omega)]; have := HI.out; simp; omega)
      clear hi
      go_wp2_with fail
      exact bodyPost_ret (v := .tuple #[.int .i64 m, .int .i64 i, .int .i64 0]) (by simp [results, Tryd.results48, go_sem]) rfl ⟨by rw [HE.out], Below.refl _ _⟩
end Go.Proofs.YtcflgoddfakepaaDoor
namespace Go.Proofs.YtcflgoddfakepaaDoor
open Go.RowKit

def valA (a : Nat) (w : List UInt8) : Nat := w.foldl (fun a c => 10 * a + (c.toNat - 48)) a
theorem valA_nil (a : Nat) : valA a [] = a := by unfold valA; rw [List.foldl_nil]
theorem valA_cons (a : Nat) (c : UInt8) (t : List UInt8) : valA a (c :: t) = valA (10 * a + (c.toNat - 48)) t := by unfold valA; rw [List.foldl_cons]
theorem valA_ge (w : List UInt8) : ∀ (a : Nat), a ≤ valA a w := by
  induction w with
  | nil => intro a; rw [valA_nil]; exact Nat.le_refl _
  | cons c t ih => intro a; rw [valA_cons]; exact Nat.le_trans (show a ≤ 10 * a + (c.toNat - 48) by omega) (ih _)
theorem valA_snoc (w : List UInt8) (a : Nat) (c : UInt8) : valA a (w ++ [c]) = 10 * valA a w + (c.toNat - 48) := by
  unfold valA; rw [List.foldl_append, List.foldl_cons, List.foldl_nil]
theorem lenScan_app (M : Nat) (r : List UInt8) (w : List UInt8) : ∀ (a : Nat), (∀ c ∈ w, isD c) → a ≤ M → lenScan M a (w ++ r) = if M < valA a w then none else (lenScan M (valA a w) r).map fun p => (p.1, p.2 + w.length) := by
  induction w with
  | nil =>
    intro a _ ha
    rw [List.nil_append, valA_nil, if_neg (by omega)]
    cases lenScan M a r <;> simp
  | cons c t ih =>
    intro a h ha
    have hc := h c (List.mem_cons_self ..)
    rw [List.cons_append, lenScan, if_pos hc, valA_cons]
    by_cases ho : M < 10 * a + (c.toNat - 48)
    · have := valA_ge t (10 * a + (c.toNat - 48))
      rw [if_pos ho, if_pos (by omega)]
    · rw [if_neg ho, ih _ (fun d hd => h d (List.mem_cons_of_mem _ hd)) (by omega)]
      split
      · rfl
      · generalize lenScan M (valA (10 * a + (c.toNat - 48)) t) r = z
        cases z with
        | none => rfl
        | some p => simp only [Option.map_some, List.length_cons]; rw [Nat.add_assoc]

theorem dec_facts : ∀ (u : Nat), (∀ c ∈ Lib.decDigits u, isD c) ∧ valA 0 (Lib.decDigits u) = u ∧ (0 < u → (Lib.decDigits u).getD 0 0 ≠ 48) ∧ 0 < (Lib.decDigits u).length := by
  intro u
  induction u using Nat.strongRecOn with
  | _ u ih =>
    rw [Lib.decDigits]
    split
    · rename_i h
      have e : (UInt8.ofNat (48 + u)).toNat = 48 + u := by simp; omega
      refine ⟨fun c hc => ?_, ?_, fun h0 => ?_, by simp⟩
      · rw [List.mem_singleton.1 hc]; unfold isD; rw [e]; omega
      · rw [valA_cons, valA_nil, e]; omega
      · show UInt8.ofNat (48 + u) ≠ 48
        intro h2
        have := congrArg UInt8.toNat h2
        rw [e] at this
        simp at this; omega
    · rename_i h
      obtain ⟨i1, i2, i3, i4⟩ := ih (u / 10) (by omega)
      have e : (UInt8.ofNat (48 + u % 10)).toNat = 48 + u % 10 := by simp; omega
      refine ⟨fun c hc => ?_, ?_, fun _ => ?_, by simp⟩
      · rcases List.mem_append.1 hc with hc | hc
        · exact i1 c hc
        · rw [List.mem_singleton.1 hc]; unfold isD; rw [e]; omega
      · rw [valA_snoc, i2, e]; omega
      · have := i3 (by omega)
        rw [List.getD_eq_getElem?_getD, List.getElem?_append_left i4, ← List.getD_eq_getElem?_getD]; exact this

theorem back_len (n : Int) (h0 : 0 ≤ n) (t : List UInt8) (ht : ∀ c r, t = c :: r → ¬ isD c) (M : Nat) (hM : n.toNat ≤ M) : lenR (numL n ++ t) 0 M = (n, ((numL n).length : Int), 0) := by
  obtain ⟨d1, d2, d3, d4⟩ := dec_facts n.toNat
  unfold numL at *
  obtain ⟨L, hL⟩ : ∃ L, L = Lib.decDigits n.toNat := ⟨_, rfl⟩
  rw [← hL] at d1 d2 d3 d4 ⊢
  have hg : (L ++ t).getD 0 0 = L.getD 0 0 := by simp [List.getD_eq_getElem?_getD, List.getElem?_append_left d4]
  have hd : isD (L.getD 0 0) := d1 _ (by simp [List.getD_eq_getElem?_getD, List.getElem?_eq_getElem d4])
  unfold lenR
  rw [if_neg (by omega), if_neg (by rw [List.length_append]; omega), Int.toNat_zero, hg, if_neg (fun h => h hd)]
  by_cases hn : n = 0
  · subst hn
    have : L = [48] := by rw [hL, Lib.decDigits]; rfl
    subst this
    rfl
  · have h1 := d3 (by omega)
    rw [if_neg h1, List.drop_zero, lenScan_app M t L 0 d1 (Nat.zero_le _), d2, if_neg (by omega)]
    have : lenScan M n.toNat t = some (n.toNat, 0) := by
      cases t with
      | nil => rfl
      | cons c r => unfold lenScan; rw [if_neg (ht c r rfl)]
    rw [this]
    simp; omega
end Go.Proofs.YtcflgoddfakepaaDoor
namespace Go.Proofs.YtcflgoddfakepaaDoor
open Go.RowKit

theorem digits_split {a b : List UInt8} {c d : UInt8} {x y : List UInt8} (ha : ∀ z ∈ a, isD z) (hb : ∀ z ∈ b, isD z) (hc : ¬ isD c) (hd : ¬ isD d) (h : a ++ c :: x = b ++ d :: y) : a = b ∧ c = d ∧ x = y := by
  induction a generalizing b with
  | nil =>
    cases b with
    | nil => simp at h; exact ⟨rfl, h.1, h.2⟩
    | cons z r => simp at h; exact absurd (h.1 ▸ hb z List.mem_cons_self) hc
  | cons z r ih =>
    cases b with
    | nil => simp at h; exact absurd (h.1.symm ▸ ha z List.mem_cons_self) hd
    | cons z' r' =>
      simp only [List.cons_append, List.cons.injEq] at h
      obtain ⟨rfl, h⟩ := h
      obtain ⟨rfl, h2, h3⟩ := ih (fun z hz => ha z (List.mem_cons_of_mem _ hz)) (fun z hz => hb z (List.mem_cons_of_mem _ hz)) h
      exact ⟨rfl, h2, h3⟩
theorem not_isD {c : UInt8} (h : c.toNat < 48 ∨ 57 < c.toNat) : ¬ isD c := by unfold isD; omega
theorem numL_facts (n : Nat) : (∀ c ∈ numL (n : Int), isD c) ∧ valA 0 (numL (n : Int)) = n ∧ 0 < (numL (n : Int)).length := by
  have := dec_facts n
  unfold numL
  rw [Int.toNat_natCast]
  exact ⟨this.1, this.2.1, this.2.2.2⟩
theorem numL_inj {n m : Nat} (h : numL (n : Int) = numL (m : Int)) : n = m := by rw [← (numL_facts n).2.1, ← (numL_facts m).2.1, h]
theorem textL_inj {l l' r r' : List UInt8} (h : textL l ++ r = textL l' ++ r') : l = l' ∧ r = r' := by
  simp only [textL, List.append_assoc, List.cons_append] at h
  obtain ⟨h1, _, h2⟩ := digits_split (numL_facts _).1 (numL_facts _).1 (not_isD (c := 58) (by decide)) (not_isD (c := 58) (by decide)) h
  have := numL_inj h1
  exact List.append_inj h2 this
theorem textL_head (l r : List UInt8) : ∃ c t, textL l ++ r = c :: t ∧ isD c := by
  obtain ⟨h1, _, h2⟩ := numL_facts l.length
  obtain ⟨c, t, e⟩ : ∃ c t, numL (l.length : Int) = c :: t := by
    cases e : numL (l.length : Int) with
    | nil => rw [e] at h2; cases h2
    | cons c t => exact ⟨c, t, rfl⟩
  refine ⟨c, t ++ 58 :: (l ++ r), ?_, h1 c (by rw [e]; exact List.mem_cons_self)⟩
  simp [textL, e]
/-- how a form begins -/
theorem form_head (s : Sx) (r : List UInt8) : ∃ c t, s.form ++ r = c :: t ∧ ((s.l = true ∧ c = 40) ∨ (s.l = false ∧ s.h = true ∧ c = 91) ∨ (s.l = false ∧ s.h = false ∧ isD c)) := by
  obtain ⟨l, h, hi, da, ks⟩ := s
  rw [form_def]
  cases l with
  | true => exact ⟨40, _, rfl, .inl ⟨rfl, rfl⟩⟩
  | false =>
    cases h with
    | true => exact ⟨91, _, rfl, .inr (.inl ⟨rfl, rfl, rfl⟩)⟩
    | false =>
      obtain ⟨c, t, e, hd⟩ := textL_head da r
      exact ⟨c, t, by simpa using e, .inr (.inr ⟨rfl, rfl, hd⟩)⟩
theorem form_not_end (s : Sx) (r r' : List UInt8) : s.form ++ r ≠ 41 :: r' := by
  intro h
  obtain ⟨c, t, e, h2⟩ := form_head s r
  rw [e] at h
  simp only [List.cons.injEq] at h
  obtain ⟨rfl, _⟩ := h
  rcases h2 with ⟨_, h2⟩ | ⟨_, _, h2⟩ | ⟨_, _, h2⟩
  · exact absurd h2 (by decide)
  · exact absurd h2 (by decide)
  · exact absurd h2 (not_isD (by decide))
theorem clean_parts {l h : Bool} {hi da : List UInt8} {ks : List Sx} (hc : (Sx.mk l h hi da ks).clean = true) :
    (l = true → h = false ∧ hi = [] ∧ da = []) ∧ (l = false → ks = [] ∧ (h = false → hi = [])) ∧ ∀ k ∈ ks, k.clean = true := by
  rw [clean_def, Bool.and_eq_true] at hc
  refine ⟨fun e => ?_, fun e => ?_, fun k hk => ?_⟩
  · subst e; have := hc.1; unfold headOk at this; simpa [and_assoc] using this
  · subst e
    have := hc.1
    unfold headOk at this
    simp at this
    exact ⟨this.1, fun e => by subst e; simpa using this.2⟩
  · by_cases e : k.clean = true
    · exact e
    · have := Sx.cleanL_no hk (by simpa using e)
      rw [this] at hc
      cases hc.2
theorem form_inj (s : Sx) : ∀ (t : Sx) (r r' : List UInt8), s.clean = true → t.clean = true → s.form ++ r = t.form ++ r' → s = t ∧ r = r' := by
  induction s using Sx.ind with
  | h l hh hi da ks ih =>
    intro t r r' hc hc' h
    obtain ⟨l2, h2, hi2, da2, ks2⟩ := t
    obtain ⟨c, x, e1, k1⟩ := form_head (.mk l hh hi da ks) r
    obtain ⟨c', x', e2, k2⟩ := form_head (.mk l2 h2 hi2 da2 ks2) r'
    have ec : c = c' := by rw [e1, e2] at h; exact (List.cons.injEq .. ▸ h).1
    subst ec
    obtain ⟨p1, p2, p3⟩ := clean_parts hc
    obtain ⟨q1, q2, q3⟩ := clean_parts hc'
    simp only [Sx.l, Sx.h] at k1 k2
    have d1 : ¬ isD 40 := not_isD (by decide)
    have d2 : ¬ isD 91 := not_isD (by decide)
    rcases k1 with ⟨rfl, rfl⟩ | ⟨rfl, rfl, rfl⟩ | ⟨rfl, rfl, k1⟩
    · rcases k2 with ⟨rfl, _⟩ | ⟨_, _, k2⟩ | ⟨_, _, k2⟩
      · obtain ⟨rfl, rfl, rfl⟩ := p1 rfl
        obtain ⟨rfl, rfl, rfl⟩ := q1 rfl
        rw [form_def, form_def, if_pos rfl, if_pos rfl] at h
        simp only [List.cons_append, List.cons.injEq, List.append_assoc, true_and, List.nil_append] at h
        clear e1 e2 hc hc' p1 p2 q1 q2 x x'
        have key : ks = ks2 ∧ r = r' := by
          induction ks generalizing ks2 with
          | nil =>
            cases ks2 with
            | nil => simp [Sx.formL] at h; exact ⟨rfl, h⟩
            | cons y s =>
              simp only [Sx.formL, List.nil_append, List.append_assoc] at h
              exact absurd h.symm (form_not_end y _ _)
          | cons y s ihs =>
            cases ks2 with
            | nil =>
              simp only [Sx.formL, List.nil_append, List.append_assoc] at h
              exact absurd h (form_not_end y _ _)
            | cons y' s' =>
              simp only [Sx.formL, List.append_assoc] at h
              obtain ⟨rfl, h3⟩ := ih y List.mem_cons_self y' _ _ (p3 y List.mem_cons_self) (q3 y' List.mem_cons_self) h
              obtain ⟨rfl, h4⟩ := ihs (fun k hk => ih k (List.mem_cons_of_mem _ hk)) s' (fun k hk => p3 k (List.mem_cons_of_mem _ hk)) (fun k hk => q3 k (List.mem_cons_of_mem _ hk)) h3
              exact ⟨rfl, h4⟩
        obtain ⟨rfl, rfl⟩ := key
        exact ⟨rfl, rfl⟩
      · exact absurd k2 (by decide)
      · exact absurd k2 d1
    · rcases k2 with ⟨_, k2⟩ | ⟨rfl, rfl, _⟩ | ⟨_, _, k2⟩
      · exact absurd k2 (by decide)
      · obtain ⟨rfl, _⟩ := p2 rfl
        obtain ⟨rfl, _⟩ := q2 rfl
        rw [form_def, form_def] at h
        simp only [Bool.false_eq_true, if_false, if_true, List.cons_append, List.cons.injEq, List.append_assoc, true_and, List.nil_append] at h
        obtain ⟨rfl, h3⟩ := textL_inj h
        simp only [List.cons.injEq, true_and] at h3
        obtain ⟨rfl, rfl⟩ := textL_inj h3
        exact ⟨rfl, rfl⟩
      · exact absurd k2 d2
    · rcases k2 with ⟨_, k2⟩ | ⟨_, _, k2⟩ | ⟨rfl, rfl, _⟩
      · exact absurd (k2 ▸ k1) d1
      · exact absurd (k2 ▸ k1) d2
      · obtain ⟨rfl, f1⟩ := p2 rfl
        obtain ⟨rfl, f2⟩ := q2 rfl
        obtain rfl := f1 rfl
        obtain rfl := f2 rfl
        rw [form_def, form_def] at h
        simp only [Bool.false_eq_true, if_false, List.nil_append] at h
        obtain ⟨rfl, rfl⟩ := textL_inj h
        exact ⟨rfl, rfl⟩
theorem form_same {s t : Sx} (hs : s.clean = true) (ht : t.clean = true) : (s.form == t.form) = s.same t := by
  rw [Bool.eq_iff_iff, beq_iff_eq, Sx.same_iff]
  exact ⟨fun h => (form_inj s t [] [] hs ht (by rw [h])).1, fun h => by rw [h]⟩
end Go.Proofs.YtcflgoddfakepaaDoor
namespace Go.Proofs.YtcflgoddfakepaaDoor
open Go.RowKit
set_option linter.unusedSimpArgs false
set_option linter.unusedVariables false

/-- what is not great, and holds not more values than an int counts -/
theorem great_no {s : Sx} (h : s.great 0 = false) (hn : s.nodes < 4611686018427387904) : s.wide 0 = false ∧ s.nodes ≤ 2000 := by
  have hw : s.wide 0 = false := by
    by_cases e : s.wide 0 = true
    · rw [great_yes e] at h; cases h
    · simpa using e
  refine ⟨hw, ?_⟩
  rw [great_zero hw, wrap_of _ (by omega)] at h
  have := of_decide_eq_false h
  omega
theorem great_form {s : Sx} (h : s.great 0 = false) (hn : s.nodes < 4611686018427387904) : s.deep ≤ 4611686018427387904 ∧ (s.nodes ≤ 512 → s.form.length ≤ 70368744177664) := by
  obtain ⟨h1, h2⟩ := great_no h hn
  have := deep_wide s 0 h1
  have := form_wide s 0 h1
  exact ⟨by omega, fun _ => by omega⟩
/-- a test, as a letter -/
theorem letter (b : Bool) : ∃ c, c = b := ⟨b, rfl⟩

set_option maxHeartbeats 16000000 in
set_option maxRecDepth 100000 in
theorem SexpOne_walk (v1 : SV) (s1 : Sx) (v2 : SV) (s2 : Sx) (w : World) (htab : Tab w) (h1 : Rd w v1 s1) (b1 : s1.nodes < 4611686018427387904) (h2 : Rd w v2 s2) (b2 : s2.nodes < 4611686018427387904) :
    Calls Tryd.prog 3 #[v1.val, v2.val] w fun e w' => e = .returned (.bool true) ∧ Below w.heap.size w w' := by
  obtain ⟨vl1, vh1, p11, pn11, pc11, p12, pn12, pc12, p13, pn13, pc13⟩ := v1
  obtain ⟨vl2, vh2, p21, pn21, pc21, p22, pn22, pc22, p23, pn23, pc23⟩ := v2
  have HR1 := Lib.hid h1
  have HR2 := Lib.hid h2
  have HT := Lib.hid htab
  have HB0 : Below w.heap.size w ((w.alloc (.cells #[.bool vl1, .bool vh1, .slice p11 pn11 pc11, .slice p12 pn12 pc12, .slice p13 pn13 pc13] 25)).alloc (.cells #[.bool vl2, .bool vh2, .slice p21 pn21 pc21, .slice p22 pn22 pc22, .slice p23 pn23 pc23] 25)) := ((Below.refl _ _).alloc (Nat.le_refl _) _).alloc (by simp) _
  have x1_0 : Box ((w.alloc (.cells #[.bool vl1, .bool vh1, .slice p11 pn11 pc11, .slice p12 pn12 pc12, .slice p13 pn13 pc13] 25)).alloc (.cells #[.bool vl2, .bool vh2, .slice p21 pn21 pc21, .slice p22 pn22 pc22, .slice p23 pn23 pc23] 25)) w.heap.size 25 #[.bool vl1, .bool vh1, .slice p11 pn11 pc11, .slice p12 pn12 pc12, .slice p13 pn13 pc13] := (Box.new _ _ _).alloc _
  have x2_0 : Box ((w.alloc (.cells #[.bool vl1, .bool vh1, .slice p11 pn11 pc11, .slice p12 pn12 pc12, .slice p13 pn13 pc13] 25)).alloc (.cells #[.bool vl2, .bool vh2, .slice p21 pn21 pc21, .slice p22 pn22 pc22, .slice p23 pn23 pc23] 25)) (w.heap.size + 1) 25 #[.bool vl2, .bool vh2, .slice p21 pn21 pc21, .slice p22 pn22 pc22, .slice p23 pn23 pc23] := by
    have := Box.new (w.alloc (.cells #[.bool vl1, .bool vh1, .slice p11 pn11 pc11, .slice p12 pn12 pc12, .slice p13 pn13 pc13] 25)) 25 #[.bool vl2, .bool vh2, .slice p21 pn21 pc21, .slice p22 pn22 pc22, .slice p23 pn23 pc23]
    simpa using this
  replace x1_0 := Lib.hid x1_0
  replace x2_0 := Lib.hid x2_0
  obtain ⟨g1, hg1⟩ := letter (s1.great 0)
  obtain ⟨g2, hg2⟩ := letter (s2.great 0)
  have HG1 := Lib.hid hg1
  have HG2 := Lib.hid hg2
  have CG1 := Lib.hid (fun w h => great_any s1 ⟨vl1, vh1, p11, pn11, pc11, p12, pn12, pc12, p13, pn13, pc13⟩ 0 w h (by omega))
  have CG2 := Lib.hid (fun w h => great_any s2 ⟨vl2, vh2, p21, pn21, pc21, p22, pn22, pc22, p23, pn23, pc23⟩ 0 w h (by omega))
  rw [← hg1] at CG1
  rw [← hg2] at CG2
  clear hg1 hg2 h1 h2 htab
  show Calls _ _ #[.agg #[.bool vl1, .bool vh1, .slice p11 pn11 pc11, .slice p12 pn12 pc12, .slice p13 pn13 pc13], .agg #[.bool vl2, .bool vh2, .slice p21 pn21 pc21, .slice p22 pn22 pc22, .slice p23 pn23 pc23]] _ _
  go_enter Tryd.func3, Tryd.ntmps3
  go_upto_region 1 with fail
  change Code.wp _ _ _ _ ((w.alloc (.cells #[.bool vl1, .bool vh1, .slice p11 pn11 pc11, .slice p12 pn12 pc12, .slice p13 pn13 pc13] 25)).alloc (.cells #[.bool vl2, .bool vh2, .slice p21 pn21 pc21, .slice p22 pn22 pc22, .slice p23 pn23 pc23] 25))
  generalize ((w.alloc (.cells #[.bool vl1, .bool vh1, .slice p11 pn11 pc11, .slice p12 pn12 pc12, .slice p13 pn13 pc13] 25)).alloc (.cells #[.bool vl2, .bool vh2, .slice p21 pn21 pc21, .slice p22 pn22 pc22, .slice p23 pn23 pc23] 25)) = w0 at *
  go_wp2_with (refine wpList_load_box rfl 25 _ rfl x1_0.out (by rfl) Tryd.underlying25 rfl (by kernel_rfl) ?_)
  refine (CG1.out _ (HR1.out.after HB0)).mono ?_
  rintro e w1 ⟨rfl, hb1⟩
  have HB1 := HB0.trans (hb1.mono HB0.size)
  have x1_1 := Lib.hid (x1_0.out.after hb1)
  have x2_1 := Lib.hid (x2_0.out.after hb1)
  clear hb1
  cases g1 with
  | true =>
    go_wp2_with fail
    refine (awakeX_any _ (HT.out.after HB1)).mono ?_
    rintro e w9 ⟨rfl, hb9⟩
    have HB9 := HB1.trans (hb9.mono HB1.size)
    clear hb9
    go_wp2_with fail
    go_ret
    exact ⟨rfl, HB9⟩
  | false =>
    go_wp2_with (refine wpList_load_box rfl 25 _ rfl x2_1.out (by rfl) Tryd.underlying25 rfl (by kernel_rfl) ?_)
    refine (CG2.out _ (HR2.out.after HB1)).mono ?_
    rintro e w2 ⟨rfl, hb2⟩
    have HB2 := HB1.trans (hb2.mono HB1.size)
    have x1_2 := Lib.hid (x1_1.out.after hb2)
    have x2_2 := Lib.hid (x2_1.out.after hb2)
    clear hb2
    cases g2 with
    | true =>
      go_wp2_with fail
      refine (awakeX_any _ (HT.out.after HB2)).mono ?_
      rintro e w9 ⟨rfl, hb9⟩
      have HB9 := HB2.trans (hb9.mono HB2.size)
      clear hb9
      go_wp2_with fail
      go_ret
      exact ⟨rfl, HB9⟩
    | false =>
      obtain ⟨y1, hy1⟩ := letter s1.may
      obtain ⟨y2, hy2⟩ := letter s2.may
      have HY1 := Lib.hid hy1
      have HY2 := Lib.hid hy2
      have f1 := great_form HG1.out.symm b1
      have f2 := great_form HG2.out.symm b2
      have CM1 := Lib.hid (fun w h => refMay_any s1 ⟨vl1, vh1, p11, pn11, pc11, p12, pn12, pc12, p13, pn13, pc13⟩ w h b1 f1.1 f1.2)
      have CM2 := Lib.hid (fun w h => refMay_any s2 ⟨vl2, vh2, p21, pn21, pc21, p22, pn22, pc22, p23, pn23, pc23⟩ w h b2 f2.1 f2.2)
      rw [← hy1] at CM1
      rw [← hy2] at CM2
      have HW1 := Lib.hid (great_no HG1.out.symm b1).1
      have HW2 := Lib.hid (great_no HG2.out.symm b2).1
      clear hy1 hy2 f1 f2
      go_wp2_with (refine wpList_load_box rfl 25 _ rfl x1_2.out (by rfl) Tryd.underlying25 rfl (by kernel_rfl) ?_)
      refine (CM1.out _ (HR1.out.after HB2)).mono ?_
      rintro e w3 ⟨rfl, hb3⟩
      have HB3 := HB2.trans (hb3.mono HB2.size)
      have x1_3 := Lib.hid (x1_2.out.after hb3)
      have x2_3 := Lib.hid (x2_2.out.after hb3)
      clear hb3
      cases y1 with
      | false =>
        go_wp2_with fail
        refine (awakeX_any _ (HT.out.after HB3)).mono ?_
        rintro e w9 ⟨rfl, hb9⟩
        have HB9 := HB3.trans (hb9.mono HB3.size)
        clear hb9
        go_wp2_with fail
        go_ret
        exact ⟨rfl, HB9⟩
      | true =>
        go_wp2_with (refine wpList_load_box rfl 25 _ rfl x2_3.out (by rfl) Tryd.underlying25 rfl (by kernel_rfl) ?_)
        refine (CM2.out _ (HR2.out.after HB3)).mono ?_
        rintro e w4 ⟨rfl, hb4⟩
        have HB4 := HB3.trans (hb4.mono HB3.size)
        have x1_4 := Lib.hid (x1_3.out.after hb4)
        have x2_4 := Lib.hid (x2_3.out.after hb4)
        clear hb4
        cases y2 with
        | false =>
          go_wp2_with fail
          refine (awakeX_any _ (HT.out.after HB4)).mono ?_
          rintro e w9 ⟨rfl, hb9⟩
          have HB9 := HB4.trans (hb9.mono HB4.size)
          clear hb9
          go_wp2_with fail
          go_ret
          exact ⟨rfl, HB9⟩
        | true =>
          go_wp2_with (refine wpList_load_box rfl 25 _ rfl x1_4.out (by rfl) Tryd.underlying25 rfl (by kernel_rfl) ?_)
          refine (put_all s1 ⟨vl1, vh1, p11, pn11, pc11, p12, pn12, pc12, p13, pn13, pc13⟩ _ (HR1.out.after HB4) 0 HW1.out (HT.out.after HB4)).mono ?_
          rintro e w5 (⟨_, q1, rfl, ho1, hb5⟩ | ⟨hno, _⟩)
          case inr => rw [← HY1.out] at hno; cases hno
          obtain ⟨a1, c1, rfl, hs1⟩ := ho1.sl
          have HB5 := HB4.trans (hb5.mono HB4.size)
          have x1_5 := Lib.hid (x1_4.out.after hb5)
          have x2_5 := Lib.hid (x2_4.out.after hb5)
          have HS1 := Lib.hid hs1
          clear ho1 hs1 hb5
          go_upto_region 4 with fail
          go_wp2_with (refine wpList_load_box rfl 25 _ rfl x2_5.out (by rfl) Tryd.underlying25 rfl (by kernel_rfl) ?_)
          refine (put_all s2 ⟨vl2, vh2, p21, pn21, pc21, p22, pn22, pc22, p23, pn23, pc23⟩ _ (HR2.out.after HB5) 0 HW2.out (HT.out.after HB5)).mono ?_
          rintro e w6 (⟨_, q2, rfl, ho2, hb6⟩ | ⟨hno, _⟩)
          case inr => rw [← HY2.out] at hno; cases hno
          obtain ⟨a2, c2, rfl, hs2⟩ := ho2.sl
          have HB6 := HB5.trans (hb6.mono HB5.size)
          have x1_6 := Lib.hid (x1_5.out.after hb6)
          have x2_6 := Lib.hid (x2_5.out.after hb6)
          have HS1' := Lib.hid (HS1.out.after hb6)
          have HS2 := Lib.hid hs2
          clear ho2 hs2 hb6 HS1
          obtain ⟨r, hr⟩ := letter (s1.same s2)
          have HFS : Hid ((s1.form == s2.form) = r) := Lib.hid (by rw [hr]; exact form_same (by have := HY1.out; simp only [Sx.may, Bool.true_eq, Bool.and_eq_true] at this; exact this.1.1.1) (by have := HY2.out; simp only [Sx.may, Bool.true_eq, Bool.and_eq_true] at this; exact this.1.1.1))
          have CS : Hid (∀ w', Below w6.heap.size w6 w' → Calls Tryd.prog 14 #[.agg #[.bool vl1, .bool vh1, .slice p11 pn11 pc11, .slice p12 pn12 pc12, .slice p13 pn13 pc13], .agg #[.bool vl2, .bool vh2, .slice p21 pn21 pc21, .slice p22 pn22 pc22, .slice p23 pn23 pc23]] w' fun e w'' => e = .returned (.bool r) ∧ Below w'.heap.size w' w'') :=
            Lib.hid fun w' hb => by rw [hr]; exact refSame_any s1 s2 ⟨vl1, vh1, p11, pn11, pc11, p12, pn12, pc12, p13, pn13, pc13⟩ ⟨vl2, vh2, p21, pn21, pc21, p22, pn22, pc22, p23, pn23, pc23⟩ w' ((HR1.out.after HB6).after hb) ((HR2.out.after HB6).after hb)
          have CA : Hid (∀ w', Below w6.heap.size w6 w' → Calls Tryd.prog 12 #[] w' fun e w'' => e = .returned (.bool true) ∧ Below w'.heap.size w' w'') :=
            Lib.hid fun w' hb => awakeX_any w' ((HT.out.after HB6).after hb)
          obtain ⟨n1, hn1⟩ : ∃ n, n = s1.form.length := ⟨_, rfl⟩
          obtain ⟨n2, hn2⟩ : ∃ n, n = s2.form.length := ⟨_, rfl⟩
          rw [← hn1] at HS1' ⊢
          rw [← hn2] at HS2 ⊢
          obtain ⟨F1, hF1⟩ : ∃ F, F = s1.form := ⟨_, rfl⟩
          obtain ⟨F2, hF2⟩ : ∃ F, F = s2.form := ⟨_, rfl⟩
          rw [← hF1] at HS1' HFS
          rw [← hF2] at HS2 HFS
          have hcv1 := Lib.hid (fun w' (hb : Below w6.heap.size w6 w') => conv_sl (HS1'.out.after hb))
          have hcv2 := Lib.hid (fun w' (hb : Below w6.heap.size w6 w') => conv_sl (HS2.out.after hb))
          clear hr hn1 hn2 hF1 hF2 HS1' HS2
          go_upto_region 5 with fail
          refine wp_region_made w6.heap.size w6 rfl (by kernel_rfl) (Below.refl _ _) ?_
          refine wpQ_run rfl (.int .i64 0) (fun w' hw => by simp [go_sem]) ?_
          simp only [Act.put, List.setIfInBounds_toArray, List.set_cons_zero, List.set_cons_succ]
          refine wpQ_run rfl (.bool true) (fun w' hw => by simp [go_sem]) ?_
          simp only [Act.put, List.setIfInBounds_toArray, List.set_cons_zero, List.set_cons_succ]
          refine wpQ_run rfl (.bool true) (fun w' hw => by simp [go_sem]) ?_
          simp only [Act.put, List.setIfInBounds_toArray, List.set_cons_zero, List.set_cons_succ]
          refine wpQ_run rfl (.int .i64 0) (fun w' hw => by simp [go_sem]) ?_
          simp only [Act.put, List.setIfInBounds_toArray, List.set_cons_zero, List.set_cons_succ]
          refine wpQ_run rfl (.bool true) (fun w' hw => by simp [go_sem]) ?_
          simp only [Act.put, List.setIfInBounds_toArray, List.set_cons_zero, List.set_cons_succ]
          refine wpQ_run rfl (.bool true) (fun w' hw => by simp [go_sem]) ?_
          simp only [Act.put, List.setIfInBounds_toArray, List.set_cons_zero, List.set_cons_succ]
          refine wpQ_run rfl (.bool true) (fun w' hw => by simp [go_sem]) ?_
          simp only [Act.put, List.setIfInBounds_toArray, List.set_cons_zero, List.set_cons_succ]
          refine wpQ_run rfl (.slice a1 n1 c1) (fun w' hw => by simp [go_sem]) ?_
          simp only [Act.put, List.setIfInBounds_toArray, List.set_cons_zero, List.set_cons_succ]
          refine wpQ_run rfl (.string ⟨F1.toArray⟩) (fun w' hw => by simp [go_sem, hcv1.out w' hw]) ?_
          simp only [Act.put, List.setIfInBounds_toArray, List.set_cons_zero, List.set_cons_succ]
          refine wpQ_run rfl (.slice a2 n2 c2) (fun w' hw => by simp [go_sem]) ?_
          simp only [Act.put, List.setIfInBounds_toArray, List.set_cons_zero, List.set_cons_succ]
          refine wpQ_run rfl (.string ⟨F2.toArray⟩) (fun w' hw => by simp [go_sem, hcv2.out w' hw]) ?_
          simp only [Act.put, List.setIfInBounds_toArray, List.set_cons_zero, List.set_cons_succ]
          refine wpQ_run rfl (.bool r) (fun w' hw => by simp [go_sem, HFS.out]) ?_
          simp only [Act.put, List.setIfInBounds_toArray, List.set_cons_zero, List.set_cons_succ]
          refine wpQ_load_box rfl 25 _ rfl x1_6.out (by rfl) x1_6.out.lt Tryd.underlying25 rfl (by kernel_rfl) ?_
          simp only [Act.put, List.setIfInBounds_toArray, List.set_cons_zero, List.set_cons_succ]
          refine wpQ_load_box rfl 25 _ rfl x2_6.out (by rfl) x2_6.out.lt Tryd.underlying25 rfl (by kernel_rfl) ?_
          simp only [Act.put, List.setIfInBounds_toArray, List.set_cons_zero, List.set_cons_succ]
          refine wpQ_callS rfl 14 #[.agg #[.bool vl1, .bool vh1, .slice p11 pn11 pc11, .slice p12 pn12 pc12, .slice p13 pn13 pc13], .agg #[.bool vl2, .bool vh2, .slice p21 pn21 pc21, .slice p22 pn22 pc22, .slice p23 pn23 pc23]] (fun w' => by simp [go_sem]) (.bool r) (Nat.le_refl _) CS.out ?_
          simp only [Act.put, List.setIfInBounds_toArray, List.set_cons_zero, List.set_cons_succ]
          refine wpQ_run rfl (.bool true) (fun w' hw => by cases r <;> simp [go_sem]) ?_
          simp only [Act.put, List.setIfInBounds_toArray, List.set_cons_zero, List.set_cons_succ]
          refine wpQ_run rfl (.bool true) (fun w' hw => by simp [go_sem]) ?_
          simp only [Act.put, List.setIfInBounds_toArray, List.set_cons_zero, List.set_cons_succ]
          refine wpQ_run rfl (.bool true) (fun w' hw => by simp [go_sem]) ?_
          simp only [Act.put, List.setIfInBounds_toArray, List.set_cons_zero, List.set_cons_succ]
          refine wpQ_callS rfl 12 #[] (fun w' => by simp [go_sem]) (.bool true) (Nat.le_refl _) CA.out ?_
          simp only [Act.put, List.setIfInBounds_toArray, List.set_cons_zero, List.set_cons_succ]
          refine wpQ_run rfl (.bool true) (fun w' hw => by simp [go_sem]) ?_
          simp only [Act.put, List.setIfInBounds_toArray, List.set_cons_zero, List.set_cons_succ]
          refine wpQ_run rfl (.bool true) (fun w' hw => by simp [go_sem]) ?_
          simp only [Act.put, List.setIfInBounds_toArray, List.set_cons_zero, List.set_cons_succ]
          intro w7 hb7
          have HB7 := HB6.trans (hb7.mono HB6.size)
          clear hb7
          go_wp2_with fail
          go_ret
          exact ⟨rfl, HB7⟩

end Go.Proofs.YtcflgoddfakepaaDoor
namespace Go.Proofs.YtcflgoddfakepaaDoor
open Go.RowKit
set_option linter.unusedSimpArgs false
set_option linter.unusedVariables false

theorem add_str (a b : List UInt8) (h : a.length + b.length ≤ 140737488355328) (w : World) : (binOp .add 9 (.string ⟨a.toArray⟩) (.string ⟨b.toArray⟩)).run Tryd.prog w = .ok (.string ⟨(a ++ b).toArray⟩) w := by
  simp [go_sem]
  try rw [if_neg (by omega)]
  rw [cat_ba]
theorem wide_of (s : Sx) : ∀ m, s.clean = true → s.nodes ≤ 700 → s.form.length ≤ 5000 → s.deep + m ≤ 60 → s.wide m = false := by
  induction s using Sx.ind with
  | h l hh hi da ks ih =>
    intro m hc hn hf hd
    obtain ⟨p1, p2, p3⟩ := clean_parts hc
    have e1 : ∀ x : List UInt8, x.length ≤ (textL x).length := fun x => by simp [textL]; omega
    have hnd : ks.length ≤ Sx.nodesL ks := by
      clear ih hc hn hf hd p1 p2 p3
      induction ks with
      | nil => exact Nat.le_refl _
      | cons k r ihr => have := nodes_pos k; simp only [Sx.nodesL, List.length_cons]; omega
    simp only [Sx.nodes] at hn
    have hlen : hi.length ≤ 5000 ∧ da.length ≤ 5000 ∧ (Sx.formL ks).length ≤ 5000 := by
      rw [form_def] at hf
      have a1 := e1 hi
      have a2 := e1 da
      cases l with
      | true =>
        obtain ⟨_, rfl, rfl⟩ := p1 rfl
        simp only [if_true, List.length_cons, List.length_append, List.length_nil] at hf ⊢
        omega
      | false =>
        obtain ⟨rfl, p4⟩ := p2 rfl
        cases hh with
        | true => simp at hf; simp [Sx.formL]; omega
        | false =>
          obtain rfl := p4 rfl
          simp at hf
          simp [Sx.formL]
          omega
    have hkids : Sx.wideL ks (m + 1) = false := by
      have key : ∀ k ∈ ks, k.wide (m + 1) = false := fun k hk => by
        refine ih k hk (m + 1) (p3 k hk) ?_ ?_ ?_
        · have : k.nodes ≤ Sx.nodesL ks := by
            clear ih hc hn hf hd p1 p2 p3 hlen hnd
            induction ks with
            | nil => cases hk
            | cons a r ihr => rcases List.mem_cons.1 hk with rfl | hk
                              · simp only [Sx.nodesL]; omega
                              · have := ihr hk; simp only [Sx.nodesL]; omega
          omega
        · have := Sx.formL_mem hk; omega
        · have := Sx.deepL_mem hk
          cases l with
          | true => simp only [Sx.deep, if_true] at hd; omega
          | false => obtain ⟨rfl, _⟩ := p2 rfl; cases hk
      clear ih hc hn hf hd p1 p2 p3 hlen hnd
      induction ks with
      | nil => rfl
      | cons a r ihr => simp only [Sx.wideL, key a List.mem_cons_self, ihr (fun k hk => key k (List.mem_cons_of_mem _ hk))]; rfl
    rw [wide_def, decide_eq_false (show ¬ 60 < m by omega), decide_eq_false (show ¬ 700 < ks.length by omega), decide_eq_false (show ¬ 5000 < hi.length by omega), decide_eq_false (show ¬ 5000 < da.length by omega), hkids]
    rfl
theorem may_parts {s : Sx} (h : s.may = true) : s.clean = true ∧ s.nodes ≤ 512 ∧ s.deep ≤ 16 ∧ s.form.length ≤ 4096 := by
  simp only [Sx.may, Bool.and_eq_true, decide_eq_true_eq] at h
  exact ⟨h.1.1.1, h.1.1.2, h.1.2, h.2⟩
theorem lists_wide {ks : List Sx} (hl : ks.length ≤ 20) (h : ∀ k ∈ ks, k.may = true) : (Sx.mk true false [] [] ks).wide 0 = false := by
  have hkids : Sx.wideL ks (0 + 1) = false := by
    have key : ∀ k ∈ ks, k.wide (0 + 1) = false := fun k hk => by
      obtain ⟨h1, h2, h3, h4⟩ := may_parts (h k hk)
      exact wide_of k _ h1 (by omega) (by omega) (by omega)
    clear hl h
    induction ks with
    | nil => rfl
    | cons a r ihr => simp only [Sx.wideL, key a List.mem_cons_self, ihr (fun k hk => key k (List.mem_cons_of_mem _ hk))]; rfl
  rw [wide_def, decide_eq_false (show ¬ 60 < 0 by omega), decide_eq_false (show ¬ 700 < ks.length by omega), hkids]
  rfl
theorem lists_nodes {ks : List Sx} (h : ∀ k ∈ ks, k.may = true) : Sx.nodesL ks ≤ 512 * ks.length := by
  induction ks with
  | nil => simp [Sx.nodesL]
  | cons a r ih =>
    have h1 := (may_parts (h a List.mem_cons_self)).2.1
    have h2 := ih (fun k hk => h k (List.mem_cons_of_mem _ hk))
    simp only [Sx.nodesL, List.length_cons]
    omega

set_option maxHeartbeats 16000000 in
set_option maxRecDepth 100000 in
theorem SexpLists_walk (a : Option Addr) (n c : Nat) (K : Nat → SV) (ks : List Sx) (w : World) (htab : Tab w) (hr : RowAt w a n c K) (hn : n = ks.length) (hk : ∀ i (hi : i < ks.length), Rd w (K i) ks[i]) (hb : Sx.nodesL ks < 4611686018427387904) :
    Calls Tryd.prog 4 #[.slice a n c] w fun e w' => e = .returned (.bool true) ∧ Below w.heap.size w w' := by
  have HBN := hb
  clear hb
  have HT := Lib.hid htab
  have HR := Lib.hid hr
  have HK := Lib.hid hk
  have hle := hr.1
  have hcm := hr.2.1
  unfold maxLen at hcm
  clear htab hr hk
  subst hn
  have HB0 : Below w.heap.size w w := Below.refl _ _
  by_cases hmany : 20 < ks.length
  · have hmany' : (20 : Int) < ks.length := by omega
    go_enter Tryd.func4, Tryd.ntmps4
    go_wp2_with fail
    refine (awakeX_any _ (HT.out.after HB0)).mono ?_
    rintro e w9 ⟨rfl, hb9⟩
    have HB9 := HB0.trans (hb9.mono HB0.size)
    clear hb9
    go_wp2_with fail
    go_ret
    exact ⟨rfl, HB9⟩
  have hmany' : ¬ (20 : Int) < ks.length := by omega
  go_enter Tryd.func4, Tryd.ntmps4
  go_wp2_with fail
  go_loopw [3, 4, 5, 6] (fun s i _ _ wr => ∃ n : Nat, n ≤ ks.length ∧ i = .int .i64 n ∧ s = .string ⟨(40 :: Sx.formL (ks.take n)).toArray⟩ ∧ Hid (∀ k ∈ ks.take n, k.may = true) ∧ (Sx.formL (ks.take n)).length ≤ 4096 * n ∧ Below w.heap.size w wr) (fun _ i _ _ _ => ks.length - (intOf i).toNat)
  case atStart => exact ⟨0, Nat.zero_le _, rfl, rfl, Lib.hid (fun k hk => by cases hk), Nat.le_refl _, Below.refl _ _⟩
  case round =>
    obtain ⟨n, hnl, rfl, rfl, HM, hfl, hb⟩ := hrel
    clear HB0
    by_cases hlt : n < ks.length
    · obtain ⟨b, o, rfl, hld⟩ := (HR.out.after hb).range hlt
      have HL := Lib.hid hld
      have hrd := (HK.out n hlt).after hb
      have hsn := Sx.formL_snoc ks n hlt
      have hbn0 := nodesL_take n hlt
      obtain ⟨t, ht⟩ : ∃ t, t = ks[n] := ⟨_, rfl⟩
      rw [← ht] at hrd hsn hbn0
      have HKT := Lib.hid ht
      have HRd := Lib.hid hrd
      have HSN := Lib.hid hsn
      clear ht
      have hbn : t.nodes < 4611686018427387904 := by omega
      obtain ⟨g1, hg1⟩ := letter (t.great 0)
      have HG1 := Lib.hid hg1
      have CG1 := Lib.hid (fun w h => great_any t (K n) 0 w h (by omega))
      rw [← hg1] at CG1
      clear hg1 hld hrd hsn
      go_wp2_with (refine wpList_load_sv rfl _ rfl b _ rfl _ HL.out ?_)
      refine (CG1.out _ HRd.out).mono ?_
      rintro e w1 ⟨rfl, hb1⟩
      have HB1 := hb.trans (hb1.mono hb.size)
      have HR1 := Lib.hid (HRd.out.after hb1)
      have hL1 := (HR.out.after HB1).rangeA hlt
      have HL1 := Lib.hid hL1
      clear hb1 hL1
      cases g1 with
      | true =>
        go_wp2_with fail
        refine (awakeX_any _ (HT.out.after HB1)).mono ?_
        rintro e w9 ⟨rfl, hb9⟩
        have HB9 := HB1.trans (hb9.mono HB1.size)
        clear hb9
        go_wp2_with fail
        go_ret
        exact ⟨rfl, HB9⟩
      | false =>
        obtain ⟨y1, hy1⟩ := letter t.may
        have HY1 := Lib.hid hy1
        have f1 := great_form HG1.out.symm hbn
        have CM1 := Lib.hid (fun w h => refMay_any t (K n) w h hbn f1.1 f1.2)
        rw [← hy1] at CM1
        have HW1 := Lib.hid (great_no HG1.out.symm hbn).1
        clear hy1 f1
        go_wp2_with (refine wpList_value rfl (K n).val (run_load_sv _ rfl b _ rfl _ HL1.out) ?_)
        refine (CM1.out _ HR1.out).mono ?_
        rintro e w2 ⟨rfl, hb2⟩
        have HB2 := HB1.trans (hb2.mono HB1.size)
        have HR2 := Lib.hid (HR1.out.after hb2)
        have hL2 := (HR.out.after HB2).rangeA hlt
        have HL2 := Lib.hid hL2
        clear hb2 hL2
        cases y1 with
        | false =>
          go_wp2_with fail
          refine (awakeX_any _ (HT.out.after HB2)).mono ?_
          rintro e w9 ⟨rfl, hb9⟩
          have HB9 := HB2.trans (hb9.mono HB2.size)
          clear hb9
          go_wp2_with fail
          go_ret
          exact ⟨rfl, HB9⟩
        | true =>
          go_wp2_with (refine wpList_load_sv rfl _ rfl b _ rfl _ HL2.out ?_)
          refine (put_all t (K n) _ HR2.out 0 HW1.out (HT.out.after HB2)).mono ?_
          rintro e w3 (⟨_, q1, rfl, ho1, hb3⟩ | ⟨hno, _⟩)
          case inr => rw [← HY1.out] at hno; cases hno
          obtain ⟨a1, c1, rfl, hs1⟩ := ho1.sl
          have HB3 := HB2.trans (hb3.mono HB2.size)
          have hcv := conv_sl hs1
          have hf4 := (may_parts HY1.out.symm).2.2.2
          have hadd := add_str (40 :: Sx.formL (ks.take n)) t.form (by simp only [List.length_cons]; omega) w3
          obtain ⟨n1, hn1⟩ : ∃ n1, n1 = t.form.length := ⟨_, rfl⟩
          rw [← hn1] at hcv hf4 ⊢
          have hn1' : t.form.length ≤ n1 := Nat.le_of_eq hn1.symm
          clear ho1 hs1 hb3 hn1
          go_wp2_with fail
          go_roundw
          case rel =>
            refine ⟨n + 1, by omega, by go_num, by rw [HSN.out]; rfl, Lib.hid fun k hk => ?_, by rw [HSN.out, List.length_append]; omega, HB3⟩
            rw [List.take_succ_eq_append_getElem hlt, List.mem_append] at hk
            rcases hk with hk | hk
            · exact HM.out k hk
            · rw [List.mem_singleton.1 hk, ← HKT.out]; exact HY1.out.symm
          case measure => simp [intOf]; omega
    · have hnn : n = ks.length := by omega
      subst hnn
      have hM := HM.out
      rw [List.take_length] at hM hfl ⊢
      have HMY := Lib.hid hM
      have HWD := Lib.hid (lists_wide (by omega) hM)
      have hnd := lists_nodes hM
      have HF : Hid ((Sx.mk true false [] [] ks).form = (40 :: Sx.formL ks) ++ [41]) := Lib.hid (by rw [form_def, if_pos rfl]; rfl)
      obtain ⟨F, hF⟩ : ∃ F, F = (40 :: Sx.formL ks) ++ [41] := ⟨_, rfl⟩
      have hFl : F.length ≤ 100000 := by rw [hF]; simp only [List.length_append, List.length_cons, List.length_nil]; omega
      have hcat : ((⟨(40 :: Sx.formL ks).toArray⟩ : ByteArray) ++ ⟨#[41]⟩) = ⟨F.toArray⟩ := by rw [hF]; exact cat_ba (40 :: Sx.formL ks) [41]
      rw [← hF] at HF
      clear hM HM hF
      go_wp2_with fail
      refine (list_any _ _ _ K ks _ (HR.out.after hb) (by omega) rfl (fun i hi => (HK.out i hi).after hb)).mono ?_
      rintro e w1 ⟨v, rfl, hrv, hb1⟩
      have HB1 := hb.trans (hb1.mono hb.size)
      have HV1 := Lib.hid hrv
      clear hrv hb1 hcat
      obtain ⟨vl, vh, p1, pn1, pc1, p2, pn2, pc2, p3, pn3, pc3⟩ := v
      unfold SV.val
      go_upto_region 15 with (refine wpList_store_box (cells := #[.bool vl, .bool vh, .slice p1 pn1 pc1, .slice p2 pn2 pc2, .slice p3 pn3 pc3]) rfl 25 _ _ rfl (Box.new _ _ _) (by rfl) (by rfl) rfl (by kernel_rfl) (by simp [Value.oneCell']) ?_; intro u1 Y1 st1)
      have hbu : Below w1.heap.size w1 u1 := st1.below w1.heap.size w1 (Nat.le_refl _) ((Below.refl _ _).alloc (Nat.le_refl _) _)
      have HB2 := HB1.trans (hbu.mono HB1.size)
      have HV2 := Lib.hid (HV1.out.after hbu)
      have HY := Lib.hid Y1
      clear st1 hbu Y1 HV1
      go_upto_region 15 with fail
      go_wp2_with (refine wpList_load_box rfl 25 _ rfl HY.out (by rfl) Tryd.underlying25 rfl (by kernel_rfl) ?_)
      refine (put_all _ ⟨vl, vh, p1, pn1, pc1, p2, pn2, pc2, p3, pn3, pc3⟩ _ HV2.out 0 HWD.out (HT.out.after HB2)).mono ?_
      obtain ⟨my, hmy⟩ := letter (Sx.mk true false [] [] ks).may
      have HMV := Lib.hid hmy
      have CM : Hid (∀ w', Rd w' ⟨vl, vh, p1, pn1, pc1, p2, pn2, pc2, p3, pn3, pc3⟩ (Sx.mk true false [] [] ks) → Calls Tryd.prog 11 #[.agg #[.bool vl, .bool vh, .slice p1 pn1 pc1, .slice p2 pn2 pc2, .slice p3 pn3 pc3]] w' fun e w'' => e = .returned (.bool my) ∧ Below w'.heap.size w' w'') :=
        Lib.hid fun w' h => by rw [hmy]; exact refMay_any (Sx.mk true false [] [] ks) ⟨vl, vh, p1, pn1, pc1, p2, pn2, pc2, p3, pn3, pc3⟩ w' h (by simp only [Sx.nodes]; omega) (by have := deep_wide _ _ HWD.out; omega) (fun _ => by rw [HF.out]; omega)
      clear hmy
      rintro e w3 (⟨hyes, q1, rfl, ho1, hb3⟩ | ⟨hno, rfl, hb3⟩)
      · rw [← HMV.out] at hyes
        subst hyes
        obtain ⟨a1, c1, rfl, hs1⟩ := ho1.sl
        rw [HF.out] at hs1 ⊢
        have HB3 := HB2.trans (hb3.mono HB2.size)
        have HY3 := Lib.hid (HY.out.after hb3)
        have HS3 := Lib.hid hs1
        have HV3 := Lib.hid (HV2.out.after hb3)
        clear ho1 hs1 hb3
        obtain ⟨n1, hn1⟩ : ∃ n1, n1 = F.length := ⟨_, rfl⟩
        rw [← hn1] at HS3 ⊢
        clear hn1
        go_wp2_with (refine wpList_load_box rfl 25 _ rfl HY3.out (by rfl) Tryd.underlying25 rfl (by kernel_rfl) ?_)
        refine (CM.out _ HV3.out).mono ?_
        rintro e w4 ⟨rfl, hb4⟩
        have HB4 := HB3.trans (hb4.mono HB3.size)
        have hcv := conv_sl (HS3.out.after hb4)
        clear hb4
        go_wp2_with fail
        refine (awakeX_any _ (HT.out.after HB4)).mono ?_
        rintro e w9 ⟨rfl, hb9⟩
        have HB9 := HB4.trans (hb9.mono HB4.size)
        clear hb9
        go_wp2_with fail
        go_ret
        exact ⟨rfl, HB9⟩
      · rw [← HMV.out] at hno
        subst hno
        have HB3 := HB2.trans (hb3.mono HB2.size)
        have HY3 := Lib.hid (HY.out.after hb3)
        have HV3 := Lib.hid (HV2.out.after hb3)
        clear hb3
        go_wp2_with (refine wpList_load_box rfl 25 _ rfl HY3.out (by rfl) Tryd.underlying25 rfl (by kernel_rfl) ?_)
        refine (CM.out _ HV3.out).mono ?_
        rintro e w4 ⟨rfl, hb4⟩
        have HB4 := HB3.trans (hb4.mono HB3.size)
        clear hb4
        go_wp2_with fail
        refine (awakeX_any _ (HT.out.after HB4)).mono ?_
        rintro e w9 ⟨rfl, hb9⟩
        have HB9 := HB4.trans (hb9.mono HB4.size)
        clear hb9
        go_wp2_with fail
        go_ret
        exact ⟨rfl, HB9⟩

end Go.Proofs.YtcflgoddfakepaaDoor
namespace Go.Proofs.YtcflgoddfakepaaDoor
open Go.RowKit

/-- bytes with their length, at a place: the bytes, the place behind, the error -/
def rBytes (l : List UInt8) (p : Nat) : List UInt8 × Nat × Nat :=
  let r := lenR l p 4096
  if r.2.2 = 2 then ([], l.length, 2) else if r.2.2 ≠ 0 then ([], p, r.2.2.toNat) else
  if l.length ≤ r.2.1.toNat then ([], l.length, 2) else if l.getD r.2.1.toNat 0 ≠ 58 then ([], r.2.1.toNat, 3) else
  if l.length - r.2.1.toNat - 1 < r.1.toNat then ([], l.length, 2) else ((l.drop (r.2.1.toNat + 1)).take r.1.toNat, r.2.1.toNat + 1 + r.1.toNat, 0)

/-- what was read -/
structure RV where
  v : Sx
  p : Nat
  n : Nat
  e : Nat
def RV.err (p e : Nat) : RV := ⟨Sx.nil, p, 0, e⟩

/-- an atom, at a place -/
def rAtom (l : List UInt8) (p n : Nat) : RV :=
  if l.getD p 0 = 91 then
    let h := rBytes l (p + 1)
    if h.2.2 ≠ 0 then RV.err h.2.1 h.2.2 else if l.length ≤ h.2.1 then RV.err l.length 2 else if l.getD h.2.1 0 ≠ 93 then RV.err h.2.1 3 else
    let d := rBytes l (h.2.1 + 1)
    if d.2.2 ≠ 0 then RV.err d.2.1 d.2.2 else ⟨.mk false true h.1 d.1 [], d.2.1, n, 0⟩
  else
    let d := rBytes l p
    if d.2.2 ≠ 0 then RV.err d.2.1 d.2.2 else ⟨.mk false false [] d.1 [], d.2.1, n, 0⟩

/-- may a value begin so? -/
def starts (c : UInt8) : Prop := c = 40 ∨ c = 91 ∨ isD c
instance (c : UInt8) : Decidable (starts c) := by unfold starts; infer_instance

/-- reading: of a value (none), of what is left of a list whose values so far are there (some) -/
inductive St (l : List UInt8) : Option (List Sx) → Nat → Nat → Nat → RV → Prop
  | short {p lv n : Nat} : l.length ≤ p → St l none p lv n (RV.err l.length 2)
  | bad {p lv n : Nat} : p < l.length → ¬ starts (l.getD p 0) → St l none p lv n (RV.err p 3)
  | long {p lv n : Nat} : p < l.length → starts (l.getD p 0) → (512 < n + 1 ∨ l.getD p 0 = 40 ∧ 16 < lv) → St l none p lv n (RV.err p 4)
  | atom {p lv n : Nat} : p < l.length → starts (l.getD p 0) → l.getD p 0 ≠ 40 → n + 1 ≤ 512 → St l none p lv n (rAtom l p (n + 1))
  | list {p lv n : Nat} {r : RV} : p < l.length → l.getD p 0 = 40 → n + 1 ≤ 512 → lv ≤ 16 → St l (some []) (p + 1) lv (n + 1) r → St l none p lv n r
  | close {p lv n : Nat} {acc : List Sx} : p < l.length → l.getD p 0 = 41 → St l (some acc) p lv n ⟨.mk true false [] [] acc, p + 1, n, 0⟩
  | fail {p lv n : Nat} {acc : List Sx} {r : RV} : ¬ (p < l.length ∧ l.getD p 0 = 41) → St l none p (lv + 1) n r → r.e ≠ 0 → St l (some acc) p lv n r
  | more {p lv n : Nat} {acc : List Sx} {r r' : RV} : ¬ (p < l.length ∧ l.getD p 0 = 41) → St l none p (lv + 1) n r → r.e = 0 → St l (some (acc ++ [r.v])) r.p lv r.n r' → St l (some acc) p lv n r'

theorem starts40 : starts 40 := .inl rfl
theorem St.det {l : List UInt8} {m : Option (List Sx)} {p lv n : Nat} {r r' : RV} (h : St l m p lv n r) (h' : St l m p lv n r') : r = r' := by
  induction h generalizing r' with
  | short h1 =>
    cases h' with
    | short => rfl
    | bad h2 | long h2 | atom h2 | list h2 => omega
  | bad h1 h2 =>
    cases h' with
    | short h3 => omega
    | bad => rfl
    | long _ h3 | atom _ h3 => exact absurd h3 h2
    | list _ h3 => exact absurd (h3 ▸ starts40) h2
  | long h1 h2 h3 =>
    cases h' with
    | short h4 => omega
    | bad _ h4 => exact absurd h2 h4
    | long => rfl
    | atom _ _ h4 h5 => rcases h3 with h3 | h3; · omega
                        · exact absurd h3.1 h4
    | list _ h4 h5 h6 => rcases h3 with h3 | h3; · omega
                         · omega
  | atom h1 h2 h3 h4 =>
    cases h' with
    | short h5 => omega
    | bad _ h5 => exact absurd h2 h5
    | long _ _ h5 => rcases h5 with h5 | h5; · omega
                     · exact absurd h5.1 h3
    | atom => rfl
    | list _ h5 => exact absurd h5 h3
  | list h1 h2 h3 h4 _ ih =>
    cases h' with
    | short h5 => omega
    | bad _ h5 => exact absurd (h2 ▸ starts40) h5
    | long _ _ h5 => rcases h5 with h5 | h5; · omega
                     · omega
    | atom _ _ h5 => exact absurd h2 h5
    | list _ _ _ _ h5 => exact ih h5
  | close h1 h2 =>
    cases h' with
    | close => rfl
    | fail h3 | more h3 => exact absurd ⟨h1, h2⟩ h3
  | fail h1 _ h3 ih =>
    cases h' with
    | close h4 h5 => exact absurd ⟨h4, h5⟩ h1
    | fail _ h4 => exact ih h4
    | more _ h4 h5 => rw [ih h4] at h3; exact absurd h5 h3
  | more h1 _ h3 _ ih1 ih2 =>
    cases h' with
    | close h4 h5 => exact absurd ⟨h4, h5⟩ h1
    | fail _ h4 h5 => rw [ih1 h4] at h3; exact absurd h3 h5
    | more _ h4 h5 h6 =>
      obtain rfl := ih1 h4
      exact ih2 h6
end Go.Proofs.YtcflgoddfakepaaDoor
namespace Go.Proofs.YtcflgoddfakepaaDoor
open Go.RowKit

theorem lenScan_some {M n k : Nat} : ∀ (w : List UInt8) (a : Nat), lenScan M a w = some (n, k) → k ≤ w.length ∧ (∀ c ∈ w.take k, isD c) ∧ n = valA a (w.take k) ∧ (a ≤ M → n ≤ M)
  | [], a, h => by
    simp only [lenScan, Option.some.injEq, Prod.mk.injEq] at h
    obtain ⟨rfl, rfl⟩ := h
    exact ⟨Nat.le_refl _, (fun c hc => by cases hc), rfl, fun h => h⟩
  | c :: w, a, h => by
    unfold lenScan at h
    split at h
    · rename_i hd
      split at h
      · cases h
      · rename_i hM
        cases hr : lenScan M (10 * a + (c.toNat - 48)) w with
        | none => rw [hr] at h; cases h
        | some q =>
          obtain ⟨n', k'⟩ := q
          rw [hr] at h
          simp only [Option.map_some, Option.some.injEq, Prod.mk.injEq] at h
          obtain ⟨rfl, rfl⟩ := h
          obtain ⟨h1, h2, h3, h4⟩ := lenScan_some w _ hr
          refine ⟨by simp only [List.length_cons]; omega, fun d hd' => ?_, by rw [List.take_succ_cons, valA_cons]; exact h3, fun _ => h4 (by omega)⟩
          rw [List.take_succ_cons] at hd'
          rcases List.mem_cons.1 hd' with rfl | hd'
          · exact hd
          · exact h2 d hd'
    · simp only [Option.some.injEq, Prod.mk.injEq] at h
      obtain ⟨rfl, rfl⟩ := h
      exact ⟨Nat.zero_le _, (fun c hc => by simp at hc), by simp [valA_nil], fun h => h⟩

theorem digit_back (c : UInt8) (h : isD c) : UInt8.ofNat (48 + (c.toNat - 48)) = c := by
  unfold isD at h
  rw [show 48 + (c.toNat - 48) = c.toNat by omega]
  simp
/-- digits that begin with no nought are how their number is written -/
theorem numL_valA : ∀ (k : Nat) (d : List UInt8), d.length = k → (∀ c ∈ d, isD c) → d ≠ [] → d.getD 0 0 ≠ 48 → numL ((valA 0 d : Nat) : Int) = d ∧ 1 ≤ valA 0 d := by
  intro k
  induction k with
  | zero => intro d hl _ hn; exact absurd (List.eq_nil_of_length_eq_zero hl) hn
  | succ k ih =>
    intro d hl hd hn h0
    obtain ⟨d', c, rfl⟩ : ∃ d' c, d = d' ++ [c] := ⟨_, _, (List.dropLast_concat_getLast hn).symm⟩
    have hc : isD c := hd c (by simp)
    have hc2 := hc
    unfold isD at hc2
    rw [valA_snoc]
    by_cases e : d' = []
    · subst e
      simp only [List.nil_append, List.getD_cons_zero] at h0
      have hne : c.toNat ≠ 48 := fun e => h0 (by rw [← UInt8.toNat_inj]; exact e)
      rw [valA_nil, numL_small _ (by omega)]
      refine ⟨?_, by omega⟩
      rw [show (((10 * 0 + (c.toNat - 48) : Nat) : Int)).toNat = c.toNat - 48 by omega, digit_back c hc]
      rfl
    · have hl' : d'.length = k := by simpa using hl
      have hpos : 0 < d'.length := List.length_pos_iff.2 e
      obtain ⟨h1, h2⟩ := ih d' hl' (fun c hc => hd c (by simp [hc])) e (by
        simp only [List.getD_eq_getElem?_getD] at h0 ⊢
        rwa [List.getElem?_append_left hpos] at h0)
      refine ⟨?_, by omega⟩
      rw [numL_step _ (by omega)]
      rw [show ((10 * valA 0 d' + (c.toNat - 48) : Nat) : Int) / 10 = ((valA 0 d' : Nat) : Int) by omega, h1]
      rw [show (((10 * valA 0 d' + (c.toNat - 48) : Nat) : Int) % 10).toNat = c.toNat - 48 by omega, digit_back c hc]

/-- what a length at a place is -/
theorem lenR_cases (l : List UInt8) (p M : Nat) :
    (l.length ≤ p ∧ lenR l p M = (0, (p : Int), 2)) ∨ (p < l.length ∧ ¬ isD (l.getD p 0) ∧ lenR l p M = (0, (p : Int), 3)) ∨ (p < l.length ∧ lenR l p M = (0, (p : Int), 4)) ∨
    ∃ k n, 1 ≤ k ∧ p + k ≤ l.length ∧ n ≤ M ∧ (l.drop p).take k = numL ((n : Nat) : Int) ∧ lenR l p M = ((n : Int), ((p + k : Nat) : Int), 0) := by
  by_cases h1 : l.length ≤ p
  · exact .inl ⟨h1, by unfold lenR; rw [if_neg (by omega), if_pos (by omega)]⟩
  · replace h1 : p < l.length := by omega
    right
    by_cases h2 : isD (l.getD p 0)
    · right
      by_cases h3 : l.getD p 0 = 48
      · right
        refine ⟨1, 0, Nat.le_refl _, h1, Nat.zero_le _, ?_, ?_⟩
        · rw [List.drop_eq_getElem_cons h1]
          have : l[p] = 48 := by rw [← h3]; simp [List.getD_eq_getElem?_getD, h1]
          rw [this, numL_small _ (by omega)]
          rfl
        · unfold lenR
          rw [if_neg (by omega), if_neg (by omega), Int.toNat_natCast, if_neg (fun h => h h2), if_pos h3]
          rfl
      · have hb : lenR l p M = match lenScan M 0 (l.drop p) with
          | none => (0, (p : Int), 4)
          | some (n, k) => ((n : Int), (p : Int) + k, 0) := by
          unfold lenR
          rw [if_neg (by omega), if_neg (by omega), Int.toNat_natCast, if_neg (fun h => h h2), if_neg h3]
          all_goals (cases lenScan M 0 (l.drop p) <;> rfl)
        cases hs : lenScan M 0 (l.drop p) with
        | none => exact .inl ⟨h1, by rw [hb, hs]⟩
        | some q =>
          right
          obtain ⟨n, k⟩ := q
          obtain ⟨k1, k2, k3, k4⟩ := lenScan_some _ _ hs
          have hk : 1 ≤ k := by
            rcases Nat.eq_zero_or_pos k with e | e
            · subst e
              rw [List.drop_eq_getElem_cons h1] at hs
              unfold lenScan at hs
              have e2 : l[p] = l.getD p 0 := by simp [List.getD_eq_getElem?_getD, h1]
              rw [e2, if_pos h2] at hs
              split at hs
              · cases hs
              · cases hr : lenScan M (10 * 0 + ((l.getD p 0).toNat - 48)) (l.drop (p + 1)) with
                | none => rw [hr] at hs; cases hs
                | some q => rw [hr] at hs; simp at hs
            · exact e
          rw [List.length_drop] at k1
          refine ⟨k, n, hk, by omega, k4 (Nat.zero_le _), ?_, by rw [hb, hs]; simp⟩
          rw [k3]
          refine (numL_valA k _ (by simp; omega) k2 ?_ ?_).1.symm
          · intro e
            have := congrArg List.length e
            simp at this
            omega
          · simp only [List.getD_eq_getElem?_getD] at h3 ⊢
            rw [List.getElem?_take_of_lt (by omega), List.getElem?_drop]
            simpa using h3
    · exact .inl ⟨h1, h2, by unfold lenR; rw [if_neg (by omega), if_neg (by omega), Int.toNat_natCast, if_pos h2]⟩

/-- a length that stands at a place is read -/
theorem lenR_at {l : List UInt8} {p n M : Nat} {t : List UInt8} (h : l.drop p = numL ((n : Nat) : Int) ++ t) (ht : ∀ c r, t = c :: r → ¬ isD c) (hM : n ≤ M) : lenR l p M = ((n : Int), ((p + (numL ((n : Nat) : Int)).length : Nat) : Int), 0) := by
  have hb := back_len (n : Int) (by omega) t ht M (by omega)
  have hpos := (numL_facts n).2.2
  have hlt : p < l.length := by
    have := congrArg List.length h
    simp at this
    omega
  have e0 : l.getD p 0 = (l.drop p).getD 0 0 := by simp [List.getD_eq_getElem?_getD]
  rw [← h] at hb
  unfold lenR at hb ⊢
  rw [if_neg (by omega), if_neg (by simp; omega), Int.toNat_zero] at hb
  rw [if_neg (by omega), if_neg (by omega), Int.toNat_natCast, e0]
  rw [List.drop_zero] at hb
  split at hb
  · simp at hb
  · rename_i h1
    rw [if_neg h1]
    split at hb
    · rename_i h2
      rw [if_pos h2]
      simp only [Prod.mk.injEq] at hb ⊢
      exact ⟨by omega, by omega, trivial⟩
    · rename_i h2
      rw [if_neg h2]
      cases hs : lenScan M 0 (l.drop p) with
      | none => rw [hs] at hb; simp at hb
      | some q =>
        obtain ⟨n', k'⟩ := q
        rw [hs] at hb
        simp only [Prod.mk.injEq] at hb ⊢
        exact ⟨hb.1, by omega, trivial⟩

theorem getD_drop (l : List UInt8) (p i : Nat) : (l.drop p).getD i 0 = l.getD (p + i) 0 := by simp [List.getD_eq_getElem?_getD]

/-- bytes that stand at a place are read -/
theorem rBytes_at {l b r : List UInt8} {p : Nat} (h : l.drop p = textL b ++ r) (hb : b.length ≤ 4096) : rBytes l p = (b, p + (textL b).length, 0) := by
  simp only [textL, List.append_assoc, List.cons_append] at h
  have hn := lenR_at h (fun c r e => by simp only [List.cons.injEq] at e; rw [← e.1]; exact not_isD (by decide)) hb
  have hlen := congrArg List.length h
  simp only [List.length_drop, List.length_append, List.length_cons] at hlen
  have h58 : l.getD (p + (numL ((b.length : Nat) : Int)).length) 0 = 58 := by
    rw [← getD_drop, h]
    simp [List.getD_eq_getElem?_getD]
  have hpos := (numL_facts b.length).2.2
  have hdr : l.drop (p + (numL ((b.length : Nat) : Int)).length + 1) = b ++ r := by
    rw [Nat.add_assoc, ← List.drop_drop, h, ← List.drop_drop, List.drop_left]
    rfl
  unfold rBytes
  simp only [hn, Int.toNat_natCast]
  rw [if_neg (by omega), if_neg (by omega), if_neg (by omega), if_neg (by rw [h58]; simp), if_neg (by omega), hdr]
  simp only [Prod.mk.injEq, and_true]
  exact ⟨by simp, by simp [textL]; omega⟩

/-- bytes that were read stood there -/
theorem rBytes_ok {l b : List UInt8} {p q : Nat} (h : rBytes l p = (b, q, 0)) : l.drop p = textL b ++ l.drop q ∧ q = p + (textL b).length ∧ q ≤ l.length ∧ b.length ≤ 4096 := by
  unfold rBytes at h
  simp only at h
  rcases lenR_cases l p 4096 with ⟨_, e⟩ | ⟨_, _, e⟩ | ⟨_, e⟩ | ⟨k, n, hk, hp, hn, ht, e⟩
  · rw [e] at h; simp at h
  · rw [e] at h; simp at h
  · rw [e] at h; simp at h
  · rw [e] at h
    simp only [Int.toNat_natCast] at h
    rw [if_neg (by omega), if_neg (by omega)] at h
    split at h
    · simp at h
    · rename_i h1
      split at h
      · simp at h
      · rename_i h2
        split at h
        · simp at h
        · rename_i h3
          simp only [Prod.mk.injEq, and_true] at h
          obtain ⟨rfl, rfl⟩ := h
          replace h2 : l.getD (p + k) 0 = 58 := by simpa using h2
          have hbl : ((l.drop (p + k + 1)).take n).length = n := by simp; omega
          have hnl : (numL ((n : Nat) : Int)).length = k := by rw [← ht]; simp; omega
          refine ⟨?_, by simp only [textL, List.length_append, List.length_cons, hbl, hnl]; omega, by omega, by rw [hbl]; exact hn⟩
          simp only [textL, hbl, List.append_assoc, List.cons_append]
          rw [← ht]
          have e1 : l.drop p = (l.drop p).take k ++ (l.drop p).drop k := (List.take_append_drop k _).symm
          rw [List.drop_drop] at e1
          have e2 : l.drop (p + k) = 58 :: l.drop (p + k + 1) := by
            rw [List.drop_eq_getElem_cons (by omega)]
            congr 1
            rw [← h2]
            simp [List.getD_eq_getElem?_getD, show p + k < l.length by omega]
          have e3 : l.drop (p + k + 1) = (l.drop (p + k + 1)).take n ++ l.drop (p + k + 1 + n) := by
            have := (List.take_append_drop n (l.drop (p + k + 1))).symm
            rwa [List.drop_drop] at this
          rw [← e3, ← e2]
          exact e1

/-- an error is told at a place that is there -/
theorem rBytes_err {l b : List UInt8} {p q e : Nat} (h : rBytes l p = (b, q, e)) (hp : p ≤ l.length) : q ≤ l.length ∧ e ≤ 4 := by
  unfold rBytes at h
  simp only at h
  rcases lenR_cases l p 4096 with ⟨_, e1⟩ | ⟨_, _, e1⟩ | ⟨_, e1⟩ | ⟨k, n, hk, hp, hn, ht, e1⟩
  · rw [e1] at h; simp at h; omega
  · rw [e1] at h; simp at h; omega
  · rw [e1] at h; simp at h; omega
  · rw [e1] at h
    simp only [Int.toNat_natCast] at h
    rw [if_neg (by omega), if_neg (by omega)] at h
    split at h
    · simp at h; omega
    · split at h
      · simp at h; omega
      · split at h
        · simp at h; omega
        · simp at h; omega

/-- bytes that are cut off are short -/
theorem rBytes_cut {l b r : List UInt8} {p k : Nat} (h : l.drop p = (textL b ++ r).take k) (hk : k < (textL b).length) (hb : b.length ≤ 4096) (hp : p ≤ l.length) : rBytes l p = ([], l.length, 2) := by
  rw [List.take_append_of_le_length (by omega)] at h
  have hkl : l.length = p + k := by
    have := congrArg List.length h
    simp at this
    omega
  obtain ⟨N, hN⟩ : ∃ N, N = numL ((b.length : Nat) : Int) := ⟨_, rfl⟩
  obtain ⟨f1, f2, f3⟩ := numL_facts b.length
  rw [← hN] at f1 f2 f3
  have ht : textL b = N ++ 58 :: b := by rw [hN]; rfl
  rw [ht] at h hk
  simp only [List.length_append, List.length_cons] at hk
  unfold rBytes
  simp only
  by_cases h1 : k ≤ N.length
  · rw [List.take_append_of_le_length h1] at h
    rcases lenR_cases l p 4096 with ⟨_, e⟩ | ⟨h2, h3, e⟩ | ⟨h2, e⟩ | ⟨k', n, hk', hp', hn', ht', e⟩
    · rw [e]; simp
    · refine absurd (f1 _ ?_) h3
      have : l.getD p 0 = (l.drop p).getD 0 0 := by simp [List.getD_eq_getElem?_getD]
      rw [this, h]
      have hk0 : 0 < k := by omega
      simp only [List.getD_eq_getElem?_getD]
      rw [List.getElem?_take_of_lt hk0, List.getElem?_eq_getElem f3]
      simp
    · -- the digits of a small number are not too many
      exfalso
      have h2' : isD (l.getD p 0) ∧ l.getD p 0 ≠ 48 ∧ lenScan 4096 0 (l.drop p) = none := by
        unfold lenR at e
        rw [if_neg (by omega), if_neg (by omega), Int.toNat_natCast] at e
        split at e
        · simp at e
        · rename_i h5
          split at e
          · simp at e
          · rename_i h6
            cases hs : lenScan 4096 0 (l.drop p) with
            | none => exact ⟨Decidable.not_not.1 h5, h6, rfl⟩
            | some q => rw [hs] at e; simp at e
      have h7 := h2'.2.2
      rw [h] at h7
      have happ := lenScan_app 4096 [] (N.take k) 0 (fun c hc => f1 c (List.mem_of_mem_take hc)) (Nat.zero_le _)
      rw [List.append_nil, h7] at happ
      have hle : valA 0 (N.take k) ≤ valA 0 N := by
        have e1 : valA 0 N = valA (valA 0 (N.take k)) (N.drop k) := by
          conv => lhs; rw [← List.take_append_drop k N]
          unfold valA
          rw [List.foldl_append]
        rw [e1]
        exact valA_ge _ _
      rw [f2] at hle
      rw [if_neg (by omega)] at happ
      simp [lenScan] at happ
    · have hall : p + k' = l.length := by
        rcases Nat.lt_or_ge (p + k') l.length with h4 | h4
        · exfalso
          -- what stands behind the digits is no digit, or the number is a nought
          by_cases h0 : l.getD p 0 = 48
          · have hN0 : N.getD 0 0 = 48 := by
              have : l.getD p 0 = (l.drop p).getD 0 0 := by simp [List.getD_eq_getElem?_getD]
              rw [this, h] at h0
              have hk0 : 0 < k := by omega
              simp only [List.getD_eq_getElem?_getD] at h0 ⊢
              rwa [List.getElem?_take_of_lt hk0] at h0
            have := (dec_facts b.length).2.2.1
            have hz : b.length = 0 := by
              rcases Nat.eq_zero_or_pos b.length with e0 | e0
              · exact e0
              · exact absurd (by rw [hN] at hN0; unfold numL at hN0; simpa using hN0) (this e0)
            have hNl : N.length = 1 := by rw [hN, hz, show ((0 : Nat) : Int) = 0 from rfl, numL_small 0 (by omega)]; rfl
            omega
          · have h8 : lenScan 4096 0 (l.drop p) = some (n, k') := by
              have e' := e
              unfold lenR at e'
              rw [if_neg (by omega), if_neg (by omega), Int.toNat_natCast] at e'
              split at e'
              · simp at e'
              · cases hs : lenScan 4096 0 (l.drop p) with
                | none => rw [hs] at e'; simp at e'
                | some q =>
                  obtain ⟨a, c⟩ := q
                  rw [hs] at e'
                  simp only [Prod.mk.injEq] at e'
                  congr 2 <;> omega
            have happ := lenScan_app 4096 [] (N.take k) 0 (fun c hc => f1 c (List.mem_of_mem_take hc)) (Nat.zero_le _)
            rw [List.append_nil, ← h, h8] at happ
            split at happ
            · cases happ
            · simp only [lenScan, Option.map_some, Option.some.injEq, Prod.mk.injEq, Nat.zero_add] at happ
              have := happ.2
              rw [List.length_drop] at this
              omega
        · omega
      rw [e]
      simp only [Int.toNat_natCast]
      rw [if_neg (by omega), if_neg (by omega), if_pos (by omega)]
  · replace h1 : N.length < k := by omega
    have h' : l.drop p = N ++ 58 :: b.take (k - N.length - 1) := by
      rw [h, List.take_append]
      rw [List.take_of_length_le (by omega), show k - N.length = (k - N.length - 1) + 1 by omega, List.take_succ_cons]
      rfl
    have hn := lenR_at (by rw [hN] at h'; exact h') (fun c r e => by simp only [List.cons.injEq] at e; rw [← e.1]; exact not_isD (by decide)) hb
    rw [← hN] at hn
    have h58 : l.getD (p + N.length) 0 = 58 := by
      rw [← getD_drop, h']
      simp [List.getD_eq_getElem?_getD]
    simp only [hn, Int.toNat_natCast]
    rw [if_neg (by omega), if_neg (by omega), if_neg (by omega), if_neg (by rw [h58]; simp), if_pos (by omega)]
end Go.Proofs.YtcflgoddfakepaaDoor
namespace Go.Proofs.YtcflgoddfakepaaDoor
open Go.RowKit

theorem drop_cons {l : List UInt8} {p : Nat} {c : UInt8} {r : List UInt8} (h : l.drop p = c :: r) : p < l.length ∧ l.getD p 0 = c ∧ l.drop (p + 1) = r := by
  have hlt : p < l.length := by
    have := congrArg List.length h
    simp at this
    omega
  refine ⟨hlt, ?_, ?_⟩
  · have := getD_drop l p 0
    rw [h] at this
    simpa using this.symm
  · rw [← List.drop_drop, h]; rfl
theorem drop_app {l a r : List UInt8} {p : Nat} (h : l.drop p = a ++ r) : l.drop (p + a.length) = r := by
  rw [← List.drop_drop, h, List.drop_left]
theorem textL_bound {x : List UInt8} : x.length < (textL x).length := by simp [textL]; omega

/-- an atom that stands at a place -/
theorem rAtom_at {l : List UInt8} {h : Bool} {hi da r : List UInt8} {p n : Nat} (hl : l.drop p = (Sx.mk false h hi da []).form ++ r) (hc : (Sx.mk false h hi da []).clean = true) (hf : (Sx.mk false h hi da []).form.length ≤ 4096) :
    rAtom l p n = ⟨.mk false h hi da [], p + (Sx.mk false h hi da []).form.length, n, 0⟩ := by
  obtain ⟨_, p2, _⟩ := clean_parts hc
  rw [form_def] at hl hf ⊢
  have b1 := textL_bound (x := hi)
  have b2 := textL_bound (x := da)
  cases h with
  | true =>
    simp only [Bool.false_eq_true, if_false, if_true, List.length_cons, List.length_append, List.length_nil] at hl hf ⊢
    simp only [List.cons_append, List.append_assoc] at hl
    obtain ⟨h1, h2, h3⟩ := drop_cons hl
    have r1 := rBytes_at h3 (by omega)
    have h4 := drop_app h3
    simp only [List.nil_append] at h4
    obtain ⟨h5, h6, h7⟩ := drop_cons h4
    have r2 := rBytes_at h7 (by omega)
    unfold rAtom
    rw [if_pos h2]
    simp only [r1]
    rw [if_neg (by simp), if_neg (by omega), if_neg (by rw [h6]; simp)]
    simp only [r2]
    rw [if_neg (by simp)]
    congr 1
    omega
  | false =>
    obtain rfl := (p2 rfl).2 rfl
    simp only [Bool.false_eq_true, if_false, List.nil_append] at hl hf ⊢
    obtain ⟨c, t, e, hd⟩ := textL_head da r
    have h2 := (drop_cons (hl.trans e)).2.1
    have r1 := rBytes_at hl (by omega)
    unfold rAtom
    rw [if_neg (by rw [h2]; intro e2; subst e2; exact absurd hd (not_isD (by decide)))]
    simp only [r1]
    rw [if_neg (by simp)]

theorem starts_head {l : List UInt8} {s : Sx} {r : List UInt8} {p : Nat} (h : l.drop p = s.form ++ r) : p < l.length ∧ starts (l.getD p 0) ∧ (l.getD p 0 = 40 ↔ s.l = true) ∧ l.getD p 0 ≠ 41 := by
  obtain ⟨c, t, e, hc⟩ := form_head s r
  obtain ⟨h1, h2, _⟩ := drop_cons (h.trans e)
  rw [h2]
  refine ⟨h1, ?_⟩
  have d1 : ¬ isD 40 := not_isD (by decide)
  have d2 : ¬ isD 41 := not_isD (by decide)
  rcases hc with ⟨a, rfl⟩ | ⟨a, b, rfl⟩ | ⟨a, b, hd⟩
  · exact ⟨.inl rfl, ⟨fun _ => a, fun _ => rfl⟩, by decide⟩
  · exact ⟨.inr (.inl rfl), ⟨fun h => absurd h (by decide), fun h => by rw [a] at h; cases h⟩, by decide⟩
  · exact ⟨.inr (.inr hd), ⟨fun h => absurd (h ▸ hd) d1, fun h => by rw [a] at h; cases h⟩, fun h => d2 (h ▸ hd)⟩

/-- a form that stands at a place is read -/
theorem St_form {l : List UInt8} (s : Sx) : ∀ (p lv n : Nat) (r : List UInt8), s.clean = true → l.drop p = s.form ++ r → n + s.nodes ≤ 512 → s.deep + lv ≤ 17 → s.form.length ≤ 4096 → St l none p lv n ⟨s, p + s.form.length, n + s.nodes, 0⟩ := by
  induction s using Sx.ind with
  | h tl th hi da ks ih =>
    intro p lv n r hc h hn hd hf
    obtain ⟨h1, h2, h3, _⟩ := starts_head h
    obtain ⟨p1, p2, p3⟩ := clean_parts hc
    cases tl with
    | false =>
      obtain ⟨rfl, _⟩ := p2 rfl
      have hA := rAtom_at (n := n + 1) h hc hf
      have e : (Sx.mk false th hi da []).nodes = 1 := by simp [Sx.nodes, Sx.nodesL]
      rw [e] at hn ⊢
      rw [← hA]
      exact .atom h1 h2 (fun h => by have := h3.1 h; cases this) (by omega)
    | true =>
      obtain ⟨rfl, rfl, rfl⟩ := p1 rfl
      have h4 := h3.2 rfl
      rw [form_def, if_pos rfl] at h hf
      have hfd : (Sx.mk true false [] [] ks).form = 40 :: (Sx.formL ks ++ [41]) := by rw [form_def, if_pos rfl]
      rw [hfd]
      simp only [List.length_cons, List.length_append, List.length_nil] at hf ⊢
      simp only [Sx.nodes, Sx.deep, if_true] at hn hd ⊢
      simp only [List.cons_append, List.append_assoc, List.nil_append] at h
      obtain ⟨_, _, h5⟩ := drop_cons h
      have key : ∀ (ks' acc : List Sx) (q m : Nat), (∀ k ∈ ks', k ∈ ks) → l.drop q = Sx.formL ks' ++ 41 :: r → m + Sx.nodesL ks' ≤ 512 → (Sx.formL ks').length ≤ 4096 →
          St l (some acc) q lv m ⟨.mk true false [] [] (acc ++ ks'), q + (Sx.formL ks').length + 1, m + Sx.nodesL ks', 0⟩ := by
        intro ks'
        induction ks' with
        | nil =>
          intro acc q m _ hq _ _
          obtain ⟨q1, q2, _⟩ := drop_cons (by simpa [Sx.formL] using hq)
          simpa [Sx.formL, Sx.nodesL] using St.close (lv := lv) (n := m) (acc := acc) q1 q2
        | cons a t iht =>
          intro acc q m hin hq hm hfl
          simp only [Sx.formL, List.append_assoc] at hq
          simp only [Sx.nodesL, Sx.formL, List.length_append] at hm hfl ⊢
          have ha := hin a List.mem_cons_self
          have hdeep := Sx.deepL_mem ha
          have s1 := ih a ha q (lv + 1) m _ (p3 a ha) hq (by omega) (by omega) (by omega)
          have s2 := iht (acc ++ [a]) (q + a.form.length) (m + a.nodes) (fun k hk => hin k (List.mem_cons_of_mem _ hk)) (drop_app hq) (by omega) (by omega)
          have hno := (starts_head hq).2.2.2
          have := St.more (fun h => hno h.2) s1 rfl s2
          simpa [Nat.add_assoc] using this
      have hk := key ks [] (p + 1) (n + 1) (fun k hk => hk) h5 (by omega) (by omega)
      rw [List.nil_append] at hk
      have := St.list h1 h4 (by omega) (by omega) hk
      have e1 : p + 1 + (Sx.formL ks).length + 1 = p + ((Sx.formL ks).length + (0 + 1) + 1) := by omega
      have e2 : n + 1 + Sx.nodesL ks = n + (1 + Sx.nodesL ks) := by omega
      rw [e1, e2] at this
      exact this

/-- what is read stood there -/
def OkP (l : List UInt8) : Option (List Sx) → Nat → Nat → Nat → RV → Prop
  | none, p, lv, n, r => lv ≤ 17 → n ≤ 512 → l.drop p = r.v.form ++ l.drop r.p ∧ r.p = p + r.v.form.length ∧ r.p ≤ l.length ∧ r.v.clean = true ∧ r.n = n + r.v.nodes ∧ r.n ≤ 512 ∧ r.v.deep + lv ≤ 17
  | some acc, p, lv, n, r => lv ≤ 16 → n ≤ 512 → ∃ ks, r.v = .mk true false [] [] (acc ++ ks) ∧ l.drop p = Sx.formL ks ++ 41 :: l.drop r.p ∧ r.p = p + (Sx.formL ks).length + 1 ∧ r.p ≤ l.length ∧ Sx.cleanL ks = true ∧ r.n = n + Sx.nodesL ks ∧ r.n ≤ 512 ∧ Sx.deepL ks + lv ≤ 16

theorem cleanL_cons (a : Sx) (ks : List Sx) : Sx.cleanL (a :: ks) = (a.clean && Sx.cleanL ks) := rfl
theorem drop_eq {l : List UInt8} {p : Nat} (h : p < l.length) : l.drop p = l.getD p 0 :: l.drop (p + 1) := by
  rw [List.drop_eq_getElem_cons h]
  congr 1
  simp [List.getD_eq_getElem?_getD, h]

theorem St_ok {l : List UInt8} {m : Option (List Sx)} {p lv n : Nat} {r : RV} (h : St l m p lv n r) : r.e = 0 → OkP l m p lv n r := by
  induction h with
  | short | bad | long => intro h; cases h
  | @atom p lv n h1 h2 h3 h4 =>
    intro h hlv hn
    unfold rAtom at h ⊢
    split at h
    · rename_i h5
      rw [if_pos h5]
      obtain ⟨⟨b1, q1, e1⟩, hr1⟩ : ∃ x, x = rBytes l (p + 1) := ⟨_, rfl⟩
      simp only [← hr1] at h ⊢
      split at h
      · rename_i h6; exact absurd h h6
      · rename_i h6
        rw [if_neg h6]
        replace h6 : e1 = 0 := by simpa using h6
        subst h6
        obtain ⟨k1, k2, k3, k4⟩ := rBytes_ok hr1.symm
        split at h
        · cases h
        · rename_i h7
          rw [if_neg h7]
          split at h
          · cases h
          · rename_i h8
            rw [if_neg h8]
            obtain ⟨⟨b2, q2, e2⟩, hr2⟩ : ∃ x, x = rBytes l (q1 + 1) := ⟨_, rfl⟩
            simp only [← hr2] at h ⊢
            split at h
            · rename_i h9; exact absurd h h9
            · rename_i h9
              rw [if_neg h9]
              replace h9 : e2 = 0 := by simpa using h9
              subst h9
              obtain ⟨g1, g2, g3, g4⟩ := rBytes_ok hr2.symm
              replace h8 : l.getD q1 0 = 93 := by simpa using h8
              have hfd : (Sx.mk false true b1 b2 []).form = 91 :: (textL b1 ++ [93]) ++ textL b2 := by rw [form_def, if_neg (by simp), if_pos rfl]
              refine ⟨?_, ?_, g3, by rw [clean_def]; simp [headOk, Sx.cleanL], by simp [Sx.nodes, Sx.nodesL], by omega, by simp [Sx.deep]; exact hlv⟩
              · simp only [hfd, List.cons_append, List.append_assoc, List.nil_append]
                rw [drop_eq h1, h5, k1, drop_eq (by omega), h8, g1]
              · simp only [hfd, List.length_append, List.length_cons, List.length_nil]; omega
    · rename_i h5
      rw [if_neg h5]
      obtain ⟨⟨b1, q1, e1⟩, hr1⟩ : ∃ x, x = rBytes l p := ⟨_, rfl⟩
      simp only [← hr1] at h ⊢
      split at h
      · rename_i h6; exact absurd h h6
      · rename_i h6
        rw [if_neg h6]
        replace h6 : e1 = 0 := by simpa using h6
        subst h6
        obtain ⟨k1, k2, k3, k4⟩ := rBytes_ok hr1.symm
        have hfd : (Sx.mk false false [] b1 []).form = textL b1 := by rw [form_def]; simp
        refine ⟨by simp only [hfd]; exact k1, by simp only [hfd]; exact k2, k3, by rw [clean_def]; simp [headOk, Sx.cleanL], by simp [Sx.nodes, Sx.nodesL], by omega, by simp [Sx.deep]; exact hlv⟩
  | @list p lv n r h1 h2 h3 h4 _ ih =>
    intro h hlv hn
    obtain ⟨ks, e1, e2, e3, e4, e5, e6, e7, e8⟩ := ih h h4 h3
    rw [List.nil_append] at e1
    have hfd : r.v.form = 40 :: (Sx.formL ks ++ [41]) := by rw [e1, form_def, if_pos rfl]
    refine ⟨by rw [hfd, drop_eq h1, h2, e2]; simp, by rw [hfd]; simp only [List.length_cons, List.length_append, List.length_nil]; omega, e4, by rw [e1, clean_def, e5]; simp [headOk], by rw [e1]; simp only [Sx.nodes]; omega, e7, by rw [e1]; simp only [Sx.deep, if_true]; omega⟩
  | @close p lv n acc h1 h2 =>
    intro _ hlv hn
    exact ⟨[], by simp, by rw [drop_eq h1, h2]; rfl, by simp [Sx.formL], h1, rfl, by simp [Sx.nodesL], hn, by simpa [Sx.deepL] using hlv⟩
  | fail _ _ h3 => intro h; exact absurd h h3
  | @more p lv n acc r r' h1 _ h3 _ ih1 ih2 =>
    intro h hlv hn
    obtain ⟨a1, a2, a3, a4, a5, a6, a7⟩ := ih1 h3 (by omega) hn
    obtain ⟨ks, e1, e2, e3, e4, e5, e6, e7, e8⟩ := ih2 h hlv a6
    refine ⟨r.v :: ks, by rw [e1]; simp, by simp only [Sx.formL, List.append_assoc]; rw [← e2]; exact a1, by simp only [Sx.formL, List.length_append]; omega, e4, by rw [cleanL_cons, a4, e5]; rfl, by simp only [Sx.nodesL]; omega, e7, by simp only [Sx.deepL]; omega⟩

theorem take_cons_pos {c : UInt8} {x : List UInt8} {k : Nat} (h : 0 < k) : (c :: x).take k = c :: x.take (k - 1) := by
  cases k with
  | zero => omega
  | succ k => rfl

/-- a form that is cut off is short -/
theorem St_cut {l : List UInt8} (s : Sx) : ∀ (p lv n k : Nat), s.clean = true → l.drop p = s.form.take k → k < s.form.length → n + s.nodes ≤ 512 → s.deep + lv ≤ 17 → s.form.length ≤ 4096 → p ≤ l.length → St l none p lv n (RV.err l.length 2) := by
  induction s using Sx.ind with
  | h tl th hi da ks ih =>
    intro p lv n k hc h hk hn hd hf hp
    have hkl : l.length = p + k := by
      have := congrArg List.length h
      simp at this
      omega
    by_cases hk0 : k = 0
    · exact .short (by omega)
    replace hk0 : 0 < k := by omega
    obtain ⟨p1, p2, p3⟩ := clean_parts hc
    have hhead : p < l.length ∧ starts (l.getD p 0) ∧ (l.getD p 0 = 40 ↔ tl = true) := by
      obtain ⟨c, t, e, hcc⟩ := form_head (.mk tl th hi da ks) []
      rw [List.append_nil] at e
      rw [e, take_cons_pos hk0] at h
      obtain ⟨h1, h2, _⟩ := drop_cons h
      rw [h2]
      refine ⟨h1, ?_⟩
      have d1 : ¬ isD 40 := not_isD (by decide)
      rcases hcc with ⟨a, rfl⟩ | ⟨a, b, rfl⟩ | ⟨a, b, hdd⟩
      · exact ⟨.inl rfl, ⟨fun _ => a, fun _ => rfl⟩⟩
      · exact ⟨.inr (.inl rfl), ⟨fun h => absurd h (by decide), fun h => by simp only [Sx.l] at a; rw [a] at h; cases h⟩⟩
      · exact ⟨.inr (.inr hdd), ⟨fun h => absurd (h ▸ hdd) d1, fun h => by simp only [Sx.l] at a; rw [a] at h; cases h⟩⟩
    obtain ⟨h1, h2, h3⟩ := hhead
    cases tl with
    | false =>
      obtain ⟨rfl, p4⟩ := p2 rfl
      have e : (Sx.mk false th hi da []).nodes = 1 := by simp [Sx.nodes, Sx.nodesL]
      rw [e] at hn
      have hA : rAtom l p (n + 1) = RV.err l.length 2 := by
        have b1 := textL_bound (x := hi)
        have b2 := textL_bound (x := da)
        rw [form_def] at h hf hk
        cases th with
        | true =>
          simp only [Bool.false_eq_true, if_false, if_true, List.length_cons, List.length_append, List.length_nil] at h hf hk
          simp only [List.cons_append, List.append_assoc] at h
          rw [take_cons_pos hk0] at h
          obtain ⟨_, h5, h6⟩ := drop_cons h
          unfold rAtom
          rw [if_pos h5]
          by_cases hk1 : k - 1 < (textL hi).length
          · have r1 := rBytes_cut h6 hk1 (by omega) (by omega)
            simp only [r1]
            rw [if_pos (by simp)]
          · rw [List.take_append, List.take_of_length_le (by omega)] at h6
            have r1 := rBytes_at h6 (by omega)
            simp only [r1]
            rw [if_neg (by simp)]
            by_cases hk2 : k - 1 = (textL hi).length
            · rw [if_pos (by omega)]
            · rw [if_neg (by omega)]
              have h7 := drop_app h6
              simp only [List.nil_append] at h7
              rw [show k - 1 - (textL hi).length = (k - 2 - (textL hi).length) + 1 by omega] at h7
              simp only [List.take_succ_cons] at h7
              obtain ⟨h8, h9, h10⟩ := drop_cons h7
              rw [if_neg (by rw [h9]; simp)]
              have r2 := rBytes_cut (r := []) (by rw [List.append_nil]; exact h10) (by omega) (by omega) (by omega)
              simp only [r2]
              rw [if_pos (by simp)]
        | false =>
          obtain rfl := p4 rfl
          simp only [Bool.false_eq_true, if_false, List.nil_append] at h hf hk
          have r1 := rBytes_cut (r := []) (by rw [List.append_nil]; exact h) hk (by omega) hp
          have hne : l.getD p 0 ≠ 91 := by
            obtain ⟨c, t, e, hdd⟩ := textL_head da []
            rw [List.append_nil] at e
            rw [e, take_cons_pos hk0] at h
            rw [(drop_cons h).2.1]
            intro e2
            subst e2
            exact absurd hdd (not_isD (by decide))
          unfold rAtom
          rw [if_neg hne]
          simp only [r1]
          rw [if_pos (by simp)]
      rw [← hA]
      exact .atom h1 h2 (fun h => by have := h3.1 h; cases this) (by omega)
    | true =>
      obtain ⟨rfl, rfl, rfl⟩ := p1 rfl
      have h4 := h3.2 rfl
      rw [form_def, if_pos rfl] at h hf hk
      simp only [List.length_cons, List.length_append, List.length_nil] at hf hk
      simp only [Sx.nodes, Sx.deep, if_true] at hn hd
      rw [take_cons_pos hk0] at h
      obtain ⟨_, _, h5⟩ := drop_cons h
      have key : ∀ (ks' acc : List Sx) (q m k' : Nat), (∀ x ∈ ks', x ∈ ks) → l.drop q = (Sx.formL ks' ++ [41]).take k' → k' < (Sx.formL ks').length + 1 → m + Sx.nodesL ks' ≤ 512 → (Sx.formL ks').length ≤ 4096 → q ≤ l.length →
          St l (some acc) q lv m (RV.err l.length 2) := by
        intro ks'
        induction ks' with
        | nil =>
          intro acc q m k' _ hq hk' _ _ hql
          have : k' = 0 := by simp only [Sx.formL, List.length_nil] at hk'; omega
          subst this
          have hlen := congrArg List.length hq
          simp at hlen
          exact .fail (fun h => by omega) (.short (by omega)) (by simp [RV.err])
        | cons a t iht =>
          intro acc q m k' hin hq hk' hm hfl hql
          simp only [Sx.formL, List.append_assoc] at hq
          simp only [Sx.nodesL, Sx.formL, List.length_append] at hm hfl hk'
          have ha := hin a List.mem_cons_self
          have hdeep := Sx.deepL_mem ha
          by_cases hka : k' < a.form.length
          · rw [List.take_append_of_le_length (by omega)] at hq
            have s1 := ih a ha q (lv + 1) m k' (p3 a ha) hq hka (by omega) (by omega) (by omega) hql
            refine .fail (fun h => ?_) s1 (by simp [RV.err])
            obtain ⟨c, x, e, hcc⟩ := form_head a []
            rw [List.append_nil] at e
            rcases Nat.eq_zero_or_pos k' with e0 | e0
            · subst e0
              have hlen := congrArg List.length hq
              simp at hlen
              omega
            · rw [e, take_cons_pos e0] at hq
              have h9 := (drop_cons hq).2.1
              rw [h9] at h
              rcases hcc with ⟨_, rfl⟩ | ⟨_, _, rfl⟩ | ⟨_, _, hdd⟩
              · exact absurd h.2 (by decide)
              · exact absurd h.2 (by decide)
              · exact absurd (h.2 ▸ hdd) (not_isD (by decide))
          · rw [List.take_append, List.take_of_length_le (by omega)] at hq
            have s1 := St_form a q (lv + 1) m _ (p3 a ha) hq (by omega) (by omega) (by omega)
            have hno := (starts_head hq).2.2.2
            have h9 := drop_app hq
            have hql2 : q + a.form.length ≤ l.length := by
              have := congrArg List.length hq
              simp at this
              omega
            have s2 := iht (acc ++ [a]) (q + a.form.length) (m + a.nodes) (k' - a.form.length) (fun x hx => hin x (List.mem_cons_of_mem _ hx)) h9 (by omega) (by omega) (by omega) hql2
            exact .more (fun h => hno h.2) s1 rfl s2
      exact .list h1 h4 (by omega) (by omega) (key ks [] (p + 1) (n + 1) (k - 1) (fun x hx => hx) h5 (by omega) (by omega) (by omega) (by omega))
end Go.Proofs.YtcflgoddfakepaaDoor

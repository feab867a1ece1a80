/- A length that is written is read; OctetBack: the walk. -/
import Derived.Test.YtpdkbbenoipohaaDoorGetLen
import Derived.Test.YtpdkbbenoipohaaDoorOwn
import Derived.Test.YtpdkbbenoipohaaDoorOctAwake
namespace Go.Proofs.YtpdkbbenoipohaaDoor
open Go.RowKit

def valA (a : Nat) (w : List UInt8) : Nat := w.foldl (fun a c => 10 * a + (c.toNat - 48)) a
theorem valA_nil (a : Nat) : valA a [] = a := by unfold valA; rw [List.foldl_nil]
theorem valA_cons (a : Nat) (c : UInt8) (t : List UInt8) : valA a (c :: t) = valA (10 * a + (c.toNat - 48)) t := by unfold valA; rw [List.foldl_cons]
theorem valA_ge (w : List UInt8) : ∀ (a : Nat), a ≤ valA a w := by
  induction w with
  | nil => intro a; rw [valA_nil]; exact Nat.le_refl _
  | cons c t ih => intro a; rw [valA_cons]; exact Nat.le_trans (show a ≤ 10 * a + (c.toNat - 48) by omega) (ih _)
theorem valA_snoc (w : List UInt8) (a : Nat) (c : UInt8) : valA a (w ++ [c]) = 10 * valA a w + (c.toNat - 48) := by
  unfold valA; rw [List.foldl_append, List.foldl_cons, List.foldl_nil]
theorem lenScan_app (M : Nat) (r : List UInt8) (w : List UInt8) : ∀ (a : Nat), (∀ c ∈ w, isD c) → a ≤ M → lenScan M a (w ++ r) = if M < valA a w then none else (lenScan M (valA a w) r).map fun p => (p.1, p.2 + w.length) := by
  induction w with
  | nil =>
    intro a _ ha
    rw [List.nil_append, valA_nil, if_neg (by omega)]
    cases lenScan M a r <;> simp
  | cons c t ih =>
    intro a h ha
    have hc := h c (List.mem_cons_self ..)
    rw [List.cons_append, lenScan, if_pos hc, valA_cons]
    by_cases ho : M < 10 * a + (c.toNat - 48)
    · have := valA_ge t (10 * a + (c.toNat - 48))
      rw [if_pos ho, if_pos (by omega)]
    · rw [if_neg ho, ih _ (fun d hd => h d (List.mem_cons_of_mem _ hd)) (by omega)]
      split
      · rfl
      · generalize lenScan M (valA (10 * a + (c.toNat - 48)) t) r = z
        cases z with
        | none => rfl
        | some p => simp only [Option.map_some, List.length_cons]; rw [Nat.add_assoc]

theorem dec_facts : ∀ (u : Nat), (∀ c ∈ Lib.decDigits u, isD c) ∧ valA 0 (Lib.decDigits u) = u ∧ (0 < u → (Lib.decDigits u).getD 0 0 ≠ 48) ∧ 0 < (Lib.decDigits u).length := by
  intro u
  induction u using Nat.strongRecOn with
  | _ u ih =>
    rw [Lib.decDigits]
    split
    · rename_i h
      have e : (UInt8.ofNat (48 + u)).toNat = 48 + u := by simp; omega
      refine ⟨fun c hc => ?_, ?_, fun h0 => ?_, by simp⟩
      · rw [List.mem_singleton.1 hc]; unfold isD; rw [e]; omega
      · rw [valA_cons, valA_nil, e]; omega
      · show UInt8.ofNat (48 + u) ≠ 48
        intro h2
        have := congrArg UInt8.toNat h2
        rw [e] at this
        simp at this; omega
    · rename_i h
      obtain ⟨i1, i2, i3, i4⟩ := ih (u / 10) (by omega)
      have e : (UInt8.ofNat (48 + u % 10)).toNat = 48 + u % 10 := by simp; omega
      refine ⟨fun c hc => ?_, ?_, fun _ => ?_, by simp⟩
      · rcases List.mem_append.1 hc with hc | hc
        · exact i1 c hc
        · rw [List.mem_singleton.1 hc]; unfold isD; rw [e]; omega
      · rw [valA_snoc, i2, e]; omega
      · have := i3 (by omega)
        rw [List.getD_eq_getElem?_getD, List.getElem?_append_left i4, ← List.getD_eq_getElem?_getD]; exact this

theorem back_len (n : Int) (h0 : 0 ≤ n) (t : List UInt8) (ht : ∀ c r, t = c :: r → ¬ isD c) (M : Nat) (hM : n.toNat ≤ M) : lenR (numL n ++ t) 0 M = (n, ((numL n).length : Int), 0) := by
  obtain ⟨d1, d2, d3, d4⟩ := dec_facts n.toNat
  unfold numL at *
  obtain ⟨L, hL⟩ : ∃ L, L = Lib.decDigits n.toNat := ⟨_, rfl⟩
  rw [← hL] at d1 d2 d3 d4 ⊢
  have hg : (L ++ t).getD 0 0 = L.getD 0 0 := by simp [List.getD_eq_getElem?_getD, List.getElem?_append_left d4]
  have hd : isD (L.getD 0 0) := d1 _ (by simp [List.getD_eq_getElem?_getD, List.getElem?_eq_getElem d4])
  unfold lenR
  rw [if_neg (by omega), if_neg (by rw [List.length_append]; omega), Int.toNat_zero, hg, if_neg (fun h => h hd)]
  by_cases hn : n = 0
  · subst hn
    have : L = [48] := by rw [hL, Lib.decDigits]; rfl
    subst this
    rfl
  · have h1 := d3 (by omega)
    rw [if_neg h1, List.drop_zero, lenScan_app M t L 0 d1 (Nat.zero_le _), d2, if_neg (by omega)]
    have : lenScan M n.toNat t = some (n.toNat, 0) := by
      cases t with
      | nil => rfl
      | cons c r => unfold lenScan; rw [if_neg (ht c r rfl)]
    rw [this]
    simp; omega

set_option maxHeartbeats 4000000 in
theorem OctetBack_walk (n c : Int) (w : World) (htab : Tab w) (w0 : (Lit.int .i64 n).wf = true) (w1 : (Lit.int .u8 c).wf = true) :
    Calls Tryd.prog 4 #[.int .i64 n, .int .u8 c] w fun e w' => e = .returned (.bool true) ∧ Below w.heap.size w w' := by
  have hn : -9223372036854775808 ≤ n ∧ n ≤ 9223372036854775807 := by simpa [Lit.wf, IntKind.min, IntKind.max, IntKind.bits, IntKind.signed] using w0
  have hc : 0 ≤ c ∧ c ≤ 255 := by simpa [Lit.wf, IntKind.min, IntKind.max, IntKind.bits, IntKind.signed] using w1
  obtain ⟨hn1, hn2⟩ := hn
  obtain ⟨hc1, hc2⟩ := hc
  clear w0 w1
  have HTab := Lib.hid htab
  clear htab
  have aw : ∀ w : World, Calls Tryd.prog 5 #[] w fun e w' => e = .returned (.bool true) ∧ Below w.heap.size w w' := awake_any
  by_cases g1 : n < 0
  · go_enter Tryd.func4, Tryd.ntmps4
    go_wp2_with fail
    refine (awake_any _).mono ?_
    rintro e w1 ⟨rfl, hb⟩
    go_wp2_with fail
    go_ret
    exact ⟨rfl, hb⟩
  replace g1 : 0 ≤ n := by omega
  by_cases g2 : 1000000000000000 < n
  · go_enter Tryd.func4, Tryd.ntmps4
    go_wp2_with fail
    refine (awake_any _).mono ?_
    rintro e w1 ⟨rfl, hb⟩
    go_wp2_with fail
    go_ret
    exact ⟨rfl, hb⟩
  replace g2 : n ≤ 1000000000000000 := by omega
  by_cases g3 : 48 ≤ c ∧ c ≤ 57
  · obtain ⟨g3, g4⟩ := g3
    go_enter Tryd.func4, Tryd.ntmps4
    go_wp2_with fail
    refine (awake_any _).mono ?_
    rintro e w1 ⟨rfl, hb⟩
    go_wp2_with fail
    go_ret
    exact ⟨rfl, hb⟩
  obtain ⟨ch, hch⟩ : ∃ ch : UInt8, c = (ch.toNat : Int) := ⟨UInt8.ofNat c.toNat, by simp; omega⟩
  have HB := Lib.hid (back_len n g1 [ch] (fun x r e => by obtain ⟨rfl, _⟩ : ch = x ∧ [] = r := by simpa using e
                                                          unfold isD; omega) n.toNat (Nat.le_refl _))
  have HPut := Lib.hid (fun (w : World) (h : Tab w) => putLen_any n hn1 hn2 w h)
  have hLL := numL_len n hn2
  obtain ⟨L, hL⟩ : ∃ L, L = numL n := ⟨_, rfl⟩
  rw [← hL] at HB HPut hLL
  have hsz : (⟨L.toArray⟩ : ByteArray).size = L.length := by simp [ByteArray.size]
  have HSZ := Lib.hid hsz
  have HCH := Lib.hid hch
  clear hL hsz hch
  have en : (n == n) = true := by simp
  have el : ((L.length : Int) == (L.length : Int)) = true := by simp
  have step : (48 ≤ c ∧ 57 < c) ∨ c < 48 := by omega
  clear g3
  have tail : ∀ (dummy : Unit), Calls Tryd.prog 4 #[.int .i64 n, .int .u8 c] w fun e w' => e = .returned (.bool true) ∧ Below w.heap.size w w' := by
    intro _
    rcases step with ⟨s1, s2⟩ | s1
    all_goals
      go_enter Tryd.func4, Tryd.ntmps4
      go_wp2_with fail
      refine (HPut.out _ HTab.out).mono ?_
      rintro e w1 ⟨rfl, hW1⟩
      obtain ⟨v, w2, hrun, hown, hb2⟩ := conv_own w1 ⟨L.toArray⟩ (by rw [HSZ.out]; omega) w1.heap.size (Nat.le_refl _)
      rw [HSZ.out] at hown
      replace hown : Own w2 w1.heap.size v L.length L := hown
      have hown2 := hown.after ((Below.refl w2.heap.size w2).alloc (Nat.le_refl _) (.cells #[.int .u8 c] 5))
      have s48 : Sl (w2.alloc (.cells #[.int .u8 c] 5)) (some ⟨w2.heap.size, 0, none⟩) 1 1 [ch] := sl_cell1 w2 ch c HCH.out
      have hW2 := hW1.trans (hb2.mono hW1.size)
      have hb3 : Below w.heap.size w (w2.alloc (.cells #[.int .u8 c] 5)) := hW2.alloc (by have := hW2.size; omega) _
      go_wp2_with (first
        | (at_builtin; refine wpList_own_append rfl (.tmp 28) (.tmp 30) 22 rfl w1.heap.size v _ L.length 1 L [ch] rfl rfl hown2 (src_sl s48) (by have := hb2.size; simp; omega) (by omega) ?_; intro v4 w4 hown4 hb4)
        | fail)
      obtain ⟨a4, c4, rfl, s4⟩ := hown4.sl
      have hW4 := hb3.trans (hb4.mono hW1.size)
      refine (getLen_any _ _ _ _ _ _ n.toNat _ s4 (by omega) (by omega) (by omega) (by omega) (by omega)).mono ?_
      rintro e w5 ⟨rfl, hb5⟩
      rw [HB.out]
      have hW5 := hW4.trans (hb5.mono hW4.size)
      clear hrun
      go_wp2_with fail
      refine (awake_any _).mono ?_
      rintro e w6 ⟨rfl, hb⟩
      go_wp2_with fail
      go_ret
      exact ⟨rfl, hW5.trans (hb.mono hW5.size)⟩
  exact tail ()
end Go.Proofs.YtpdkbbenoipohaaDoor

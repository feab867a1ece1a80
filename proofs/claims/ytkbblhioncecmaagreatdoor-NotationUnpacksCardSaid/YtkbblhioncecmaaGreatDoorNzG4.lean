/- The document's value: what it computes. The document's Get: what it answers. The reader as a machine with a stack of open lists: plain. What Get answers, for what is a form, cut off, or has more behind it: plain. Clones of bytes: what they compute. The program's reader: sign, begins: what they compute. The program's reader: bytes: what it computes. -/
import Derived.Test.YtkbblhioncecmaaGreatDoorNzG3
import Derived.Recover
namespace Go.Proofs.YtkbblhioncecmaaGreatDoor
open Go.RowKit
set_option linter.unusedSimpArgs false
set_option linter.unusedVariables false

/-- a reading's outcome is handed back -/
def RS (ok : Nat → Prop) (l : List UInt8) (p lv m : Nat) (w : World) (e : Ending) (w' : World) : Prop := ∃ r, St l none p lv m r ∧ RP ok r w e w'
/-- what a value in the row may lead to: not to the row itself -/
def okK (ok : Nat → Prop) (g : Nat) (vt : Value) : Nat → Prop := fun k => (ok k ∨ g < k) ∧ vt.ownBlock ≠ some k

theorem bEq {a : UInt8} (k : Nat) (z : Int) (hz : z = (k : Int)) (h : a.toNat = k) : ((a.toNat : Int) == z) = true ∧ ((a.toNat : Int) != z) = false ∧ (a.toNat : Int) = z := by
  subst hz
  exact ⟨(byte_eq h).1, (byte_eq h).2, by rw [h]⟩
theorem bNe {a : UInt8} (k : Nat) (z : Int) (hz : z = (k : Int)) (h : a.toNat ≠ k) : ((a.toNat : Int) == z) = false ∧ ((a.toNat : Int) != z) = true ∧ ¬ (a.toNat : Int) = z := by
  subst hz
  exact ⟨(byte_ne h).1, (byte_ne h).2, by omega⟩
theorem St_place {l : List UInt8} {p lv n : Nat} {r : RV} (h : St l none p lv n r) (he : r.e = 0) (hlv : lv ≤ 17) (hn : n ≤ 512) : p < r.p ∧ r.p ≤ l.length ∧ r.n ≤ 512 ∧ n < r.n := by
  obtain ⟨h1, h2, h3, h4, h5, h6, h7⟩ := St_ok h he hlv hn
  have := nodes_pos r.v
  have hpos : 0 < r.v.form.length := by
    obtain ⟨c, t, e, _⟩ := form_head r.v []
    rw [List.append_nil] at e
    rw [e]; simp
  exact ⟨by omega, h3, h6, by omega⟩
theorem Box.range {w : World} {g : Nat} {T : TypeId} {cs : Array Value} (h : Box w g T cs) (o : Nat) (xs : List Value) (hx : ∀ j u, xs[j]? = some u → cs[o + j]? = some u) : w.rangeAt g o xs := fun j u hu => h.cell (o + j) (hx j u hu)
theorem newsK_snoc (K : Nat → SV) (n : Nat) (v : SV) : newsK K n ++ newsK (fun _ => v) 1 = newsK (fun i => if i = n then v else K i) (n + 1) := by
  have e : newsK (fun i => if i = n then v else K i) n = newsK K n := newsK_congr fun i h => if_neg (by omega)
  show newsK K n ++ ([] ++ v.cells.toList) = newsK _ n ++ (if n = n then v else K n).cells.toList
  rw [e, if_pos rfl, List.nil_append]
theorem src_one (w : World) (v : SV) : Src Tryz.prog 5 24 (.slice (some ⟨w.heap.size, 0, none⟩) 1 1) 1 (newsK (fun _ => v) 1) (w.alloc (.cells v.cells 26)) := by
  refine Src.ofSlice _ Tryz.underlying24 _ 1 1 _ (newsK_len _ 1) (fun j u hu => ?_) (newsK_one _ 1)
  rw [Addr.add_mid]
  refine (Box.new w 26 v.cells).cell (0 + j) ?_
  rw [Nat.zero_add]
  simpa [newsK] using hu
theorem kids_more {ok : Nat → Prop} {g B G al : Nat} {own v' : Value} {u w2 : World} {K : Nat → SV} {acc : List Sx} {v : SV} {rv : Sx} (hal : al = acc.length)
    (hK : ∀ i (hi : i < acc.length), RdI (okK ok g own) u (K i) acc[i]) (hR : RdI (fun k => (ok k ∨ B ≤ k) ∧ k < G) u v rv)
    (hok : ∀ k, ok k → k < g) (hB : g < B) (hown : ∀ k, own.ownBlock = some k → g < k ∧ k < B)
    (hg : u.grownBy w2 own.ownBlock) (hw : ∀ k, v'.ownBlock = some k → own.ownBlock = some k ∨ u.heap.size ≤ k) (x : Value) :
    ∀ i (hi : i < (acc ++ [rv]).length), RdI (okK ok g v') (w2.setCell ⟨g, 4, none⟩ x) (if i = al then v else K i) (acc ++ [rv])[i] := by
  have key : ∀ {p : Nat → Prop} {v0 : SV} {s0 : Sx}, RdI p u v0 s0 → (∀ k, p k → (ok k ∨ g < k) ∧ own.ownBlock ≠ some k) → RdI (okK ok g v') (w2.setCell ⟨g, 4, none⟩ x) v0 s0 := by
    intro p v0 s0 h hp
    refine (h.there.keep (fun k hk => ?_)).mono (fun k hk => ⟨(hp k hk.1).1, fun e => ?_⟩)
    · obtain ⟨h1, h2⟩ := hp k hk.1
      have hne : k ≠ g := by
        rcases h1 with h1 | h1
        · exact Nat.ne_of_lt (hok k h1)
        · omega
      exact (heap_setCell_other _ _ _ _ hne).trans (hg.block k hk.2 (fun e => h2 e.symm))
    · rcases hw k e with e | e
      · exact (hp k hk.1).2 e
      · exact absurd hk.2 (by omega)
  intro i hi
  by_cases hia : i = al
  · rw [if_pos hia]
    have e : (acc ++ [rv])[i] = rv := by
      subst hia hal
      simp
    rw [e]
    refine key hR (fun k hk => ⟨hk.1.imp id (fun h => by omega), fun e => ?_⟩)
    have h1 := hown k e
    rcases hk.1 with h2 | h2
    · have := hok k h2; omega
    · omega
  · rw [if_neg hia]
    have hlt : i < acc.length := by simp at hi; omega
    rw [List.getElem_append_left hlt]
    exact key (hK i hlt) (fun k hk => hk)

set_option maxHeartbeats 16000000 in
set_option maxRecDepth 100000 in
theorem refValue_any (ok : Nat → Prop) (a : Option Addr) (n c : Nat) (l : List UInt8) (hn : n ≤ 100000) (hi : InB ok a n) : ∀ (N p lv m : Nat) (w : World), n - p < N → Sl w a n c l → (∀ k, ok k → k < w.heap.size) → p ≤ n → lv ≤ 17 → m ≤ 512 →
    Calls Tryz.prog 31 #[.slice a n c, .int .i64 p, .int .i64 lv, .int .i64 m] w (RS ok l p lv m w) := by
  intro N
  induction N with
  | zero => intro p lv m w h; omega
  | succ N ih =>
  intro p lv m w hN hs hok hp hlv hm
  have HS := Lib.hid hs
  have HL := Lib.hid (Nat.le_of_eq hs.1)
  have HL' := Lib.hid (Nat.le_of_eq hs.1.symm)
  have HOK := Lib.hid hok
  have HI := Lib.hid hi
  have B0 : Below w.heap.size w (w.alloc (.cells #[.bool false, .bool false, .slice none 0 0, .slice none 0 0, .slice none 0 0, .int .i64 0, .int .i64 0, .int .i64 0] 47)) := (Below.refl _ _).alloc (Nat.le_refl _) _
  have X0 := Box.new w 47 #[.bool false, .bool false, .slice none 0 0, .slice none 0 0, .slice none 0 0, .int .i64 0, .int .i64 0, .int .i64 0]
  have IH := Lib.hid ih
  clear ih hok hi
  by_cases hend : n ≤ p
  case pos =>
    have hend' : (n : Int) ≤ (p : Int) := by omega
    have hSt : St l none p lv m (RV.err n 2) := by have := St.short (l := l) (p := p) (lv := lv) (n := m) (by have := HL'.out; omega); rwa [show l.length = n by have := HL.out; have := HL'.out; omega] at this
    have HST := Lib.hid hSt
    clear hSt hs
    go_enter Tryz.func31, Tryz.ntmps31
    go_wp2_with (refine wpList_store_box (cells := #[.bool false, .bool false, .slice none 0 0, .slice none 0 0, .slice none 0 0, .int .i64 n, .int .i64 0, .int .i64 2]) rfl 47 _ _ rfl X0 (by rfl) (by rfl) rfl (by kernel_rfl) (by simp [Value.oneCell']) ?_; intro u9 X9 st9)
    have B9 := st9.below w.heap.size w (Nat.le_refl _) B0
    exact bodyPost_ret (v := .agg #[.bool false, .bool false, .slice none 0 0, .slice none 0 0, .slice none 0 0, .int .i64 n, .int .i64 0, .int .i64 2]) (box_result rfl _ _ (by rfl) X9 Tryz.underlying47 rfl (by kernel_rfl)) rfl ⟨_, HST.out, rp_err rfl B9⟩
  have hend' : ¬ (n : Int) ≤ (p : Int) := by omega
  obtain ⟨b, o, rfl, hc⟩ : ∃ b o, a = some ⟨b, o, none⟩ ∧ ∀ i, i < n → w.cell? ⟨b, o + i, none⟩ = some (.int .u8 ((l.getD i 0).toNat : Int)) := by
    rcases hs.2.2.2.2 with h0 | h0
    · omega
    · exact h0
  have HC : Hid (∀ i, i < n → ∀ w', Below w.heap.size w w' → w'.cell? ⟨b, o + i, none⟩ = some (.int .u8 ((l.getD i 0).toNat : Int))) := Lib.hid fun i hi w' hb => (hb.cell (p := ⟨b, o + i, none⟩) (cell_lt (hc i hi))).trans (hc i hi)
  obtain ⟨ch, hch⟩ : ∃ ch, ch = l.getD p 0 := ⟨_, rfl⟩
  have HCH := Lib.hid hch
  have HPL := Lib.hid (show p < l.length by have := HL.out; omega)
  have q0 := HC.out p (by omega) _ B0
  rw [← hch] at q0
  have hcb := ch.toNat_lt
  clear hs hc hch
  by_cases hst : starts ch
  case neg =>
    have hSt : St l none p lv m (RV.err p 3) := St.bad HPL.out (by rw [← HCH.out]; exact hst)
    have HST := Lib.hid hSt
    obtain ⟨x1, x2, x1y⟩ := bNe (a := ch) 40 40 rfl (fun e => hst (.inl (by rw [← UInt8.toNat_inj]; exact e)))
    obtain ⟨x3, x4, x3y⟩ := bNe (a := ch) 91 91 rfl (fun e => hst (.inr (.inl (by rw [← UInt8.toNat_inj]; exact e))))
    have hnd : ch.toNat < 48 ∨ 57 < ch.toNat := by
      rcases Nat.lt_or_ge ch.toNat 48 with h | h
      · exact .inl h
      · rcases Nat.lt_or_ge 57 ch.toNat with h' | h'
        · exact .inr h'
        · exact absurd (.inr (.inr ⟨h, h'⟩)) hst
    clear hSt hst
    rcases hnd with hnd | hnd
    · have hnd' : (ch.toNat : Int) < 48 := by omega
      go_enter Tryz.func31, Tryz.ntmps31
      go_wp2_with (refine wpList_store_box (cells := #[.bool false, .bool false, .slice none 0 0, .slice none 0 0, .slice none 0 0, .int .i64 p, .int .i64 0, .int .i64 3]) rfl 47 _ _ rfl X0 (by rfl) (by rfl) rfl (by kernel_rfl) (by simp [Value.oneCell']) ?_; intro u9 X9 st9)
      have B9 := st9.below w.heap.size w (Nat.le_refl _) B0
      exact bodyPost_ret (v := .agg #[.bool false, .bool false, .slice none 0 0, .slice none 0 0, .slice none 0 0, .int .i64 p, .int .i64 0, .int .i64 3]) (box_result rfl _ _ (by rfl) X9 Tryz.underlying47 rfl (by kernel_rfl)) rfl ⟨_, HST.out, rp_err rfl B9⟩
    · have hnd' : ¬ (ch.toNat : Int) < 48 := by omega
      have hnd2 : (57 : Int) < (ch.toNat : Int) := by omega
      go_enter Tryz.func31, Tryz.ntmps31
      go_wp2_with (refine wpList_store_box (cells := #[.bool false, .bool false, .slice none 0 0, .slice none 0 0, .slice none 0 0, .int .i64 p, .int .i64 0, .int .i64 3]) rfl 47 _ _ rfl X0 (by rfl) (by rfl) rfl (by kernel_rfl) (by simp [Value.oneCell']) ?_; intro u9 X9 st9)
      have B9 := st9.below w.heap.size w (Nat.le_refl _) B0
      exact bodyPost_ret (v := .agg #[.bool false, .bool false, .slice none 0 0, .slice none 0 0, .slice none 0 0, .int .i64 p, .int .i64 0, .int .i64 3]) (box_result rfl _ _ (by rfl) X9 Tryz.underlying47 rfl (by kernel_rfl)) rfl ⟨_, HST.out, rp_err rfl B9⟩
  have HSTA := Lib.hid hst
  by_cases hlong : 512 < m + 1 ∨ ch = 40 ∧ 16 < lv
  case pos =>
    have hSt : St l none p lv m (RV.err p 4) := St.long HPL.out (by rw [← HCH.out]; exact hst) (by rw [← HCH.out]; exact hlong)
    have HST := Lib.hid hSt
    clear hSt
    by_cases h512 : 512 < m + 1
    · have h512' : (512 : Int) < (m : Int) + 1 := by omega
      clear hlong
      rcases hst with h40 | h91 | hdg
      · obtain ⟨x1, x2, x1y⟩ := bEq (a := ch) 40 40 rfl (by rw [h40]; rfl)
        clear h40
        go_enter Tryz.func31, Tryz.ntmps31
        go_wp2_with (refine wpList_store_box (cells := #[.bool false, .bool false, .slice none 0 0, .slice none 0 0, .slice none 0 0, .int .i64 p, .int .i64 0, .int .i64 4]) rfl 47 _ _ rfl X0 (by rfl) (by rfl) rfl (by kernel_rfl) (by simp [Value.oneCell']) ?_; intro u9 X9 st9)
        have B9 := st9.below w.heap.size w (Nat.le_refl _) B0
        exact bodyPost_ret (v := .agg #[.bool false, .bool false, .slice none 0 0, .slice none 0 0, .slice none 0 0, .int .i64 p, .int .i64 0, .int .i64 4]) (box_result rfl _ _ (by rfl) X9 Tryz.underlying47 rfl (by kernel_rfl)) rfl ⟨_, HST.out, rp_err rfl B9⟩
      · obtain ⟨x1, x2, x1y⟩ := bNe (a := ch) 40 40 rfl (by rw [h91]; decide)
        obtain ⟨x3, x4, x3y⟩ := bEq (a := ch) 91 91 rfl (by rw [h91]; rfl)
        clear h91
        go_enter Tryz.func31, Tryz.ntmps31
        go_wp2_with (refine wpList_store_box (cells := #[.bool false, .bool false, .slice none 0 0, .slice none 0 0, .slice none 0 0, .int .i64 p, .int .i64 0, .int .i64 4]) rfl 47 _ _ rfl X0 (by rfl) (by rfl) rfl (by kernel_rfl) (by simp [Value.oneCell']) ?_; intro u9 X9 st9)
        have B9 := st9.below w.heap.size w (Nat.le_refl _) B0
        exact bodyPost_ret (v := .agg #[.bool false, .bool false, .slice none 0 0, .slice none 0 0, .slice none 0 0, .int .i64 p, .int .i64 0, .int .i64 4]) (box_result rfl _ _ (by rfl) X9 Tryz.underlying47 rfl (by kernel_rfl)) rfl ⟨_, HST.out, rp_err rfl B9⟩
      · unfold isD at hdg
        obtain ⟨x1, x2, x1y⟩ := bNe (a := ch) 40 40 rfl (by omega)
        obtain ⟨x3, x4, x3y⟩ := bNe (a := ch) 91 91 rfl (by omega)
        have x5 : ¬ (ch.toNat : Int) < 48 := by omega
        have x6 : ¬ (57 : Int) < (ch.toNat : Int) := by omega
        clear hdg
        go_enter Tryz.func31, Tryz.ntmps31
        go_wp2_with (refine wpList_store_box (cells := #[.bool false, .bool false, .slice none 0 0, .slice none 0 0, .slice none 0 0, .int .i64 p, .int .i64 0, .int .i64 4]) rfl 47 _ _ rfl X0 (by rfl) (by rfl) rfl (by kernel_rfl) (by simp [Value.oneCell']) ?_; intro u9 X9 st9)
        have B9 := st9.below w.heap.size w (Nat.le_refl _) B0
        exact bodyPost_ret (v := .agg #[.bool false, .bool false, .slice none 0 0, .slice none 0 0, .slice none 0 0, .int .i64 p, .int .i64 0, .int .i64 4]) (box_result rfl _ _ (by rfl) X9 Tryz.underlying47 rfl (by kernel_rfl)) rfl ⟨_, HST.out, rp_err rfl B9⟩
    · have h512' : ¬ (512 : Int) < (m : Int) + 1 := by omega
      obtain ⟨h40, h16⟩ := hlong.resolve_left h512
      have h16' : (16 : Int) < (lv : Int) := by omega
      obtain ⟨x1, x2, x1y⟩ := bEq (a := ch) 40 40 rfl (by rw [h40]; rfl)
      clear h40 hlong hst
      go_enter Tryz.func31, Tryz.ntmps31
      go_wp2_with (refine wpList_store_box (cells := #[.bool false, .bool false, .slice none 0 0, .slice none 0 0, .slice none 0 0, .int .i64 p, .int .i64 0, .int .i64 4]) rfl 47 _ _ rfl X0 (by rfl) (by rfl) rfl (by kernel_rfl) (by simp [Value.oneCell']) ?_; intro u9 X9 st9)
      have B9 := st9.below w.heap.size w (Nat.le_refl _) B0
      exact bodyPost_ret (v := .agg #[.bool false, .bool false, .slice none 0 0, .slice none 0 0, .slice none 0 0, .int .i64 p, .int .i64 0, .int .i64 4]) (box_result rfl _ _ (by rfl) X9 Tryz.underlying47 rfl (by kernel_rfl)) rfl ⟨_, HST.out, rp_err rfl B9⟩
  have h512 : m + 1 ≤ 512 := by omega
  have h512' : ¬ (512 : Int) < (m : Int) + 1 := by omega
  by_cases h40 : ch = 40
  case neg =>
    have hSt : St l none p lv m (rAtom l p (m + 1)) := St.atom HPL.out (by rw [← HCH.out]; exact hst) (by rw [← HCH.out]; exact h40) h512
    have HST := Lib.hid hSt
    have CA := Lib.hid (fun w' (hb : Below w.heap.size w w') => refAtom_any ok (some ⟨b, o, none⟩) n c l p (m + 1) w' (HS.out.after hb) HI.out (fun k h => Nat.lt_of_lt_of_le (HOK.out k h) hb.size) hn (by omega) (by omega))
    have pq : ((m + 1 : Nat) : Int) = (m : Int) + 1 := by omega
    rw [pq] at CA
    obtain ⟨x1, x2, x1y⟩ := bNe (a := ch) 40 40 rfl (fun e => h40 (by rw [← UInt8.toNat_inj]; exact e))
    clear hSt pq
    have fin : ∀ a' c' n' : Nat, True := fun _ _ _ => trivial
    clear fin
    rcases hst with h | h91 | hdg
    · exact absurd h h40
    · obtain ⟨x3, x4, x3y⟩ := bEq (a := ch) 91 91 rfl (by rw [h91]; rfl)
      clear h91 h40 hlong
      go_enter Tryz.func31, Tryz.ntmps31
      go_wp2_with fail
      refine (CA.out _ B0).mono ?_
      rintro e w1 ⟨v, rfl, hrd, hb1⟩
      have B1 := B0.trans (hb1.mono B0.size)
      have X1 := X0.after hb1
      have HRD := Lib.hid hrd
      have HX1 := Lib.hid X1
      clear X0 hrd hb1 X1
      go_wp2_with (refine wpList_store_box (cells := #[.bool v.l, .bool v.h, .slice v.a1 v.n1 v.c1, .slice v.a2 v.n2 v.c2, .slice v.a3 v.n3 v.c3, .int .i64 (rAtom l p (m + 1)).p, .int .i64 (rAtom l p (m + 1)).n, .int .i64 (rAtom l p (m + 1)).e]) rfl 47 _ _ rfl HX1.out (by rfl) (by rfl) rfl (by kernel_rfl) (by simp [Value.oneCell']) ?_; intro u9 X9 st9)
      have B9 := st9.below w.heap.size w (Nat.le_refl _) B1
      exact bodyPost_ret (v := .agg #[.bool v.l, .bool v.h, .slice v.a1 v.n1 v.c1, .slice v.a2 v.n2 v.c2, .slice v.a3 v.n3 v.c3, .int .i64 (rAtom l p (m + 1)).p, .int .i64 (rAtom l p (m + 1)).n, .int .i64 (rAtom l p (m + 1)).e]) (box_result rfl _ _ (by rfl) X9 Tryz.underlying47 rfl (by kernel_rfl)) rfl ⟨_, HST.out, v, rfl, ((HRD.out.there.keep (fun k hk => st9.other k (hk.1.elim (fun h => Nat.ne_of_lt (HOK.out k h)) (fun h => by simp at h; omega)))).mono (fun k hk => hk.1.imp id fun h => Nat.le_trans B0.size h)), B9⟩
    · unfold isD at hdg
      obtain ⟨x3, x4, x3y⟩ := bNe (a := ch) 91 91 rfl (by omega)
      have x5 : ¬ (ch.toNat : Int) < 48 := by omega
      have x6 : ¬ (57 : Int) < (ch.toNat : Int) := by omega
      clear hdg h40 hlong
      go_enter Tryz.func31, Tryz.ntmps31
      go_wp2_with fail
      refine (CA.out _ B0).mono ?_
      rintro e w1 ⟨v, rfl, hrd, hb1⟩
      have B1 := B0.trans (hb1.mono B0.size)
      have X1 := X0.after hb1
      have HRD := Lib.hid hrd
      have HX1 := Lib.hid X1
      clear X0 hrd hb1 X1
      go_wp2_with (refine wpList_store_box (cells := #[.bool v.l, .bool v.h, .slice v.a1 v.n1 v.c1, .slice v.a2 v.n2 v.c2, .slice v.a3 v.n3 v.c3, .int .i64 (rAtom l p (m + 1)).p, .int .i64 (rAtom l p (m + 1)).n, .int .i64 (rAtom l p (m + 1)).e]) rfl 47 _ _ rfl HX1.out (by rfl) (by rfl) rfl (by kernel_rfl) (by simp [Value.oneCell']) ?_; intro u9 X9 st9)
      have B9 := st9.below w.heap.size w (Nat.le_refl _) B1
      exact bodyPost_ret (v := .agg #[.bool v.l, .bool v.h, .slice v.a1 v.n1 v.c1, .slice v.a2 v.n2 v.c2, .slice v.a3 v.n3 v.c3, .int .i64 (rAtom l p (m + 1)).p, .int .i64 (rAtom l p (m + 1)).n, .int .i64 (rAtom l p (m + 1)).e]) (box_result rfl _ _ (by rfl) X9 Tryz.underlying47 rfl (by kernel_rfl)) rfl ⟨_, HST.out, v, rfl, ((HRD.out.there.keep (fun k hk => st9.other k (hk.1.elim (fun h => Nat.ne_of_lt (HOK.out k h)) (fun h => by simp at h; omega)))).mono (fun k hk => hk.1.imp id fun h => Nat.le_trans B0.size h)), B9⟩
  have hlv16 : lv ≤ 16 := by
    rcases Nat.lt_or_ge 16 lv with h | h
    · exact absurd (.inr ⟨h40, h⟩) hlong
    · exact h
  have hlv16' : ¬ (16 : Int) < (lv : Int) := by omega
  obtain ⟨x1, x2, x1y⟩ := bEq (a := ch) 40 40 rfl (by rw [h40]; rfl)
  have HLIST : Hid (∀ r, St l (some []) (p + 1) lv (m + 1) r → St l none p lv m r) := Lib.hid fun r h => St.list HPL.out (by rw [← HCH.out]; exact h40) h512 hlv16 h
  clear h40 hlong hst
  go_enter Tryz.func31, Tryz.ntmps31
  go_upto_region 1 with fail
  change Code.wp _ _ _ _ (w.alloc (.cells #[.bool false, .bool false, .slice none 0 0, .slice none 0 0, .slice none 0 0, .int .i64 0, .int .i64 0, .int .i64 0] 47))
  generalize (w.alloc (.cells #[.bool false, .bool false, .slice none 0 0, .slice none 0 0, .slice none 0 0, .int .i64 0, .int .i64 0, .int .i64 0] 47)) = v0 at *
  go_upto_region 11 with (refine wpList_store_box (cells := #[.bool true, .bool false, .slice none 0 0, .slice none 0 0, .slice none 0 0]) rfl 26 _ _ rfl (Box.new _ _ _) (by rfl) (by rfl) rfl (by kernel_rfl) (by simp [Value.oneCell']) ?_; intro u1 Y1 st1)
  have B1 := st1.below w.heap.size w B0.size (B0.alloc B0.size _)
  have X1 := st1.box (X0.alloc (.cells #[.bool false, .bool false, .slice none 0 0, .slice none 0 0, .slice none 0 0] 26)) (Nat.ne_of_lt X0.lt)
  have hlt1 := X0.lt
  have hz1 := Y1.lt
  have HO1 : Hid (OwnG u1 (v0.heap.size + 1) 5 (.slice none 0 0) 0 (newsK (fun _ => SV.nil) 0)) := Lib.hid (OwnG.nil _ _ _)
  clear X0 B0 st1 q0
  generalize v0.heap.size = g at *
  go_wp2_with fail
  go_loopw [1, 3, 11] (fun at_ cn gp wr => ∃ (q cnt al : Nat) (acc : List Sx) (ta : Option Addr) (tc : Nat) (K : Nat → SV), p + 1 ≤ q ∧ q ≤ n ∧ cnt ≤ 512 ∧ al ≤ cnt ∧ at_ = .int .i64 q ∧ cn = .int .i64 cnt ∧ Hid (al = acc.length) ∧ Hid (∀ r, St l (some acc) q lv cnt r → St l none p lv m r) ∧ Box wr w.heap.size 47 #[.bool false, .bool false, .slice none 0 0, .slice none 0 0, .slice none 0 0, .int .i64 0, .int .i64 0, .int .i64 0] ∧ Box wr g 26 #[.bool true, .bool false, .slice none 0 0, .slice none 0 0, .slice ta al tc] ∧ OwnG wr (g + 1) 5 (.slice ta al tc) al (newsK K al) ∧ Hid (∀ i (hi : i < acc.length), RdI (okK ok g (.slice ta al tc)) wr (K i) acc[i]) ∧ Below w.heap.size w wr) (fun at_ _ _ _ => n + 1 - (intOf at_).toNat)
  case atStart => exact ⟨p + 1, m + 1, 0, [], none, 0, fun _ => SV.nil, Nat.le_refl _, by omega, h512, Nat.zero_le _, rfl, rfl, Lib.hid rfl, HLIST, X1, Y1, HO1.out, Lib.hid (fun i hi => by cases hi), B1⟩
  case round =>
    obtain ⟨q, cnt, al, acc, ta, tc, K, hq1, hq2, hcnt, hal, rfl, rfl, HAL, HTO, hX, hY, hO, HKD, hB⟩ := hrel
    clear X1 Y1 B1 HO1 HLIST
    by_cases h41 : q < n ∧ l.getD q 0 = 41
    case pos =>
      obtain ⟨hqn, h41⟩ := h41
      have hSt : St l (some acc) q lv cnt ⟨.mk true false [] [] acc, q + 1, cnt, 0⟩ := St.close (by have := HL.out; omega) h41
      have HST := Lib.hid (HTO.out _ hSt)
      have q0 := HC.out q hqn wr hB
      rw [h41] at q0
      replace q0 : wr.cell? ⟨b, o + q, none⟩ = some (.int .u8 41) := q0
      have hqn' : (q : Int) < (n : Int) := by omega
      have HX := Lib.hid hX
      have HY := Lib.hid hY
      clear h41 hSt hX hY
      go_wp2_with first | (refine wpList_load_box rfl 26 _ rfl HY.out (by rfl) Tryz.underlying26 rfl (by kernel_rfl) ?_) | (refine wpList_store_box (cells := #[.bool true, .bool false, .slice none 0 0, .slice none 0 0, .slice ta al tc, .int .i64 ((q : Int) + 1), .int .i64 cnt, .int .i64 0]) rfl 47 _ _ rfl HX.out (by rfl) (by rfl) rfl (by kernel_rfl) (by simp [Value.oneCell']) ?_; intro u9 X9 st9)
      have B9 := st9.below w.heap.size w (Nat.le_refl _) hB
      obtain ⟨a', c', e', hrow, hinb⟩ := hO.row
      cases e'
      exact bodyPost_ret (v := .agg #[.bool true, .bool false, .slice none 0 0, .slice none 0 0, .slice ta al tc, .int .i64 ((q : Int) + 1), .int .i64 cnt, .int .i64 0]) (box_result rfl _ _ (by rfl) X9 Tryz.underlying47 rfl (by kernel_rfl)) rfl ⟨_, HST.out, ⟨true, false, none, 0, 0, none, 0, 0, ta, al, tc⟩, rfl, rd_list (hrow.keep (hinb.heap fun k hk => st9.other k (by omega))) (hinb.mono fun k hk => .inr (by omega)) HAL.out (fun i hi => ((HKD.out i hi).keep (fun k hk => st9.other k (hk.1.elim (fun h => Nat.ne_of_lt (HOK.out k h)) (fun h => by omega)))).mono (fun k hk => hk.1.imp id (fun h => by omega))), B9⟩
    case neg =>
      have HNC := Lib.hid (show ¬ (q < l.length ∧ l.getD q 0 = 41) from fun e => h41 ⟨by have := HL'.out; omega, e.2⟩)
      have CA := IH.out q (lv + 1) cnt wr (by omega) (HS.out.after hB) (fun k h => Nat.lt_of_lt_of_le (HOK.out k h) hB.size) hq2 (by omega) hcnt
      rw [show ((lv + 1 : Nat) : Int) = (lv : Int) + 1 by omega] at CA
      have HCA := Lib.hid CA
      clear CA
      have HX := Lib.hid hX
      have HY := Lib.hid hY
      clear hX hY
      by_cases hqn : q < n
      · have hqn' : (q : Int) < (n : Int) := by omega
        have q0 := HC.out q hqn wr hB
        obtain ⟨ch', hch'⟩ : ∃ x, x = l.getD q 0 := ⟨_, rfl⟩
        rw [← hch'] at q0
        have hcb' := ch'.toNat_lt
        obtain ⟨y1, y2, y1y⟩ := bNe (a := ch') 41 41 rfl (fun e => h41 ⟨hqn, by rw [← hch', ← UInt8.toNat_inj]; exact e⟩)
        clear h41 hch'
        go_wp2_with fail
        refine HCA.out.mono ?_
        rintro e w1 ⟨r, hst, v, rfl, hrd, hb1⟩
        obtain ⟨vl, vh, a1, n1, c1, a2, n2, c2, a3, n3, c3⟩ := v
        obtain ⟨rv, rp, rn, re⟩ := r
        dsimp only at hrd ⊢
        have B1 := hB.trans (hb1.mono hB.size)
        have X1 := HX.out.after hb1
        have Y1 := HY.out.after hb1
        have O1 := hO.after hb1
        have HK1 := Lib.hid (fun i hi => (HKD.out i hi).after hb1)
        have hz3 := hB.size
        have hxlt := HX.out.lt
        have HOW := Lib.hid (fun k hk => (hO.lt k hk).2)
        have hylt := HY.out.lt
        have hz4 := hb1.size
        have Z1 := Box.new w1 47 #[.bool false, .bool false, .slice none 0 0, .slice none 0 0, .slice none 0 0, .int .i64 0, .int .i64 0, .int .i64 0]
        have R1 : RdI (fun k => ok k ∨ wr.heap.size ≤ k) (w1.alloc (.cells #[.bool false, .bool false, .slice none 0 0, .slice none 0 0, .slice none 0 0, .int .i64 0, .int .i64 0, .int .i64 0] 47)) ⟨vl, vh, a1, n1, c1, a2, n2, c2, a3, n3, c3⟩ rv := hrd.after ((Below.refl _ _).alloc (Nat.le_refl _) _)
        have hR1 : RdI (fun k => (ok k ∨ wr.heap.size ≤ k) ∧ k < w1.heap.size) w1 ⟨vl, vh, a1, n1, c1, a2, n2, c2, a3, n3, c3⟩ rv := hrd.there
        have HRD := Lib.hid hR1
        have HST := Lib.hid hst
        clear hrd hR1 R1 hst HKD HX HY hO HCA
        go_upto_region 16 with (refine wpList_store_box (cells := #[.bool vl, .bool vh, .slice a1 n1 c1, .slice a2 n2 c2, .slice a3 n3 c3, .int .i64 rp, .int .i64 rn, .int .i64 re]) rfl 47 _ _ rfl Z1 (by rfl) (by rfl) rfl (by kernel_rfl) (by simp [Value.oneCell']) ?_; intro u2 Z2 st2)
        have B2 := st2.below w.heap.size w (Nat.le_trans hz3 hz4) (B1.alloc B1.size _)
        have b12 := st2.below w1.heap.size w1 (Nat.le_refl _) ((Below.refl _ _).alloc (Nat.le_refl _) _)
        have X2 := X1.after b12
        have Y2 := Y1.after b12
        have O2 := O1.after b12
        have HK2 := Lib.hid (fun i hi => (HK1.out i hi).after b12)
        have HR2 := Lib.hid (HRD.out.after b12)
        have hz5 := Z2.lt
        clear X1 Y1 O1 B1 HK1 HRD b12 st2 hb1 Z1
        generalize w1.heap.size = g2 at *
        have e7 : u2.cell? ⟨g2, 7, none⟩ = some (.int .i64 re) := Z2.cell 7 rfl
        have e6 : u2.cell? ⟨g2, 6, none⟩ = some (.int .i64 rn) := Z2.cell 6 rfl
        have e5 : u2.cell? ⟨g2, 5, none⟩ = some (.int .i64 rp) := Z2.cell 5 rfl
        have e4 : u2.cell? ⟨g, 4, none⟩ = some (.slice ta al tc) := Y2.cell 4 rfl
        have HXX := Lib.hid X2
        have HYY := Lib.hid Y2
        have HZZ := Lib.hid Z2
        clear X2 Y2 Z2
        by_cases he : re = 0
        case neg =>
          obtain ⟨z1, z2⟩ := nat_ne he
          have HSF := Lib.hid (HTO.out _ (St.fail HNC.out HST.out he))
          go_wp2_with first | (refine wpList_load_box rfl 47 _ rfl HZZ.out (by rfl) Tryz.underlying47 rfl (by kernel_rfl) ?_) | (refine wpList_store_box (cells := #[.bool vl, .bool vh, .slice a1 n1 c1, .slice a2 n2 c2, .slice a3 n3 c3, .int .i64 rp, .int .i64 rn, .int .i64 re]) rfl 47 _ _ rfl HXX.out (by rfl) (by rfl) rfl (by kernel_rfl) (by simp [Value.oneCell']) ?_; intro u9 X9 st9)
          have B9 := st9.below w.heap.size w (Nat.le_refl _) B2
          exact bodyPost_ret (v := .agg #[.bool vl, .bool vh, .slice a1 n1 c1, .slice a2 n2 c2, .slice a3 n3 c3, .int .i64 rp, .int .i64 rn, .int .i64 re]) (box_result rfl _ _ (by rfl) X9 Tryz.underlying47 rfl (by kernel_rfl)) rfl ⟨_, HSF.out, ⟨vl, vh, a1, n1, c1, a2, n2, c2, a3, n3, c3⟩, rfl, (HR2.out.keep (fun k hk => st9.other k (hk.1.elim (fun h => Nat.ne_of_lt (HOK.out k h)) (fun h => by omega)))).mono (fun k hk => hk.1.imp id (fun h => by omega)), B9⟩
        case pos =>
          subst he
          obtain ⟨hp1, hp2, hp3, hp4⟩ := St_place HST.out rfl (by omega) hcnt
          dsimp only at hp1 hp2 hp3 hp4
          have HLD := Lib.hid (Box.range HZZ.out 0 (SV.cells (⟨vl, vh, a1, n1, c1, a2, n2, c2, a3, n3, c3⟩ : SV)).toList (fun j u hu => by match j, hu with
            | 0, hu => exact hu
            | 1, hu => exact hu
            | 2, hu => exact hu
            | 3, hu => exact hu
            | 4, hu => exact hu
            | k + 5, hu => simp [SV.cells] at hu))
          have HSR := Lib.hid (src_one u2 (⟨vl, vh, a1, n1, c1, a2, n2, c2, a3, n3, c3⟩ : SV))
          have HO3 := Lib.hid (O2.alloc (.cells (SV.cells (⟨vl, vh, a1, n1, c1, a2, n2, c2, a3, n3, c3⟩ : SV)) 26))
          have hz6 := HYY.out.lt
          have B3 := B2.alloc B2.size (.cells (SV.cells (⟨vl, vh, a1, n1, c1, a2, n2, c2, a3, n3, c3⟩ : SV)) 26)
          have HX3 := Lib.hid (HXX.out.alloc (.cells (SV.cells (⟨vl, vh, a1, n1, c1, a2, n2, c2, a3, n3, c3⟩ : SV)) 26))
          have HY3 := Lib.hid (HYY.out.alloc (.cells (SV.cells (⟨vl, vh, a1, n1, c1, a2, n2, c2, a3, n3, c3⟩ : SV)) 26))
          have HZ3 := Lib.hid (HZZ.out.alloc (.cells (SV.cells (⟨vl, vh, a1, n1, c1, a2, n2, c2, a3, n3, c3⟩ : SV)) 26))
          have HK3 := Lib.hid (fun i hi => (HK2.out i hi).after ((Below.refl _ _).alloc (Nat.le_refl _) (.cells (SV.cells (⟨vl, vh, a1, n1, c1, a2, n2, c2, a3, n3, c3⟩ : SV)) 26)))
          have HR3 := Lib.hid (HR2.out.after ((Below.refl _ _).alloc (Nat.le_refl _) (.cells (SV.cells (⟨vl, vh, a1, n1, c1, a2, n2, c2, a3, n3, c3⟩ : SV)) 26)))
          go_upto_region 18 with fail
          go_upto_region 19 with first | (refine wpList_load_sv rfl _ rfl g2 0 rfl (⟨vl, vh, a1, n1, c1, a2, n2, c2, a3, n3, c3⟩ : SV) HLD.out ?_; simp only [SV.val]) | (refine wpList_append_K rfl _ _ rfl rfl HO3.out rfl HSR.out (by omega) (by simp; omega) ?_; intro v2 w2 ho2 hgr hw2; rw [newsK_snoc] at ho2; obtain ⟨ta2, tc2, rfl, _⟩ := ho2.row; have Y3 : Box w2 g 26 #[.bool true, .bool false, .slice none 0 0, .slice none 0 0, .slice ta al tc] := (hgr.block g (by simp; omega) (fun e => by have := HO3.out.lt g e.symm; omega)).trans HY3.out; have d4 := Y3.cell 4 rfl; have f4 := Y3.frozen 4)
          have B8 : Below w.heap.size w (w2.setCell ⟨g, 4, none⟩ (.slice ta2 (al + 1) tc2)) := (B3.grown hgr (by simp; omega) (fun k hk => by have := HO3.out.lt k hk; omega)).setCell (p := ⟨g, 4, none⟩) (by show w.heap.size ≤ g; omega) _
          have Y8 : Box (w2.setCell ⟨g, 4, none⟩ (.slice ta2 (al + 1) tc2)) g 26 #[.bool true, .bool false, .slice none 0 0, .slice none 0 0, .slice ta2 (al + 1) tc2] := Y3.set 4 _
          have X8 : Box (w2.setCell ⟨g, 4, none⟩ (.slice ta2 (al + 1) tc2)) w.heap.size 47 #[.bool false, .bool false, .slice none 0 0, .slice none 0 0, .slice none 0 0, .int .i64 0, .int .i64 0, .int .i64 0] := Box.far (w := w2) ((hgr.block w.heap.size (by simp; omega) (fun e => by have := HO3.out.lt _ e.symm; omega)).trans HX3.out) ⟨g, 4, none⟩ _ (Nat.ne_of_lt hlt1)
          have Z8 : Box (w2.setCell ⟨g, 4, none⟩ (.slice ta2 (al + 1) tc2)) g2 47 #[.bool vl, .bool vh, .slice a1 n1 c1, .slice a2 n2 c2, .slice a3 n3 c3, .int .i64 rp, .int .i64 rn, .int .i64 0] := Box.far (w := w2) ((hgr.block g2 (by simp; omega) (fun e => by have h1 := HO3.out.lt _ e.symm; have h2 := O2.lt g2 e.symm; have h3 := HOW.out g2 e.symm; omega)).trans HZ3.out) ⟨g, 4, none⟩ _ (by show g2 ≠ g; omega)
          have O8 : OwnG (w2.setCell ⟨g, 4, none⟩ (.slice ta2 (al + 1) tc2)) (g + 1) 5 (.slice ta2 (al + 1) tc2) (al + 1) (newsK (fun i => if i = al then (⟨vl, vh, a1, n1, c1, a2, n2, c2, a3, n3, c3⟩ : SV) else K i) (al + 1)) := ho2.keep (by simp) (fun k hk => heap_setCell_other _ _ _ _ (by have := ho2.lt k hk; show k ≠ g; omega))
          have HK8 := Lib.hid (kids_more (v' := .slice ta2 (al + 1) tc2) HAL.out HK3.out HR3.out (fun k h => by have := HOK.out k h; omega) (show g < wr.heap.size from hylt) (fun k hk => ⟨by have := HO3.out.lt k hk; omega, HOW.out k hk⟩) hgr hw2 (.slice ta2 (al + 1) tc2))
          generalize (w2.setCell ⟨g, 4, none⟩ (.slice ta2 (al + 1) tc2)) = u8 at *
          have i6 : u8.cell? ⟨g2, 6, none⟩ = some (.int .i64 rn) := Z8.cell 6 rfl
          have i5 : u8.cell? ⟨g2, 5, none⟩ = some (.int .i64 rp) := Z8.cell 5 rfl
          clear Y3 d4 f4 ho2 hgr hw2 e4 e5 e6 e7 O2 B2 B3 HX3 HY3 HZ3 HK3 HR3 HO3 HSR HLD Z8
          have HX8 := Lib.hid X8
          have HY8 := Lib.hid Y8
          clear X8 Y8
          go_wp2_with fail
          go_roundw
          case rel => exact ⟨rp, rn, al + 1, acc ++ [rv], ta2, tc2, _, by omega, by have := HL'.out; omega, hp3, by omega, rfl, rfl, Lib.hid (by have := HAL.out; simp; exact this), Lib.hid (fun r' h => HTO.out r' (St.more HNC.out HST.out rfl h)), HX8.out, HY8.out, O8, HK8, B8⟩
          case measure => have := HL'.out; simp [intOf]; omega
      · have hqn' : ¬ (q : Int) < (n : Int) := by omega
        clear h41
        go_wp2_with fail
        refine HCA.out.mono ?_
        rintro e w1 ⟨r, hst, v, rfl, hrd, hb1⟩
        obtain ⟨vl, vh, a1, n1, c1, a2, n2, c2, a3, n3, c3⟩ := v
        obtain ⟨rv, rp, rn, re⟩ := r
        dsimp only at hrd ⊢
        have B1 := hB.trans (hb1.mono hB.size)
        have X1 := HX.out.after hb1
        have Y1 := HY.out.after hb1
        have O1 := hO.after hb1
        have HK1 := Lib.hid (fun i hi => (HKD.out i hi).after hb1)
        have hz3 := hB.size
        have hxlt := HX.out.lt
        have HOW := Lib.hid (fun k hk => (hO.lt k hk).2)
        have hylt := HY.out.lt
        have hz4 := hb1.size
        have Z1 := Box.new w1 47 #[.bool false, .bool false, .slice none 0 0, .slice none 0 0, .slice none 0 0, .int .i64 0, .int .i64 0, .int .i64 0]
        have R1 : RdI (fun k => ok k ∨ wr.heap.size ≤ k) (w1.alloc (.cells #[.bool false, .bool false, .slice none 0 0, .slice none 0 0, .slice none 0 0, .int .i64 0, .int .i64 0, .int .i64 0] 47)) ⟨vl, vh, a1, n1, c1, a2, n2, c2, a3, n3, c3⟩ rv := hrd.after ((Below.refl _ _).alloc (Nat.le_refl _) _)
        have hR1 : RdI (fun k => (ok k ∨ wr.heap.size ≤ k) ∧ k < w1.heap.size) w1 ⟨vl, vh, a1, n1, c1, a2, n2, c2, a3, n3, c3⟩ rv := hrd.there
        have HRD := Lib.hid hR1
        have HST := Lib.hid hst
        clear hrd hR1 R1 hst HKD HX HY hO HCA
        go_upto_region 16 with (refine wpList_store_box (cells := #[.bool vl, .bool vh, .slice a1 n1 c1, .slice a2 n2 c2, .slice a3 n3 c3, .int .i64 rp, .int .i64 rn, .int .i64 re]) rfl 47 _ _ rfl Z1 (by rfl) (by rfl) rfl (by kernel_rfl) (by simp [Value.oneCell']) ?_; intro u2 Z2 st2)
        have B2 := st2.below w.heap.size w (Nat.le_trans hz3 hz4) (B1.alloc B1.size _)
        have b12 := st2.below w1.heap.size w1 (Nat.le_refl _) ((Below.refl _ _).alloc (Nat.le_refl _) _)
        have X2 := X1.after b12
        have Y2 := Y1.after b12
        have O2 := O1.after b12
        have HK2 := Lib.hid (fun i hi => (HK1.out i hi).after b12)
        have HR2 := Lib.hid (HRD.out.after b12)
        have hz5 := Z2.lt
        clear X1 Y1 O1 B1 HK1 HRD b12 st2 hb1 Z1
        generalize w1.heap.size = g2 at *
        have e7 : u2.cell? ⟨g2, 7, none⟩ = some (.int .i64 re) := Z2.cell 7 rfl
        have e6 : u2.cell? ⟨g2, 6, none⟩ = some (.int .i64 rn) := Z2.cell 6 rfl
        have e5 : u2.cell? ⟨g2, 5, none⟩ = some (.int .i64 rp) := Z2.cell 5 rfl
        have e4 : u2.cell? ⟨g, 4, none⟩ = some (.slice ta al tc) := Y2.cell 4 rfl
        have HXX := Lib.hid X2
        have HYY := Lib.hid Y2
        have HZZ := Lib.hid Z2
        clear X2 Y2 Z2
        by_cases he : re = 0
        case neg =>
          obtain ⟨z1, z2⟩ := nat_ne he
          have HSF := Lib.hid (HTO.out _ (St.fail HNC.out HST.out he))
          go_wp2_with first | (refine wpList_load_box rfl 47 _ rfl HZZ.out (by rfl) Tryz.underlying47 rfl (by kernel_rfl) ?_) | (refine wpList_store_box (cells := #[.bool vl, .bool vh, .slice a1 n1 c1, .slice a2 n2 c2, .slice a3 n3 c3, .int .i64 rp, .int .i64 rn, .int .i64 re]) rfl 47 _ _ rfl HXX.out (by rfl) (by rfl) rfl (by kernel_rfl) (by simp [Value.oneCell']) ?_; intro u9 X9 st9)
          have B9 := st9.below w.heap.size w (Nat.le_refl _) B2
          exact bodyPost_ret (v := .agg #[.bool vl, .bool vh, .slice a1 n1 c1, .slice a2 n2 c2, .slice a3 n3 c3, .int .i64 rp, .int .i64 rn, .int .i64 re]) (box_result rfl _ _ (by rfl) X9 Tryz.underlying47 rfl (by kernel_rfl)) rfl ⟨_, HSF.out, ⟨vl, vh, a1, n1, c1, a2, n2, c2, a3, n3, c3⟩, rfl, (HR2.out.keep (fun k hk => st9.other k (hk.1.elim (fun h => Nat.ne_of_lt (HOK.out k h)) (fun h => by omega)))).mono (fun k hk => hk.1.imp id (fun h => by omega)), B9⟩
        case pos =>
          subst he
          obtain ⟨hp1, hp2, hp3, hp4⟩ := St_place HST.out rfl (by omega) hcnt
          dsimp only at hp1 hp2 hp3 hp4
          have HLD := Lib.hid (Box.range HZZ.out 0 (SV.cells (⟨vl, vh, a1, n1, c1, a2, n2, c2, a3, n3, c3⟩ : SV)).toList (fun j u hu => by match j, hu with
            | 0, hu => exact hu
            | 1, hu => exact hu
            | 2, hu => exact hu
            | 3, hu => exact hu
            | 4, hu => exact hu
            | k + 5, hu => simp [SV.cells] at hu))
          have HSR := Lib.hid (src_one u2 (⟨vl, vh, a1, n1, c1, a2, n2, c2, a3, n3, c3⟩ : SV))
          have HO3 := Lib.hid (O2.alloc (.cells (SV.cells (⟨vl, vh, a1, n1, c1, a2, n2, c2, a3, n3, c3⟩ : SV)) 26))
          have hz6 := HYY.out.lt
          have B3 := B2.alloc B2.size (.cells (SV.cells (⟨vl, vh, a1, n1, c1, a2, n2, c2, a3, n3, c3⟩ : SV)) 26)
          have HX3 := Lib.hid (HXX.out.alloc (.cells (SV.cells (⟨vl, vh, a1, n1, c1, a2, n2, c2, a3, n3, c3⟩ : SV)) 26))
          have HY3 := Lib.hid (HYY.out.alloc (.cells (SV.cells (⟨vl, vh, a1, n1, c1, a2, n2, c2, a3, n3, c3⟩ : SV)) 26))
          have HZ3 := Lib.hid (HZZ.out.alloc (.cells (SV.cells (⟨vl, vh, a1, n1, c1, a2, n2, c2, a3, n3, c3⟩ : SV)) 26))
          have HK3 := Lib.hid (fun i hi => (HK2.out i hi).after ((Below.refl _ _).alloc (Nat.le_refl _) (.cells (SV.cells (⟨vl, vh, a1, n1, c1, a2, n2, c2, a3, n3, c3⟩ : SV)) 26)))
          have HR3 := Lib.hid (HR2.out.after ((Below.refl _ _).alloc (Nat.le_refl _) (.cells (SV.cells (⟨vl, vh, a1, n1, c1, a2, n2, c2, a3, n3, c3⟩ : SV)) 26)))
          go_upto_region 18 with fail
          go_upto_region 19 with first | (refine wpList_load_sv rfl _ rfl g2 0 rfl (⟨vl, vh, a1, n1, c1, a2, n2, c2, a3, n3, c3⟩ : SV) HLD.out ?_; simp only [SV.val]) | (refine wpList_append_K rfl _ _ rfl rfl HO3.out rfl HSR.out (by omega) (by simp; omega) ?_; intro v2 w2 ho2 hgr hw2; rw [newsK_snoc] at ho2; obtain ⟨ta2, tc2, rfl, _⟩ := ho2.row; have Y3 : Box w2 g 26 #[.bool true, .bool false, .slice none 0 0, .slice none 0 0, .slice ta al tc] := (hgr.block g (by simp; omega) (fun e => by have := HO3.out.lt g e.symm; omega)).trans HY3.out; have d4 := Y3.cell 4 rfl; have f4 := Y3.frozen 4)
          have B8 : Below w.heap.size w (w2.setCell ⟨g, 4, none⟩ (.slice ta2 (al + 1) tc2)) := (B3.grown hgr (by simp; omega) (fun k hk => by have := HO3.out.lt k hk; omega)).setCell (p := ⟨g, 4, none⟩) (by show w.heap.size ≤ g; omega) _
          have Y8 : Box (w2.setCell ⟨g, 4, none⟩ (.slice ta2 (al + 1) tc2)) g 26 #[.bool true, .bool false, .slice none 0 0, .slice none 0 0, .slice ta2 (al + 1) tc2] := Y3.set 4 _
          have X8 : Box (w2.setCell ⟨g, 4, none⟩ (.slice ta2 (al + 1) tc2)) w.heap.size 47 #[.bool false, .bool false, .slice none 0 0, .slice none 0 0, .slice none 0 0, .int .i64 0, .int .i64 0, .int .i64 0] := Box.far (w := w2) ((hgr.block w.heap.size (by simp; omega) (fun e => by have := HO3.out.lt _ e.symm; omega)).trans HX3.out) ⟨g, 4, none⟩ _ (Nat.ne_of_lt hlt1)
          have Z8 : Box (w2.setCell ⟨g, 4, none⟩ (.slice ta2 (al + 1) tc2)) g2 47 #[.bool vl, .bool vh, .slice a1 n1 c1, .slice a2 n2 c2, .slice a3 n3 c3, .int .i64 rp, .int .i64 rn, .int .i64 0] := Box.far (w := w2) ((hgr.block g2 (by simp; omega) (fun e => by have h1 := HO3.out.lt _ e.symm; have h2 := O2.lt g2 e.symm; have h3 := HOW.out g2 e.symm; omega)).trans HZ3.out) ⟨g, 4, none⟩ _ (by show g2 ≠ g; omega)
          have O8 : OwnG (w2.setCell ⟨g, 4, none⟩ (.slice ta2 (al + 1) tc2)) (g + 1) 5 (.slice ta2 (al + 1) tc2) (al + 1) (newsK (fun i => if i = al then (⟨vl, vh, a1, n1, c1, a2, n2, c2, a3, n3, c3⟩ : SV) else K i) (al + 1)) := ho2.keep (by simp) (fun k hk => heap_setCell_other _ _ _ _ (by have := ho2.lt k hk; show k ≠ g; omega))
          have HK8 := Lib.hid (kids_more (v' := .slice ta2 (al + 1) tc2) HAL.out HK3.out HR3.out (fun k h => by have := HOK.out k h; omega) (show g < wr.heap.size from hylt) (fun k hk => ⟨by have := HO3.out.lt k hk; omega, HOW.out k hk⟩) hgr hw2 (.slice ta2 (al + 1) tc2))
          generalize (w2.setCell ⟨g, 4, none⟩ (.slice ta2 (al + 1) tc2)) = u8 at *
          have i6 : u8.cell? ⟨g2, 6, none⟩ = some (.int .i64 rn) := Z8.cell 6 rfl
          have i5 : u8.cell? ⟨g2, 5, none⟩ = some (.int .i64 rp) := Z8.cell 5 rfl
          clear Y3 d4 f4 ho2 hgr hw2 e4 e5 e6 e7 O2 B2 B3 HX3 HY3 HZ3 HK3 HR3 HO3 HSR HLD Z8
          have HX8 := Lib.hid X8
          have HY8 := Lib.hid Y8
          clear X8 Y8
          go_wp2_with fail
          go_roundw
          case rel => exact ⟨rp, rn, al + 1, acc ++ [rv], ta2, tc2, _, by omega, by have := HL'.out; omega, hp3, by omega, rfl, rfl, Lib.hid (by have := HAL.out; simp; exact this), Lib.hid (fun r' h => HTO.out r' (St.more HNC.out HST.out rfl h)), HX8.out, HY8.out, O8, HK8, B8⟩
          case measure => have := HL'.out; simp [intOf]; omega

end Go.Proofs.YtkbblhioncecmaaGreatDoor
namespace Go.Proofs.YtkbblhioncecmaaGreatDoor
open Go.RowKit
set_option linter.unusedSimpArgs false
set_option linter.unusedVariables false

/-- what Get answers: a value, a place, an error -/
def Got (l : List UInt8) (s : Sx) (p e : Nat) : Prop :=
  (4096 < l.length ∧ s = Sx.nil ∧ p = 4096 ∧ e = 4) ∨ (l.length ≤ 4096 ∧ ∃ r, St l none 0 1 0 r ∧ ((r.e ≠ 0 ∧ s = Sx.nil ∧ p = r.p ∧ e = r.e) ∨ (r.e = 0 ∧ r.p < l.length ∧ s = Sx.nil ∧ p = r.p ∧ e = 5) ∨ (r.e = 0 ∧ l.length ≤ r.p ∧ s = r.v ∧ p = 0 ∧ e = 0)))
theorem Got.det {l : List UInt8} {s s' : Sx} {p p' e e' : Nat} (h : Got l s p e) (h' : Got l s' p' e') : s = s' ∧ p = p' ∧ e = e' := by
  rcases h with ⟨h1, h2, h3, h4⟩ | ⟨h1, r, hr, h2⟩
  · rcases h' with ⟨_, h2', h3', h4'⟩ | ⟨h1', _⟩
    · exact ⟨h2.trans h2'.symm, h3.trans h3'.symm, h4.trans h4'.symm⟩
    · omega
  · rcases h' with ⟨h1', _⟩ | ⟨_, r', hr', h2'⟩
    · omega
    · obtain rfl := hr.det hr'
      rcases h2 with ⟨a, b, c, d⟩ | ⟨a, a', b, c, d⟩ | ⟨a, a', b, c, d⟩ <;> rcases h2' with ⟨a1, b1, c1, d1⟩ | ⟨a1, a2, b1, c1, d1⟩ | ⟨a1, a2, b1, c1, d1⟩ <;>
        first | exact ⟨b.trans b1.symm, c.trans c1.symm, d.trans d1.symm⟩ | (exfalso; omega)
def GetP (ok : Nat → Prop) (l : List UInt8) (w : World) (e : Ending) (w' : World) : Prop :=
  ∃ (v : SV) (s : Sx) (p x : Nat), Got l s p x ∧ e = .returned (.tuple #[.agg #[.bool v.l, .bool v.h, .slice v.a1 v.n1 v.c1, .slice v.a2 v.n2 v.c2, .slice v.a3 v.n3 v.c3], .int .i64 p, .int .i64 x]) ∧ RdI (fun k => ok k ∨ w.heap.size ≤ k) w' v s ∧ Below w.heap.size w w'
theorem box_result22 {P : Program} {fn : Func} {p q r : Tmp} {ty : TypeId} (h : fn.results = #[.cell p ty, .tmp q, .tmp r]) (tmps : Array Value) (w : World) {g : Nat} {T : TypeId} {cs : Array Value} {d : TypeDesc}
    (hp : tmps.getD p undef = .pointer (some ⟨g, 0, none⟩)) (hg : Box w g T cs) (hu : P.underlying ty = some d) (hd : (match d with | .struct _ | .array _ _ => true | _ => false) = true) (hi : (P.info? ty).map (·.size) = some cs.size) :
    (results fn tmps).run P w = .ok (.tuple #[.agg cs, tmps.getD q undef, tmps.getD r undef]) w := by
  have hp' : tmps[p]?.getD undef = .pointer (some ⟨g, 0, none⟩) := by simpa using hp
  simp [results, h, hp', asAddr, run_loadVar_row w g T ty cs (0, 0) d hg hu hd hi]

set_option maxHeartbeats 8000000 in
set_option maxRecDepth 100000 in
theorem refGet_any (ok : Nat → Prop) (a : Option Addr) (n c : Nat) (l : List UInt8) (w : World) (hs : Sl w a n c l) (hi : InB ok a n) (hok : ∀ k, ok k → k < w.heap.size) :
    Calls Tryz.prog 14 #[.slice a n c] w (GetP ok l w) := by
  have HS := Lib.hid hs
  have HL := Lib.hid (Nat.le_of_eq hs.1)
  have HL' := Lib.hid (Nat.le_of_eq hs.1.symm)
  have HLQ := HL'
  have B0 : Below w.heap.size w (w.alloc (.cells #[.bool false, .bool false, .slice none 0 0, .slice none 0 0, .slice none 0 0] 26)) := (Below.refl _ _).alloc (Nat.le_refl _) _
  have X0 := Box.new w 26 #[.bool false, .bool false, .slice none 0 0, .slice none 0 0, .slice none 0 0]
  by_cases hlong : 4096 < n
  case pos =>
    have hlong' : (4096 : Int) < (n : Int) := by omega
    clear hs
    go_enter Tryz.func14, Tryz.ntmps14
    go_wp2_with (refine wpList_store_box (cells := #[.bool false, .bool false, .slice none 0 0, .slice none 0 0, .slice none 0 0]) rfl 26 _ _ rfl X0 (by rfl) (by rfl) rfl (by kernel_rfl) (by simp [Value.oneCell']) ?_; intro u9 X9 st9)
    have B9 := st9.below w.heap.size w (Nat.le_refl _) B0
    exact bodyPost_ret (v := .tuple #[.agg #[.bool false, .bool false, .slice none 0 0, .slice none 0 0, .slice none 0 0], .int .i64 4096, .int .i64 4]) (box_result22 (p := 2) (q := 3) (r := 4) rfl _ _ (by rfl) X9 Tryz.underlying26 rfl (by kernel_rfl)) rfl ⟨SV.nil, Sx.nil, 4096, 4, .inl ⟨by have := HL.out; omega, rfl, rfl, rfl⟩, rfl, rd_nil _ _, B9⟩
  
  have hlong' : ¬ (4096 : Int) < (n : Int) := by omega
  have CA : Hid (∀ w', Below w.heap.size w w' → Calls Tryz.prog 31 #[.slice a n c, .int .i64 0, .int .i64 1, .int .i64 0] w' (RS ok l 0 1 0 w')) := Lib.hid fun w' hb => refValue_any ok a n c l (by omega) hi (n + 1) 0 1 0 w' (by omega) (HS.out.after hb) (fun k h => Nat.lt_of_lt_of_le (hok k h) hb.size) (Nat.zero_le _) (by omega) (by omega)
  have HOK := Lib.hid hok
  clear hs hok
  go_enter Tryz.func14, Tryz.ntmps14
  go_wp2_with fail
  refine (CA.out _ B0).mono ?_
  rintro e w1 ⟨r, hst, v, rfl, hrd, hb1⟩
  obtain ⟨vl, vh, a1, n1, c1, a2, n2, c2, a3, n3, c3⟩ := v
  obtain ⟨rv, rp, rn, re⟩ := r
  dsimp only at hrd ⊢
  have B1 := B0.trans (hb1.mono B0.size)
  have X1 := X0.after hb1
  have hz1 := X0.lt
  have hz3 := hb1.size
  have hR1 : RdI (fun k => (ok k ∨ w.heap.size < k) ∧ k < w1.heap.size) w1 ⟨vl, vh, a1, n1, c1, a2, n2, c2, a3, n3, c3⟩ rv := hrd.there.mono (fun k hk => ⟨hk.1.imp id (fun h => by simp at h; omega), hk.2⟩)
  have HRD := Lib.hid hR1
  have HST := Lib.hid hst
  have Z1 := Box.new w1 47 #[.bool false, .bool false, .slice none 0 0, .slice none 0 0, .slice none 0 0, .int .i64 0, .int .i64 0, .int .i64 0]
  clear hrd hR1 hst CA X0 B0
  go_upto_region 4 with (refine wpList_store_box (cells := #[.bool vl, .bool vh, .slice a1 n1 c1, .slice a2 n2 c2, .slice a3 n3 c3, .int .i64 rp, .int .i64 rn, .int .i64 re]) rfl 47 _ _ rfl Z1 (by rfl) (by rfl) rfl (by kernel_rfl) (by simp [Value.oneCell']) ?_; intro u2 Z2 st2)
  have B2 := st2.below w.heap.size w (by omega) (B1.alloc B1.size _)
  have b12 := st2.below w1.heap.size w1 (Nat.le_refl _) ((Below.refl _ _).alloc (Nat.le_refl _) _)
  have X2 := X1.after b12
  have HR2 := Lib.hid (HRD.out.after b12)
  have hz5 := Z2.lt
  have hz6 := X1.lt
  clear X1 B1 HRD b12 st2 hb1 Z1
  generalize w1.heap.size = g2 at *
  have e7 : u2.cell? ⟨g2, 7, none⟩ = some (.int .i64 re) := Z2.cell 7 rfl
  have e5 : u2.cell? ⟨g2, 5, none⟩ = some (.int .i64 rp) := Z2.cell 5 rfl
  have HXX := Lib.hid X2
  have HZZ := Lib.hid Z2
  clear X2 Z2
  by_cases he : re = 0
  case neg =>
    obtain ⟨z1, z2⟩ := nat_ne he
    go_upto_region 5 with fail
    have hKS : Keeps (fun w' => Box w' g2 47 #[.bool vl, .bool vh, .slice a1 n1 c1, .slice a2 n2 c2, .slice a3 n3 c3, .int .i64 rp, .int .i64 rn, .int .i64 re]) := fun w w' h b => h.after b
    refine wp_region_U (w := u2) (fun w' => Box w' g2 47 #[.bool vl, .bool vh, .slice a1 n1 c1, .slice a2 n2 c2, .slice a3 n3 c3, .int .i64 rp, .int .i64 rn, .int .i64 re]) rfl HZZ.out.drew ?_
    refine wpU_val 0 hKS rfl (by kernel_rfl) (by kernel_rfl) (by kernel_rfl) rfl (fun _ _ _ _ h => h) (.agg #[.bool false, .bool false, .slice none 0 0, .slice none 0 0, .slice none 0 0]) (fun w' h => by simp [go_sem]) ?_
    simp only [Act.put, List.setIfInBounds_toArray, List.set_cons_zero, List.set_cons_succ]
    refine wpU_val 1 hKS rfl (by kernel_rfl) (by kernel_rfl) (by kernel_rfl) rfl (fun _ _ _ _ h => h) (.pointer (some ⟨g2, 5, none⟩)) (fun w' h => by simp [go_sem]) ?_
    simp only [Act.put, List.setIfInBounds_toArray, List.set_cons_zero, List.set_cons_succ]
    refine wpU_val 2 hKS rfl (by kernel_rfl) (by kernel_rfl) (by kernel_rfl) rfl (fun _ _ _ _ h => h) (.int .i64 rp) (fun w' h => by simp [go_sem, h.cell 5 rfl]) ?_
    simp only [Act.put, List.setIfInBounds_toArray, List.set_cons_zero, List.set_cons_succ]
    refine wpU_val 3 hKS rfl (by kernel_rfl) (by kernel_rfl) (by kernel_rfl) rfl (fun _ _ _ _ h => h) (.pointer (some ⟨g2, 7, none⟩)) (fun w' h => by simp [go_sem]) ?_
    simp only [Act.put, List.setIfInBounds_toArray, List.set_cons_zero, List.set_cons_succ]
    refine wpU_val 4 hKS rfl (by kernel_rfl) (by kernel_rfl) (by kernel_rfl) rfl (fun _ _ _ _ h => h) (.int .i64 re) (fun w' h => by simp [go_sem, h.cell 7 rfl]) ?_
    simp only [Act.put, List.setIfInBounds_toArray, List.set_cons_zero, List.set_cons_succ]
    refine wpU_store_box (cells := #[.bool false, .bool false, .slice none 0 0, .slice none 0 0, .slice none 0 0]) 5 rfl (by kernel_rfl) rfl 26 _ _ rfl HXX.out.drew (by rfl) (by rfl) rfl (by kernel_rfl) (by simp [Value.oneCell']) ?_
    intro w8 u9 b8 s8 X9 st9
    refine ⟨st9.box s8 (by omega), ?_⟩
    simp only [Act.put, List.setIfInBounds_toArray, List.set_cons_zero, List.set_cons_succ]
    refine wpU_val 6 hKS rfl (by kernel_rfl) (by kernel_rfl) (by kernel_rfl) rfl (fun _ _ _ _ h => h) (.int .i64 rp) (fun w' h => by simp [go_sem]) ?_
    simp only [Act.put, List.setIfInBounds_toArray, List.set_cons_zero, List.set_cons_succ]
    refine wpU_val 7 hKS rfl (by kernel_rfl) (by kernel_rfl) (by kernel_rfl) rfl (fun _ _ _ _ h => h) (.int .i64 re) (fun w' h => by simp [go_sem]) ?_
    simp only [Act.put, List.setIfInBounds_toArray, List.set_cons_zero, List.set_cons_succ]
    refine wpU_done (by kernel_rfl) ?_
    intro w9 b9 s9
    have HX9 := Lib.hid (X9.after b9)
    have B9 := (st9.below w.heap.size w (Nat.le_refl _) (B2.drew.trans (b8.mono B2.size))).trans (b9.mono (Nat.le_trans (Nat.le_trans B2.size b8.size) (Nat.le_of_eq st9.size.symm)))
    clear X9 b9 s9 hKS b8 s8 st9
    go_wp2_with fail
    exact bodyPost_ret (v := .tuple #[.agg #[.bool false, .bool false, .slice none 0 0, .slice none 0 0, .slice none 0 0], .int .i64 rp, .int .i64 re]) (box_result22 (p := 2) (q := 3) (r := 4) rfl _ _ (by rfl) HX9.out Tryz.underlying26 rfl (by kernel_rfl)) rfl ⟨SV.nil, Sx.nil, rp, re, .inr ⟨by have := HLQ.out; omega, _, HST.out, .inl ⟨he, rfl, rfl, rfl⟩⟩, rfl, rd_nil _ _, B9⟩
  
  subst he
  by_cases hmore : rp < n
  case pos =>
    have hmore' : (rp : Int) < (n : Int) := by omega
    go_upto_region 7 with fail
    have hKS : Keeps (fun w' => Box w' g2 47 #[.bool vl, .bool vh, .slice a1 n1 c1, .slice a2 n2 c2, .slice a3 n3 c3, .int .i64 rp, .int .i64 rn, .int .i64 0]) := fun w w' h b => h.after b
    refine wp_region_U (w := u2) (fun w' => Box w' g2 47 #[.bool vl, .bool vh, .slice a1 n1 c1, .slice a2 n2 c2, .slice a3 n3 c3, .int .i64 rp, .int .i64 rn, .int .i64 0]) rfl HZZ.out.drew ?_
    refine wpU_val 0 hKS rfl (by kernel_rfl) (by kernel_rfl) (by kernel_rfl) rfl (fun _ _ _ _ h => h) (.agg #[.bool false, .bool false, .slice none 0 0, .slice none 0 0, .slice none 0 0]) (fun w' h => by simp [go_sem]) ?_
    simp only [Act.put, List.setIfInBounds_toArray, List.set_cons_zero, List.set_cons_succ]
    refine wpU_val 1 hKS rfl (by kernel_rfl) (by kernel_rfl) (by kernel_rfl) rfl (fun _ _ _ _ h => h) (.pointer (some ⟨g2, 5, none⟩)) (fun w' h => by simp [go_sem]) ?_
    simp only [Act.put, List.setIfInBounds_toArray, List.set_cons_zero, List.set_cons_succ]
    refine wpU_val 2 hKS rfl (by kernel_rfl) (by kernel_rfl) (by kernel_rfl) rfl (fun _ _ _ _ h => h) (.int .i64 rp) (fun w' h => by simp [go_sem, h.cell 5 rfl]) ?_
    simp only [Act.put, List.setIfInBounds_toArray, List.set_cons_zero, List.set_cons_succ]
    refine wpU_store_box (cells := #[.bool false, .bool false, .slice none 0 0, .slice none 0 0, .slice none 0 0]) 3 rfl (by kernel_rfl) rfl 26 _ _ rfl HXX.out.drew (by rfl) (by rfl) rfl (by kernel_rfl) (by simp [Value.oneCell']) ?_
    intro w8 u9 b8 s8 X9 st9
    refine ⟨st9.box s8 (by omega), ?_⟩
    simp only [Act.put, List.setIfInBounds_toArray, List.set_cons_zero, List.set_cons_succ]
    refine wpU_val 4 hKS rfl (by kernel_rfl) (by kernel_rfl) (by kernel_rfl) rfl (fun _ _ _ _ h => h) (.int .i64 rp) (fun w' h => by simp [go_sem]) ?_
    simp only [Act.put, List.setIfInBounds_toArray, List.set_cons_zero, List.set_cons_succ]
    refine wpU_val 5 hKS rfl (by kernel_rfl) (by kernel_rfl) (by kernel_rfl) rfl (fun _ _ _ _ h => h) (.int .i64 5) (fun w' h => by simp [go_sem]) ?_
    simp only [Act.put, List.setIfInBounds_toArray, List.set_cons_zero, List.set_cons_succ]
    refine wpU_done (by kernel_rfl) ?_
    intro w9 b9 s9
    have HX9 := Lib.hid (X9.after b9)
    have B9 := (st9.below w.heap.size w (Nat.le_refl _) (B2.drew.trans (b8.mono B2.size))).trans (b9.mono (Nat.le_trans (Nat.le_trans B2.size b8.size) (Nat.le_of_eq st9.size.symm)))
    clear X9 b9 s9 hKS b8 s8 st9
    go_wp2_with fail
    exact bodyPost_ret (v := .tuple #[.agg #[.bool false, .bool false, .slice none 0 0, .slice none 0 0, .slice none 0 0], .int .i64 rp, .int .i64 5]) (box_result22 (p := 2) (q := 3) (r := 4) rfl _ _ (by rfl) HX9.out Tryz.underlying26 rfl (by kernel_rfl)) rfl ⟨SV.nil, Sx.nil, rp, 5, .inr ⟨by have := HLQ.out; omega, _, HST.out, .inr (.inl ⟨rfl, by have := HL.out; exact Nat.lt_of_lt_of_le hmore this, rfl, rfl, rfl⟩)⟩, rfl, rd_nil _ _, B9⟩
  
  have hmore' : ¬ (rp : Int) < (n : Int) := by omega
  have HLD := Lib.hid (Box.range HZZ.out 0 (SV.cells ⟨vl, vh, a1, n1, c1, a2, n2, c2, a3, n3, c3⟩).toList (fun j u hu => by match j, hu with
    | 0, hu => exact hu
    | 1, hu => exact hu
    | 2, hu => exact hu
    | 3, hu => exact hu
    | 4, hu => exact hu
    | k + 5, hu => simp [SV.cells] at hu))
  go_wp2_with first | (refine wpList_load_sv rfl _ rfl g2 0 rfl ⟨vl, vh, a1, n1, c1, a2, n2, c2, a3, n3, c3⟩ HLD.out ?_; simp only [SV.val]) | (refine wpList_store_box (cells := #[.bool vl, .bool vh, .slice a1 n1 c1, .slice a2 n2 c2, .slice a3 n3 c3]) rfl 26 _ _ rfl HXX.out (by rfl) (by rfl) rfl (by kernel_rfl) (by simp [Value.oneCell']) ?_; intro u9 X9 st9)
  have B9 := st9.below w.heap.size w (Nat.le_refl _) B2
  exact bodyPost_ret (v := .tuple #[.agg #[.bool vl, .bool vh, .slice a1 n1 c1, .slice a2 n2 c2, .slice a3 n3 c3], .int .i64 0, .int .i64 0]) (box_result22 (p := 2) (q := 3) (r := 4) rfl _ _ (by rfl) X9 Tryz.underlying26 rfl (by kernel_rfl)) rfl ⟨⟨vl, vh, a1, n1, c1, a2, n2, c2, a3, n3, c3⟩, rv, 0, 0, .inr ⟨by have := HLQ.out; omega, _, HST.out, .inr (.inr ⟨rfl, by have := HLQ.out; show l.length ≤ rp; omega, rfl, rfl, rfl⟩)⟩, rfl, (HR2.out.keep (fun k hk => st9.other k (hk.1.elim (fun h => Nat.ne_of_lt (HOK.out k h)) (fun h => by omega)))).mono (fun k hk => hk.1.imp id (fun h => by omega)), B9⟩

end Go.Proofs.YtkbblhioncecmaaGreatDoor
namespace Go.Proofs.YtkbblhioncecmaaGreatDoor
open Go.RowKit

/-- from a stack of open lists (the innermost first), a place, and how many values began, to what is read in the end -/
inductive Mach (l : List UInt8) : List (List Sx) → Nat → Nat → RV → Prop
  | short {st : List (List Sx)} {p n : Nat} : l.length ≤ p → Mach l st p n (RV.err l.length 2)
  | bad {st : List (List Sx)} {p n : Nat} : p < l.length → ¬ starts (l.getD p 0) → (l.getD p 0 = 41 → st = []) → Mach l st p n (RV.err p 3)
  | long {st : List (List Sx)} {p n : Nat} : p < l.length → starts (l.getD p 0) → (512 < n + 1 ∨ l.getD p 0 = 40 ∧ 16 ≤ st.length) → Mach l st p n (RV.err p 4)
  | fail {st : List (List Sx)} {p n : Nat} : p < l.length → starts (l.getD p 0) → l.getD p 0 ≠ 40 → n + 1 ≤ 512 → (rAtom l p (n + 1)).e ≠ 0 → Mach l st p n (rAtom l p (n + 1))
  | atom {p n : Nat} : p < l.length → starts (l.getD p 0) → l.getD p 0 ≠ 40 → n + 1 ≤ 512 → (rAtom l p (n + 1)).e = 0 → Mach l [] p n (rAtom l p (n + 1))
  | more {ks : List Sx} {st : List (List Sx)} {p n : Nat} {r : RV} : p < l.length → starts (l.getD p 0) → l.getD p 0 ≠ 40 → n + 1 ≤ 512 → (rAtom l p (n + 1)).e = 0 →
      Mach l ((ks ++ [(rAtom l p (n + 1)).v]) :: st) (rAtom l p (n + 1)).p (n + 1) r → Mach l (ks :: st) p n r
  | opens {st : List (List Sx)} {p n : Nat} {r : RV} : p < l.length → l.getD p 0 = 40 → n + 1 ≤ 512 → st.length < 16 → Mach l ([] :: st) (p + 1) (n + 1) r → Mach l st p n r
  | close {ks : List Sx} {p n : Nat} : p < l.length → l.getD p 0 = 41 → Mach l [ks] p n ⟨.mk true false [] [] ks, p + 1, n, 0⟩
  | closes {ks kt : List Sx} {st : List (List Sx)} {p n : Nat} {r : RV} : p < l.length → l.getD p 0 = 41 → Mach l ((kt ++ [.mk true false [] [] ks]) :: st) (p + 1) n r → Mach l (ks :: kt :: st) p n r

/-- what was read of the innermost list goes on into the lists around it -/
def Up (l : List UInt8) : List (List Sx) → RV → RV → Prop
  | [], r1, r => r = r1
  | ks :: st, r1, r => if r1.e ≠ 0 then r = r1 else ∃ r2, St l (some (ks ++ [r1.v])) r1.p (st.length + 1) r1.n r2 ∧ Up l st r2 r
theorem Up.err {l : List UInt8} {st : List (List Sx)} {r : RV} (h : r.e ≠ 0) : Up l st r r := by
  cases st with
  | nil => rfl
  | cons => unfold Up; rw [if_pos h]
theorem Up.same {l : List UInt8} {st : List (List Sx)} {r1 r : RV} (h : Up l st r1 r) (he : r1.e ≠ 0) : r = r1 := by
  cases st with
  | nil => exact h
  | cons => unfold Up at h; rwa [if_pos he] at h
/-- what the machine reads, as the document's reading -/
def MSt (l : List UInt8) : List (List Sx) → Nat → Nat → RV → Prop
  | [], p, n, r => St l none p 1 n r
  | ks :: st, p, n, r => ∃ r1, St l (some ks) p (st.length + 1) n r1 ∧ Up l st r1 r
/-- a value that is read at a place, as what stands next -/
theorem MSt.next {l : List UInt8} {st : List (List Sx)} {p n : Nat} {r1 r : RV} (h : St l none p (st.length + 1) n r1) (hc : p < l.length → l.getD p 0 = 41 → st = []) (hu : Up l st r1 r) : MSt l st p n r := by
  cases st with
  | nil => obtain rfl : r = r1 := hu; exact h
  | cons ks st =>
    have hno : ¬ (p < l.length ∧ l.getD p 0 = 41) := fun e => by have := hc e.1 e.2; cases this
    by_cases he : r1.e = 0
    · unfold Up at hu
      rw [if_neg (by simpa using he)] at hu
      obtain ⟨r2, h2, hu2⟩ := hu
      exact ⟨r2, St.more hno h he h2, hu2⟩
    · obtain rfl := hu.same he
      exact ⟨r, St.fail hno h he, Up.err he⟩
theorem starts_not41 {c : UInt8} (h : starts c) : c ≠ 41 := by
  rintro rfl
  rcases h with h | h | h
  · exact absurd h (by decide)
  · exact absurd h (by decide)
  · exact absurd h (not_isD (by decide))
theorem rAtom_n {l : List UInt8} {p n : Nat} (h : (rAtom l p n).e = 0) : (rAtom l p n).n = n := by
  revert h
  unfold rAtom
  split
  · dsimp only
    split
    · intro h; rename_i h1; exact absurd h (by simpa [RV.err] using h1)
    · split
      · intro h; cases h
      · split
        · intro h; cases h
        · split
          · intro h; rename_i h1; exact absurd h (by simpa [RV.err] using h1)
          · intro _; rfl
  · dsimp only
    split
    · intro h; rename_i h1; exact absurd h (by simpa [RV.err] using h1)
    · intro _; rfl
theorem Mach.toSt {l : List UInt8} {st : List (List Sx)} {p n : Nat} {r : RV} (h : Mach l st p n r) : MSt l st p n r := by
  induction h with
  | @short st p n h1 => exact MSt.next (St.short h1) (fun h => by omega) (Up.err (by simp [RV.err]))
  | bad h1 h2 h3 => exact MSt.next (St.bad h1 h2) (fun _ => h3) (Up.err (by simp [RV.err]))
  | long h1 h2 h3 => exact MSt.next (St.long h1 h2 (h3.imp id (fun h => ⟨h.1, by omega⟩))) (fun _ h => absurd h (starts_not41 h2)) (Up.err (by simp [RV.err]))
  | fail h1 h2 h3 h4 h5 => exact MSt.next (St.atom h1 h2 h3 h4) (fun _ h => absurd h (starts_not41 h2)) (Up.err h5)
  | atom h1 h2 h3 h4 h5 => exact St.atom h1 h2 h3 h4
  | @more ks st p n r h1 h2 h3 h4 h5 _ ih =>
    refine MSt.next (St.atom h1 h2 h3 h4) (fun _ h => absurd h (starts_not41 h2)) ?_
    obtain ⟨r2, h6, h7⟩ := ih
    unfold Up
    rw [if_neg (by simpa using h5)]
    exact ⟨r2, by rw [rAtom_n h5]; exact h6, h7⟩
  | @opens st p n r h1 h2 h3 h4 _ ih =>
    obtain ⟨r1, h6, h7⟩ := ih
    exact MSt.next (St.list h1 h2 h3 (by omega) h6) (fun _ h => by rw [h2] at h; exact absurd h (by decide)) h7
  | close h1 h2 => exact ⟨_, St.close h1 h2, rfl⟩
  | @closes ks kt st p n r h1 h2 _ ih =>
    obtain ⟨r2, h6, h7⟩ := ih
    refine ⟨_, St.close h1 h2, ?_⟩
    unfold Up
    rw [if_neg (by simp)]
    exact ⟨r2, h6, h7⟩
end Go.Proofs.YtkbblhioncecmaaGreatDoor
namespace Go.Proofs.YtkbblhioncecmaaGreatDoor
open Go.RowKit

theorem got_ok {l : List UInt8} {s : Sx} {p : Nat} (h : Got l s p 0) : s.form = l ∧ s.may = true ∧ s.wide 0 = false ∧ p = 0 := by
  rcases h with ⟨_, _, _, h⟩ | ⟨h1, r, hr, ⟨h2, _, _, h3⟩ | ⟨_, _, _, _, h3⟩ | ⟨h2, h3, h4, h5, _⟩⟩
  · cases h
  · exact absurd h3.symm h2
  · cases h3
  · subst h4
    obtain ⟨k1, k2, k3, k4, k5, k6, k7⟩ := St_ok hr h2 (by omega) (by omega)
    have e : r.v.form = l := by
      rw [List.drop_zero, List.drop_of_length_le h3, List.append_nil] at k1
      exact k1.symm
    refine ⟨e, ?_, wide_of _ 0 k4 (by omega) (by rw [e]; omega) (by omega), h5⟩
    unfold Sx.may
    rw [k4, decide_eq_true (show r.v.nodes ≤ 512 by omega), decide_eq_true (show r.v.deep ≤ 16 by omega), decide_eq_true (show r.v.form.length ≤ 4096 by rw [e]; exact h1)]
    rfl
end Go.Proofs.YtkbblhioncecmaaGreatDoor
namespace Go.Proofs.YtkbblhioncecmaaGreatDoor
open Go.RowKit
set_option linter.unusedSimpArgs false
set_option linter.unusedVariables false

def CloneP (l : List UInt8) (w : World) (e : Ending) (w' : World) : Prop := ∃ v', e = .returned v' ∧ OwnB w' w.heap.size v' l ∧ Below w.heap.size w w'

set_option maxHeartbeats 2000000 in
set_option maxRecDepth 100000 in
theorem cloneB_any (a : Option Addr) (n c : Nat) (l : List UInt8) (w : World) (hs : Sl w a n c l) (hn : n ≤ 1000000) : Calls Tryz.prog 90 #[.slice a n c] w (CloneP l w) := by
  cases a with
  | none =>
    have hc := hs.2.2.2.1 rfl
    have hle := hs.2.1
    have hl := hs.1
    have e : l = [] := List.eq_nil_of_length_eq_zero (by omega)
    obtain rfl : n = 0 := by omega
    subst hc e
    clear hle hl hs
    have hnn : ∀ W, (binOp .eql 23 (.slice none 0 0) (.slice none 0 0)).run Tryz.prog W = .ok (.bool true) W := fun _ => rfl
    go_enter Tryz.func90, Tryz.ntmps90
    go_wp2_with fail
    go_ret
    exact ⟨_, rfl, OwnB.nil _ _, Below.refl _ _⟩
  | some ad =>
    have hnn : ∀ W, (binOp .eql 23 (.slice (some ad) n c) (.slice none 0 0)).run Tryz.prog W = .ok (.bool false) W := fun _ => rfl
    have hb0 : Below w.heap.size w (w.alloc (.cells #[] 5)) := (Below.refl _ _).alloc (Nat.le_refl _) _
    have ho0 : OwnB (w.alloc (.cells #[] 5)) w.heap.size (.slice (some ⟨w.heap.size, 0, none⟩) 0 0) [] := OwnG.new w w.heap.size 1 (Nat.le_refl _) #[] 5 0 0 (Nat.le_refl _) (Nat.zero_le _) rfl
    have HO := Lib.hid ho0
    have HS := Lib.hid (hs.after hb0)
    have HL := Lib.hid hs.1
    clear ho0 hs
    go_enter Tryz.func90, Tryz.ntmps90
    go_wp2_with (refine wpList_append_B rfl _ _ rfl rfl HO.out rfl HS.out (by have := HL.out; simp only [List.length_nil]; omega) (by simp) ?_; intro v2 w2 ho2 hg2)
    rw [List.nil_append] at ho2
    have hB := hb0.grown hg2 (by simp) (fun k hk => by cases hk; exact Nat.le_refl _)
    clear hg2
    go_ret
    exact ⟨v2, rfl, ho2, hB⟩

end Go.Proofs.YtkbblhioncecmaaGreatDoor
namespace Go.Proofs.YtkbblhioncecmaaGreatDoor
open Go.RowKit
set_option linter.unusedSimpArgs false
set_option linter.unusedVariables false

/-- the reader's cells -/
abbrev RdC (a : Option Addr) (n c : Nat) (p m : Nat) (vo : Value) : Array Value := #[.slice a n c, .int .i64 p, .int .i64 m, vo]
/-- a fault is thrown -/
def FaultE (p e : Nat) : Ending := .panicked [{ v := .iface 85 (.agg #[.int .i64 p, .int .i64 e]), recovered := false }]

/-- sign: either a fault or a step -/
def SignP (g : Nat) (a : Option Addr) (n c : Nat) (l : List UInt8) (p m : Nat) (vo : Value) (ch : UInt8) (w : World) (e : Ending) (w' : World) : Prop :=
  But (fun k => k = g) w w' ∧ ((l.length ≤ p ∧ e = FaultE l.length 2) ∨ (p < l.length ∧ l.getD p 0 ≠ ch ∧ e = FaultE p 3) ∨
    (p < l.length ∧ l.getD p 0 = ch ∧ e = .returned (.tuple #[]) ∧ Box w' g 88 (RdC a n c (p + 1) m vo)))
theorem but_set {w : World} {g : Nat} (i : Nat) (v : Value) : But (fun k => k = g) w (w.setCell ⟨g, i, none⟩ v) := (But.refl (fun k => k = g) w).setCell (p := ⟨g, i, none⟩) (.inl rfl) v
theorem But.drewN {S : Nat → Prop} {w1 w2 : World} (h : But S w1 w2) (n : Nat) : But S w1 (w2.drewN n) := ⟨h.os, h.tape, h.output, h.size, h.block⟩
theorem Box.drewN {w : World} {g : Nat} {T : TypeId} {cs : Array Value} (h : Box w g T cs) (n : Nat) : Box (w.drewN n) g T cs := h
theorem byteIntNe {x y : UInt8} (h : x ≠ y) : ((x.toNat : Int) == (y.toNat : Int)) = false ∧ ((x.toNat : Int) != (y.toNat : Int)) = true := by
  have h1 : ((x.toNat : Int) == (y.toNat : Int)) = false := beq_eq_false_iff_ne.2 (fun e => h (UInt8.toNat_inj.1 (Int.ofNat.inj e)))
  exact ⟨h1, by rw [bne, h1]; rfl⟩

set_option maxHeartbeats 4000000 in
set_option maxRecDepth 100000 in
theorem sign_any (g : Nat) (a : Option Addr) (n c : Nat) (l : List UInt8) (p m : Nat) (vo : Value) (ch : UInt8) (w : World) (hX : Box w g 88 (RdC a n c p m vo)) (hs : Sl w a n c l) (hn : n ≤ 100000) (hp : p ≤ 200000) :
    Calls Tryz.prog 88 #[.pointer (some ⟨g, 0, none⟩), .int .u8 (ch.toNat : Int)] w (SignP g a n c l p m vo ch w) := by
  have HL := Lib.hid (Nat.le_of_eq hs.1)
  have HL' := Lib.hid (Nat.le_of_eq hs.1.symm)
  have x0 : w.cell? ⟨g, 0, none⟩ = some (.slice a n c) := hX.cell 0 rfl
  have x1 : w.cell? ⟨g, 1, none⟩ = some (.int .i64 p) := hX.cell 1 rfl
  have f1 := hX.frozen 1
  by_cases hlong : n ≤ p
  · have hlong' : (n : Int) ≤ (p : Int) := by omega
    clear hs hX
    go_enter Tryz.func88, Tryz.ntmps88
    go_wp2_with fail
    go_quiet (fail)
    go_wp2_with fail
    exact ⟨rfl, (But.refl _ _).drewN _, .inl ⟨by have := HL'.out; omega, by have h1 := HL.out; have h2 := HL'.out; rw [show l.length = n by omega]; rfl⟩⟩
  have hlong' : ¬ (n : Int) ≤ (p : Int) := by omega
  obtain ⟨b, o, rfl, hc⟩ : ∃ b o, a = some ⟨b, o, none⟩ ∧ ∀ i, i < n → w.cell? ⟨b, o + i, none⟩ = some (.int .u8 ((l.getD i 0).toNat : Int)) := by
    rcases hs.2.2.2.2 with h0 | h0
    · omega
    · exact h0
  have q0 := hc p (by omega)
  obtain ⟨x, hx⟩ : ∃ x, x = l.getD p 0 := ⟨_, rfl⟩
  rw [← hx] at q0
  have HX := Lib.hid hx
  have HB := Lib.hid hX
  have hplt : p < n := by omega
  clear hx hc hs hX
  by_cases he : x = ch
  · subst he
    have e1 : ((x.toNat : Int) != (x.toNat : Int)) = false := by simp
    go_enter Tryz.func88, Tryz.ntmps88
    go_wp2_with fail
    go_quiet (fail)
    go_wp2_with fail
    go_quiet (fail)
    go_wp2_with fail
    exact bodyPost_ret (results_none rfl _ _ _) rfl ⟨((But.refl (fun k => k = g) w).drewN _).setCell (p := ⟨g, 1, none⟩) (.inl rfl) _, .inr (.inr ⟨by have := HL.out; omega, HX.out.symm, rfl, (HB.out.drewN _).set 1 _⟩)⟩
  · obtain ⟨z1, z2⟩ := byteIntNe he
    have HE := Lib.hid he
    clear he
    go_enter Tryz.func88, Tryz.ntmps88
    go_wp2_with fail
    go_quiet (fail)
    go_wp2_with fail
    go_quiet (fail)
    go_wp2_with fail
    exact ⟨rfl, (But.refl _ _).drewN _, .inr (.inl ⟨by have := HL.out; omega, by rw [← HX.out]; exact HE.out, rfl⟩)⟩

/-- too many values, or too deep -/
def Over (m d : Nat) (ls : Bool) : Prop := 512 < m + 1 ∨ ls = true ∧ 16 ≤ d
/-- begins: a value may begin, or not -/
def BeginsP (g : Nat) (a : Option Addr) (n c : Nat) (p m d : Nat) (vo : Value) (ls : Bool) (w : World) (e : Ending) (w' : World) : Prop :=
  But (fun k => k = g) w w' ∧ ((Over m d ls ∧ e = FaultE p 4) ∨ (¬ Over m d ls ∧ e = .returned (.tuple #[]) ∧ Box w' g 88 (RdC a n c p (m + 1) vo)))

set_option maxHeartbeats 4000000 in
set_option maxRecDepth 100000 in
theorem begins_any (g : Nat) (a : Option Addr) (n c p m : Nat) (ao : Option Addr) (d co : Nat) (ls : Bool) (w : World) (hX : Box w g 88 (RdC a n c p m (.slice ao d co))) (hm : m ≤ 100000) (hd : d ≤ 100000) :
    Calls Tryz.prog 80 #[.pointer (some ⟨g, 0, none⟩), .bool ls] w (BeginsP g a n c p m d (.slice ao d co) ls w) := by
  have x2 : w.cell? ⟨g, 2, none⟩ = some (.int .i64 m) := hX.cell 2 rfl
  have f2 := hX.frozen 2
  have B2 : Box (w.setCell ⟨g, 2, none⟩ (.int .i64 ((m : Int) + 1))) g 88 (RdC a n c p (m + 1) (.slice ao d co)) := hX.set 2 _
  have y1 : (w.setCell ⟨g, 2, none⟩ (.int .i64 ((m : Int) + 1))).cell? ⟨g, 1, none⟩ = some (.int .i64 p) := B2.cell 1 rfl
  have y2 : (w.setCell ⟨g, 2, none⟩ (.int .i64 ((m : Int) + 1))).cell? ⟨g, 2, none⟩ = some (.int .i64 ((m : Int) + 1)) := B2.cell 2 rfl
  have y3 : (w.setCell ⟨g, 2, none⟩ (.int .i64 ((m : Int) + 1))).cell? ⟨g, 3, none⟩ = some (.slice ao d co) := B2.cell 3 rfl
  have HB2 := Lib.hid B2
  have HBut := Lib.hid (but_set (w := w) (g := g) 2 (.int .i64 ((m : Int) + 1)))
  clear hX B2
  by_cases hm5 : 512 < m + 1
  · have HT := Lib.hid (show Over m d ls from .inl hm5)
    have hm5' : (512 : Int) < (m : Int) + 1 := by omega
    go_enter Tryz.func80, Tryz.ntmps80
    go_upto_region 1 with fail
    change Code.wp _ _ _ _ (w.setCell ⟨g, 2, none⟩ (.int .i64 ((m : Int) + 1)))
    generalize w.setCell ⟨g, 2, none⟩ (.int .i64 ((m : Int) + 1)) = u at *
    go_wp2_with fail
    exact ⟨rfl, HBut.out, .inl ⟨HT.out, rfl⟩⟩
  have hm5' : ¬ (512 : Int) < (m : Int) + 1 := by omega
  cases ls with
  | false =>
    have HT := Lib.hid (show ¬ Over m d false from fun h => h.elim hm5 (fun h => by cases h.1))
    clear hm5
    go_enter Tryz.func80, Tryz.ntmps80
    go_upto_region 1 with fail
    change Code.wp _ _ _ _ (w.setCell ⟨g, 2, none⟩ (.int .i64 ((m : Int) + 1)))
    generalize w.setCell ⟨g, 2, none⟩ (.int .i64 ((m : Int) + 1)) = u at *
    go_wp2_with fail
    exact bodyPost_ret (results_none rfl _ _ _) rfl ⟨HBut.out, .inr ⟨HT.out, rfl, HB2.out⟩⟩
  | true =>
    by_cases hd : 16 ≤ d
    · have HT := Lib.hid (show Over m d true from .inr ⟨rfl, hd⟩)
      have hd' : (16 : Int) ≤ (d : Int) := by omega
      clear hm5
      go_enter Tryz.func80, Tryz.ntmps80
      go_upto_region 1 with fail
      change Code.wp _ _ _ _ (w.setCell ⟨g, 2, none⟩ (.int .i64 ((m : Int) + 1)))
      generalize w.setCell ⟨g, 2, none⟩ (.int .i64 ((m : Int) + 1)) = u at *
      go_wp2_with fail
      exact ⟨rfl, HBut.out, .inl ⟨HT.out, rfl⟩⟩
    · have HT := Lib.hid (show ¬ Over m d true from fun h => h.elim hm5 (fun h => hd h.2))
      have hd' : ¬ (16 : Int) ≤ (d : Int) := by omega
      clear hm5
      go_enter Tryz.func80, Tryz.ntmps80
      go_upto_region 1 with fail
      change Code.wp _ _ _ _ (w.setCell ⟨g, 2, none⟩ (.int .i64 ((m : Int) + 1)))
      generalize w.setCell ⟨g, 2, none⟩ (.int .i64 ((m : Int) + 1)) = u at *
      go_wp2_with fail
      exact bodyPost_ret (results_none rfl _ _ _) rfl ⟨HBut.out, .inr ⟨HT.out, rfl, HB2.out⟩⟩

end Go.Proofs.YtkbblhioncecmaaGreatDoor
namespace Go.Proofs.YtkbblhioncecmaaGreatDoor
open Go.RowKit
set_option linter.unusedSimpArgs false
set_option linter.unusedVariables false

/-- bytes: a fault, or the bytes, the call's own -/
def RBytesP (g : Nat) (a : Option Addr) (n c : Nat) (R : List UInt8 × Nat × Nat) (m : Nat) (vo : Value) (w : World) (e : Ending) (w' : World) : Prop :=
  But (fun k => k = g) w w' ∧ ((R.2.2 ≠ 0 ∧ e = FaultE R.2.1 R.2.2) ∨ (R.2.2 = 0 ∧ ∃ v', e = .returned v' ∧ OwnB w' w.heap.size v' R.1 ∧ Box w' g 88 (RdC a n c R.2.1 m vo)))
theorem rb_no {g : Nat} {a : Option Addr} {n c : Nat} {R : List UInt8 × Nat × Nat} {q e m : Nat} {vo : Value} (h : R = ([], q, e)) (he : e ≠ 0) {w w' : World} (hb : But (fun k => k = g) w w') : RBytesP g a n c R m vo w (FaultE q e) w' := by
  subst h
  exact ⟨hb, .inl ⟨he, rfl⟩⟩
theorem rb_yes {g : Nat} {a : Option Addr} {n c : Nat} {R : List UInt8 × Nat × Nat} {L : List UInt8} {q m : Nat} {vo : Value} (h : R = (L, q, 0)) {w w' : World} (hb : But (fun k => k = g) w w') {v' : Value} (ho : OwnB w' w.heap.size v' L) (hX : Box w' g 88 (RdC a n c q m vo)) : RBytesP g a n c R m vo w (.returned v') w' := by
  subst h
  exact ⟨hb, .inr ⟨rfl, v', rfl, ho, hX⟩⟩

set_option maxHeartbeats 4000000 in
set_option maxRecDepth 100000 in
theorem bytes_any (g : Nat) (a : Option Addr) (n c : Nat) (l : List UInt8) (p m : Nat) (vo : Value) (w : World) (hX : Box w g 88 (RdC a n c p m vo)) (hs : Sl w a n c l) (hi : InB (fun k => ¬ k = g) a n) (hn : n ≤ 100000) (hp : p ≤ n) :
    Calls Tryz.prog 87 #[.pointer (some ⟨g, 0, none⟩)] w (RBytesP g a n c (rBytes l p) m vo w) := by
  have hl := hs.1
  have hx := hs.2.2.1
  have HS := Lib.hid hs
  have HX := Lib.hid hX
  have HL := Lib.hid (Nat.le_of_eq hl)
  have HL' := Lib.hid (Nat.le_of_eq hl.symm)
  have CX0 : Hid (∀ w', Below w.heap.size w w' → w'.cell? ⟨g, 0, none⟩ = some (.slice a n c)) := Lib.hid fun w' hb => (HX.out.after hb).cell 0 rfl
  have CX1 : Hid (∀ w', Below w.heap.size w w' → w'.cell? ⟨g, 1, none⟩ = some (.int .i64 p)) := Lib.hid fun w' hb => (HX.out.after hb).cell 1 rfl
  have CALL := Lib.hid (fun w' (hb : Below w.heap.size w w') => getLen_any a n c l p 4096 4096 w' (HS.out.after hb) (by omega) (by omega) (by omega) rfl (by omega))
  obtain ⟨R, hR⟩ : ∃ R, R = rBytes l p := ⟨_, rfl⟩
  rw [← hR]
  have HR := Lib.hid hR
  unfold maxLen at hx
  clear hs hR hX
  rcases lenR_cases l p 4096 with ⟨h1, e1⟩ | ⟨h1, h2, e1⟩ | ⟨h1, e1⟩ | ⟨k, sz, hk, hpk, hmk, ht, e1⟩
  · have HE : Hid (R = ([], p, 2)) := Lib.hid (by rw [HR.out]; unfold rBytes; simp only [e1]; rw [if_pos trivial, show l.length = p by omega])
    rw [e1] at CALL
    clear e1 hl
    go_enter Tryz.func87, Tryz.ntmps87
    go_upto_region 1 with fail
    refine wp_region_made w.heap.size w rfl (by kernel_rfl) (Below.refl _ _) ?_
    refine wpQ_run rfl (.pointer (some ⟨g, 0, none⟩)) (fun w' hw => by simp [go_sem]) ?_
    simp only [Act.put, List.setIfInBounds_toArray, List.set_cons_zero, List.set_cons_succ]
    refine wpQ_run rfl (.pointer (some ⟨g, 0, none⟩)) (fun w' hw => by simp [go_sem]) ?_
    simp only [Act.put, List.setIfInBounds_toArray, List.set_cons_zero, List.set_cons_succ]
    refine wpQ_run rfl (.pointer (some ⟨g, 0, none⟩)) (fun w' hw => by simp [go_sem]) ?_
    simp only [Act.put, List.setIfInBounds_toArray, List.set_cons_zero, List.set_cons_succ]
    refine wpQ_run rfl (.slice a n c) (fun w' hw => by simp [go_sem, CX0.out w' hw]) ?_
    simp only [Act.put, List.setIfInBounds_toArray, List.set_cons_zero, List.set_cons_succ]
    refine wpQ_run rfl (.pointer (some ⟨g, 0, none⟩)) (fun w' hw => by simp [go_sem]) ?_
    simp only [Act.put, List.setIfInBounds_toArray, List.set_cons_zero, List.set_cons_succ]
    refine wpQ_run rfl (.pointer (some ⟨g, 0, none⟩)) (fun w' hw => by simp [go_sem]) ?_
    simp only [Act.put, List.setIfInBounds_toArray, List.set_cons_zero, List.set_cons_succ]
    refine wpQ_run rfl (.pointer (some ⟨g, 1, none⟩)) (fun w' hw => by simp [go_sem]) ?_
    simp only [Act.put, List.setIfInBounds_toArray, List.set_cons_zero, List.set_cons_succ]
    refine wpQ_run rfl (.int .i64 p) (fun w' hw => by simp [go_sem, CX1.out w' hw]) ?_
    simp only [Act.put, List.setIfInBounds_toArray, List.set_cons_zero, List.set_cons_succ]
    refine wpQ_callS rfl 73 #[.slice a n c, .int .i64 p, .int .i64 4096] (fun w' => by simp [go_sem]) (.tuple #[.int .i64 0, .int .i64 p, .int .i64 2]) (Nat.le_refl _) CALL.out ?_
    simp only [Act.put, List.setIfInBounds_toArray, List.set_cons_zero, List.set_cons_succ]
    refine wpQ_run rfl (.tuple #[.int .i64 0, .int .i64 p, .int .i64 2]) (fun w' hw => by simp [go_sem]) ?_
    simp only [Act.put, List.setIfInBounds_toArray, List.set_cons_zero, List.set_cons_succ]
    refine wpQ_run rfl (.int .i64 0) (fun w' hw => by simp [go_sem]) ?_
    simp only [Act.put, List.setIfInBounds_toArray, List.set_cons_zero, List.set_cons_succ]
    refine wpQ_run rfl (.int .i64 p) (fun w' hw => by simp [go_sem]) ?_
    simp only [Act.put, List.setIfInBounds_toArray, List.set_cons_zero, List.set_cons_succ]
    refine wpQ_run rfl (.int .i64 2) (fun w' hw => by simp [go_sem]) ?_
    simp only [Act.put, List.setIfInBounds_toArray, List.set_cons_zero, List.set_cons_succ]
    refine wpQ_run rfl (.int .i64 0) (fun w' hw => by simp [go_sem]) ?_
    simp only [Act.put, List.setIfInBounds_toArray, List.set_cons_zero, List.set_cons_succ]
    refine wpQ_run rfl (.int .i64 p) (fun w' hw => by simp [go_sem]) ?_
    simp only [Act.put, List.setIfInBounds_toArray, List.set_cons_zero, List.set_cons_succ]
    refine wpQ_run rfl (.int .i64 2) (fun w' hw => by simp [go_sem]) ?_
    simp only [Act.put, List.setIfInBounds_toArray, List.set_cons_zero, List.set_cons_succ]
    intro w1 hb1
    have b1 : But (fun k => k = g) w w1 := But.ofBelow hb1
    have X1 := HX.out.after hb1
    have y1 : w1.cell? ⟨g, 1, none⟩ = some (.int .i64 p) := X1.cell 1 rfl
    have f1 := X1.frozen 1
    go_wp2_with fail
    exact ⟨rfl, rb_no HE.out (by decide) b1⟩
  · have HE : Hid (R = ([], p, 3)) := Lib.hid (by rw [HR.out]; unfold rBytes; simp only [e1]; rw [if_neg (by omega), if_pos (by omega)]; rfl)
    rw [e1] at CALL
    clear e1 hl
    go_enter Tryz.func87, Tryz.ntmps87
    go_upto_region 1 with fail
    refine wp_region_made w.heap.size w rfl (by kernel_rfl) (Below.refl _ _) ?_
    refine wpQ_run rfl (.pointer (some ⟨g, 0, none⟩)) (fun w' hw => by simp [go_sem]) ?_
    simp only [Act.put, List.setIfInBounds_toArray, List.set_cons_zero, List.set_cons_succ]
    refine wpQ_run rfl (.pointer (some ⟨g, 0, none⟩)) (fun w' hw => by simp [go_sem]) ?_
    simp only [Act.put, List.setIfInBounds_toArray, List.set_cons_zero, List.set_cons_succ]
    refine wpQ_run rfl (.pointer (some ⟨g, 0, none⟩)) (fun w' hw => by simp [go_sem]) ?_
    simp only [Act.put, List.setIfInBounds_toArray, List.set_cons_zero, List.set_cons_succ]
    refine wpQ_run rfl (.slice a n c) (fun w' hw => by simp [go_sem, CX0.out w' hw]) ?_
    simp only [Act.put, List.setIfInBounds_toArray, List.set_cons_zero, List.set_cons_succ]
    refine wpQ_run rfl (.pointer (some ⟨g, 0, none⟩)) (fun w' hw => by simp [go_sem]) ?_
    simp only [Act.put, List.setIfInBounds_toArray, List.set_cons_zero, List.set_cons_succ]
    refine wpQ_run rfl (.pointer (some ⟨g, 0, none⟩)) (fun w' hw => by simp [go_sem]) ?_
    simp only [Act.put, List.setIfInBounds_toArray, List.set_cons_zero, List.set_cons_succ]
    refine wpQ_run rfl (.pointer (some ⟨g, 1, none⟩)) (fun w' hw => by simp [go_sem]) ?_
    simp only [Act.put, List.setIfInBounds_toArray, List.set_cons_zero, List.set_cons_succ]
    refine wpQ_run rfl (.int .i64 p) (fun w' hw => by simp [go_sem, CX1.out w' hw]) ?_
    simp only [Act.put, List.setIfInBounds_toArray, List.set_cons_zero, List.set_cons_succ]
    refine wpQ_callS rfl 73 #[.slice a n c, .int .i64 p, .int .i64 4096] (fun w' => by simp [go_sem]) (.tuple #[.int .i64 0, .int .i64 p, .int .i64 3]) (Nat.le_refl _) CALL.out ?_
    simp only [Act.put, List.setIfInBounds_toArray, List.set_cons_zero, List.set_cons_succ]
    refine wpQ_run rfl (.tuple #[.int .i64 0, .int .i64 p, .int .i64 3]) (fun w' hw => by simp [go_sem]) ?_
    simp only [Act.put, List.setIfInBounds_toArray, List.set_cons_zero, List.set_cons_succ]
    refine wpQ_run rfl (.int .i64 0) (fun w' hw => by simp [go_sem]) ?_
    simp only [Act.put, List.setIfInBounds_toArray, List.set_cons_zero, List.set_cons_succ]
    refine wpQ_run rfl (.int .i64 p) (fun w' hw => by simp [go_sem]) ?_
    simp only [Act.put, List.setIfInBounds_toArray, List.set_cons_zero, List.set_cons_succ]
    refine wpQ_run rfl (.int .i64 3) (fun w' hw => by simp [go_sem]) ?_
    simp only [Act.put, List.setIfInBounds_toArray, List.set_cons_zero, List.set_cons_succ]
    refine wpQ_run rfl (.int .i64 0) (fun w' hw => by simp [go_sem]) ?_
    simp only [Act.put, List.setIfInBounds_toArray, List.set_cons_zero, List.set_cons_succ]
    refine wpQ_run rfl (.int .i64 p) (fun w' hw => by simp [go_sem]) ?_
    simp only [Act.put, List.setIfInBounds_toArray, List.set_cons_zero, List.set_cons_succ]
    refine wpQ_run rfl (.int .i64 3) (fun w' hw => by simp [go_sem]) ?_
    simp only [Act.put, List.setIfInBounds_toArray, List.set_cons_zero, List.set_cons_succ]
    intro w1 hb1
    have b1 : But (fun k => k = g) w w1 := But.ofBelow hb1
    have X1 := HX.out.after hb1
    have y1 : w1.cell? ⟨g, 1, none⟩ = some (.int .i64 p) := X1.cell 1 rfl
    have f1 := X1.frozen 1
    go_wp2_with fail
    exact ⟨rfl, rb_no HE.out (by decide) b1⟩
  · have HE : Hid (R = ([], p, 4)) := Lib.hid (by rw [HR.out]; unfold rBytes; simp only [e1]; rw [if_neg (by omega), if_pos (by omega)]; rfl)
    rw [e1] at CALL
    clear e1 hl
    go_enter Tryz.func87, Tryz.ntmps87
    go_upto_region 1 with fail
    refine wp_region_made w.heap.size w rfl (by kernel_rfl) (Below.refl _ _) ?_
    refine wpQ_run rfl (.pointer (some ⟨g, 0, none⟩)) (fun w' hw => by simp [go_sem]) ?_
    simp only [Act.put, List.setIfInBounds_toArray, List.set_cons_zero, List.set_cons_succ]
    refine wpQ_run rfl (.pointer (some ⟨g, 0, none⟩)) (fun w' hw => by simp [go_sem]) ?_
    simp only [Act.put, List.setIfInBounds_toArray, List.set_cons_zero, List.set_cons_succ]
    refine wpQ_run rfl (.pointer (some ⟨g, 0, none⟩)) (fun w' hw => by simp [go_sem]) ?_
    simp only [Act.put, List.setIfInBounds_toArray, List.set_cons_zero, List.set_cons_succ]
    refine wpQ_run rfl (.slice a n c) (fun w' hw => by simp [go_sem, CX0.out w' hw]) ?_
    simp only [Act.put, List.setIfInBounds_toArray, List.set_cons_zero, List.set_cons_succ]
    refine wpQ_run rfl (.pointer (some ⟨g, 0, none⟩)) (fun w' hw => by simp [go_sem]) ?_
    simp only [Act.put, List.setIfInBounds_toArray, List.set_cons_zero, List.set_cons_succ]
    refine wpQ_run rfl (.pointer (some ⟨g, 0, none⟩)) (fun w' hw => by simp [go_sem]) ?_
    simp only [Act.put, List.setIfInBounds_toArray, List.set_cons_zero, List.set_cons_succ]
    refine wpQ_run rfl (.pointer (some ⟨g, 1, none⟩)) (fun w' hw => by simp [go_sem]) ?_
    simp only [Act.put, List.setIfInBounds_toArray, List.set_cons_zero, List.set_cons_succ]
    refine wpQ_run rfl (.int .i64 p) (fun w' hw => by simp [go_sem, CX1.out w' hw]) ?_
    simp only [Act.put, List.setIfInBounds_toArray, List.set_cons_zero, List.set_cons_succ]
    refine wpQ_callS rfl 73 #[.slice a n c, .int .i64 p, .int .i64 4096] (fun w' => by simp [go_sem]) (.tuple #[.int .i64 0, .int .i64 p, .int .i64 4]) (Nat.le_refl _) CALL.out ?_
    simp only [Act.put, List.setIfInBounds_toArray, List.set_cons_zero, List.set_cons_succ]
    refine wpQ_run rfl (.tuple #[.int .i64 0, .int .i64 p, .int .i64 4]) (fun w' hw => by simp [go_sem]) ?_
    simp only [Act.put, List.setIfInBounds_toArray, List.set_cons_zero, List.set_cons_succ]
    refine wpQ_run rfl (.int .i64 0) (fun w' hw => by simp [go_sem]) ?_
    simp only [Act.put, List.setIfInBounds_toArray, List.set_cons_zero, List.set_cons_succ]
    refine wpQ_run rfl (.int .i64 p) (fun w' hw => by simp [go_sem]) ?_
    simp only [Act.put, List.setIfInBounds_toArray, List.set_cons_zero, List.set_cons_succ]
    refine wpQ_run rfl (.int .i64 4) (fun w' hw => by simp [go_sem]) ?_
    simp only [Act.put, List.setIfInBounds_toArray, List.set_cons_zero, List.set_cons_succ]
    refine wpQ_run rfl (.int .i64 0) (fun w' hw => by simp [go_sem]) ?_
    simp only [Act.put, List.setIfInBounds_toArray, List.set_cons_zero, List.set_cons_succ]
    refine wpQ_run rfl (.int .i64 p) (fun w' hw => by simp [go_sem]) ?_
    simp only [Act.put, List.setIfInBounds_toArray, List.set_cons_zero, List.set_cons_succ]
    refine wpQ_run rfl (.int .i64 4) (fun w' hw => by simp [go_sem]) ?_
    simp only [Act.put, List.setIfInBounds_toArray, List.set_cons_zero, List.set_cons_succ]
    intro w1 hb1
    have b1 : But (fun k => k = g) w w1 := But.ofBelow hb1
    have X1 := HX.out.after hb1
    have y1 : w1.cell? ⟨g, 1, none⟩ = some (.int .i64 p) := X1.cell 1 rfl
    have f1 := X1.frozen 1
    go_wp2_with fail
    exact ⟨rfl, rb_no HE.out (by decide) b1⟩
  · have hpk' : p + k ≤ n := by omega
    obtain ⟨q, hq⟩ : ∃ q, q = p + k := ⟨_, rfl⟩
    rw [← hq] at hpk'
    have e1' : lenR l p 4096 = ((sz : Int), (q : Int), 0) := by rw [e1, hq]
    rw [e1'] at CALL
    have HRR : Hid (R = if l.length ≤ q then ([], l.length, 2) else if l.getD q 0 ≠ 58 then ([], q, 3) else if l.length - q - 1 < sz then ([], l.length, 2) else ((l.drop (q + 1)).take sz, q + 1 + sz, 0)) := Lib.hid (by rw [HR.out]; unfold rBytes; simp only [e1', Int.toNat_natCast]; rw [if_neg (by omega), if_neg (by omega)])
    have HEQ := Lib.hid hl
    clear e1 e1' ht hq hl
    go_enter Tryz.func87, Tryz.ntmps87
    go_upto_region 1 with fail
    refine wp_region_made w.heap.size w rfl (by kernel_rfl) (Below.refl _ _) ?_
    refine wpQ_run rfl (.pointer (some ⟨g, 0, none⟩)) (fun w' hw => by simp [go_sem]) ?_
    simp only [Act.put, List.setIfInBounds_toArray, List.set_cons_zero, List.set_cons_succ]
    refine wpQ_run rfl (.pointer (some ⟨g, 0, none⟩)) (fun w' hw => by simp [go_sem]) ?_
    simp only [Act.put, List.setIfInBounds_toArray, List.set_cons_zero, List.set_cons_succ]
    refine wpQ_run rfl (.pointer (some ⟨g, 0, none⟩)) (fun w' hw => by simp [go_sem]) ?_
    simp only [Act.put, List.setIfInBounds_toArray, List.set_cons_zero, List.set_cons_succ]
    refine wpQ_run rfl (.slice a n c) (fun w' hw => by simp [go_sem, CX0.out w' hw]) ?_
    simp only [Act.put, List.setIfInBounds_toArray, List.set_cons_zero, List.set_cons_succ]
    refine wpQ_run rfl (.pointer (some ⟨g, 0, none⟩)) (fun w' hw => by simp [go_sem]) ?_
    simp only [Act.put, List.setIfInBounds_toArray, List.set_cons_zero, List.set_cons_succ]
    refine wpQ_run rfl (.pointer (some ⟨g, 0, none⟩)) (fun w' hw => by simp [go_sem]) ?_
    simp only [Act.put, List.setIfInBounds_toArray, List.set_cons_zero, List.set_cons_succ]
    refine wpQ_run rfl (.pointer (some ⟨g, 1, none⟩)) (fun w' hw => by simp [go_sem]) ?_
    simp only [Act.put, List.setIfInBounds_toArray, List.set_cons_zero, List.set_cons_succ]
    refine wpQ_run rfl (.int .i64 p) (fun w' hw => by simp [go_sem, CX1.out w' hw]) ?_
    simp only [Act.put, List.setIfInBounds_toArray, List.set_cons_zero, List.set_cons_succ]
    refine wpQ_callS rfl 73 #[.slice a n c, .int .i64 p, .int .i64 4096] (fun w' => by simp [go_sem]) (.tuple #[.int .i64 sz, .int .i64 q, .int .i64 0]) (Nat.le_refl _) CALL.out ?_
    simp only [Act.put, List.setIfInBounds_toArray, List.set_cons_zero, List.set_cons_succ]
    refine wpQ_run rfl (.tuple #[.int .i64 sz, .int .i64 q, .int .i64 0]) (fun w' hw => by simp [go_sem]) ?_
    simp only [Act.put, List.setIfInBounds_toArray, List.set_cons_zero, List.set_cons_succ]
    refine wpQ_run rfl (.int .i64 sz) (fun w' hw => by simp [go_sem]) ?_
    simp only [Act.put, List.setIfInBounds_toArray, List.set_cons_zero, List.set_cons_succ]
    refine wpQ_run rfl (.int .i64 q) (fun w' hw => by simp [go_sem]) ?_
    simp only [Act.put, List.setIfInBounds_toArray, List.set_cons_zero, List.set_cons_succ]
    refine wpQ_run rfl (.int .i64 0) (fun w' hw => by simp [go_sem]) ?_
    simp only [Act.put, List.setIfInBounds_toArray, List.set_cons_zero, List.set_cons_succ]
    refine wpQ_run rfl (.int .i64 sz) (fun w' hw => by simp [go_sem]) ?_
    simp only [Act.put, List.setIfInBounds_toArray, List.set_cons_zero, List.set_cons_succ]
    refine wpQ_run rfl (.int .i64 q) (fun w' hw => by simp [go_sem]) ?_
    simp only [Act.put, List.setIfInBounds_toArray, List.set_cons_zero, List.set_cons_succ]
    refine wpQ_run rfl (.int .i64 0) (fun w' hw => by simp [go_sem]) ?_
    simp only [Act.put, List.setIfInBounds_toArray, List.set_cons_zero, List.set_cons_succ]
    intro w1 hb1
    have b1 : But (fun k => k = g) w w1 := But.ofBelow hb1
    have X1 := HX.out.after hb1
    have y1 : w1.cell? ⟨g, 1, none⟩ = some (.int .i64 p) := X1.cell 1 rfl
    have f1 := X1.frozen 1
    go_upto_region 5 with fail
    have X2 : Box (w1.setCell ⟨g, 1, none⟩ (.int .i64 q)) g 88 (RdC a n c q m vo) := X1.set 1 _
    have b2 := b1.setCell (p := ⟨g, 1, none⟩) (.inl rfl) (.int .i64 q)
    have HS2 := Lib.hid (HS.out.but b2 hi (fun k hk => hk))
    change Code.wp _ _ _ _ (w1.setCell ⟨g, 1, none⟩ (.int .i64 q))
    generalize w1.setCell ⟨g, 1, none⟩ (.int .i64 q) = u2 at *
    have hz2 := b2.size
    clear y1 f1 X1 b1 hb1 HX CX0 CX1 CALL
    go_wp2_with fail
    refine (sign_any g a n c l q m vo 58 u2 X2 HS2.out (by omega) (by omega)).mono ?_
    rintro e w3 ⟨b3, ⟨h3, rfl⟩ | ⟨h3, h4, rfl⟩ | ⟨h3, h4, rfl, X3⟩⟩
    · have HE : Hid (R = ([], l.length, 2)) := Lib.hid (by rw [HRR.out, if_pos h3])
      unfold FaultE
      exact ⟨rfl, rb_no HE.out (by decide) (b2.trans b3 (fun k hk => .inl hk))⟩
    · have HE : Hid (R = ([], q, 3)) := Lib.hid (by rw [HRR.out, if_neg (by omega), if_pos h4])
      unfold FaultE
      exact ⟨rfl, rb_no HE.out (by decide) (b2.trans b3 (fun k hk => .inl hk))⟩
    have b4 := b2.trans b3 (fun k hk => .inl hk)
    have hlq : q < n := by have := HEQ.out; omega
    have x0 : w3.cell? ⟨g, 0, none⟩ = some (.slice a n c) := X3.cell 0 rfl
    have x1 : w3.cell? ⟨g, 1, none⟩ = some (.int .i64 ((q + 1 : Nat) : Int)) := X3.cell 1 rfl
    have f1 := X3.frozen 1
    have HS3 := Lib.hid (HS2.out.but b3 hi (fun k hk => hk))
    rw [show ((q + 1 : Nat) : Int) = (q : Int) + 1 by omega] at x1
    have HRS : Hid (R = if l.length - q - 1 < sz then ([], l.length, 2) else ((l.drop (q + 1)).take sz, q + 1 + sz, 0)) := Lib.hid (by rw [HRR.out, if_neg (by omega), if_neg (by simpa using h4)])
    clear h3 h4 HRR HS2 b2 b3 X2 HR
    by_cases h5 : n - q - 1 < sz
    · have HE : Hid (R = ([], n, 2)) := Lib.hid (by rw [HRS.out, if_pos (by have := HEQ.out; omega), HEQ.out])
      have h5' : (n : Int) - ((q : Int) + 1) < (sz : Int) := by omega
      go_wp2_with fail
      go_quiet (fail)
      go_wp2_with fail
      exact ⟨rfl, rb_no HE.out (by decide) (b4.drewN _)⟩
    have HE : Hid (R = ((l.drop (q + 1)).take sz, q + 1 + sz, 0)) := Lib.hid (by rw [HRS.out, if_neg (by have := HEQ.out; omega)])
    have h5' : ¬ (n : Int) - ((q : Int) + 1) < (sz : Int) := by omega
    go_upto_region 6 with fail
    go_quiet (fail)
    have X4 : Box ((w3.drewN nq).setCell ⟨g, 1, none⟩ (.int .i64 (((q : Int) + 1) + sz))) g 88 (RdC a n c (q + 1 + sz) m vo) := by
      have := (X3.drewN nq).set 1 (.int .i64 ((q + 1 + sz : Nat) : Int))
      rw [show (((q : Int) + 1) + sz) = ((q + 1 + sz : Nat) : Int) by omega]
      exact this
    have b5 := (b4.drewN nq).setCell (p := ⟨g, 1, none⟩) (.inl rfl) (.int .i64 (((q : Int) + 1) + sz))
    have HS5 := Lib.hid (HS.out.but b5 hi (fun k hk => hk))
    go_upto_region 9 with fail
    change Code.wp _ _ _ _ ((w3.drewN nq).setCell ⟨g, 1, none⟩ (.int .i64 (((q : Int) + 1) + sz)))
    generalize (w3.drewN nq).setCell ⟨g, 1, none⟩ (.int .i64 (((q : Int) + 1) + sz)) = u5 at *
    clear x0 x1 f1 X3 HS3 b4
    obtain ⟨q2, hq2⟩ : ∃ q2 : Nat, q2 = q + 1 := ⟨_, rfl⟩
    obtain ⟨q3, hq3⟩ : ∃ q3 : Nat, q3 = q2 + sz := ⟨_, rfl⟩
    rw [← hq2] at X4 HE
    rw [← hq3] at X4 HE
    obtain ⟨b, o, rfl⟩ : ∃ b o, a = some ⟨b, o, none⟩ := by
      rcases HS.out.2.2.2.2 with h0 | ⟨b, o, h0, _⟩
      · omega
      · exact ⟨b, o, h0⟩
    have hcut := slCut HS5.out q2 sz (by omega)
    have hcn := HS.out.2.1
    have hvs : Sl u5 (if c = q2 then some ⟨b, o, none⟩ else some ⟨b, o + q2, none⟩) sz (c - q2) ((l.drop q2).take sz) := by
      split
      · rename_i hcq
        rw [show c - q2 = 0 by omega]
        exact hcut.2 hcq
      · rename_i hcq
        exact hcut.1 hcq
    clear hcut HS5
    obtain ⟨va, hva⟩ : ∃ va, va = (if c = q2 then some (⟨b, o, none⟩ : Addr) else some ⟨b, o + q2, none⟩) := ⟨_, rfl⟩
    rw [← hva] at hvs
    have HVA := Lib.hid hva
    have X4' : Box u5 g 88 (RdC (some ⟨b, o, none⟩) n c q3 m vo) := X4
    have z2 : (q3 : Int) - (sz : Int) = (q2 : Int) := by omega
    have wq : IntKind.i64.wrap (q2 : Int) = (q2 : Int) := by rw [IntKind.wrap_i64]; omega
    have zq : (((q : Int) + 1) + (sz : Int)) = (q3 : Int) := by omega
    clear hva
    have hKS : Keeps (fun w' => Box w' g 88 (RdC (some ⟨b, o, none⟩) n c q3 m vo) ∧ Sl w' va sz (c - q2) ((l.drop q2).take sz)) := fun w w' h b => ⟨h.1.after b, h.2.after b⟩
    refine wp_region_U (w := u5) (fun w' => Box w' g 88 (RdC (some ⟨b, o, none⟩) n c q3 m vo) ∧ Sl w' va sz (c - q2) ((l.drop q2).take sz)) rfl ⟨X4'.drew, hvs.keep (.inr fun _ _ _ _ => rfl)⟩ ?_
    refine wpU_val 0 hKS rfl (by kernel_rfl) (by kernel_rfl) (by kernel_rfl) rfl (fun _ _ _ _ h => h) (.pointer (some ⟨g, 0, none⟩)) (fun w' h => by simp [go_sem]) ?_
    simp only [Act.put, List.setIfInBounds_toArray, List.set_cons_zero, List.set_cons_succ]
    refine wpU_val 1 hKS rfl (by kernel_rfl) (by kernel_rfl) (by kernel_rfl) rfl (fun _ _ _ _ h => h) (.pointer (some ⟨g, 0, none⟩)) (fun w' h => by simp [go_sem]) ?_
    simp only [Act.put, List.setIfInBounds_toArray, List.set_cons_zero, List.set_cons_succ]
    refine wpU_val 2 hKS rfl (by kernel_rfl) (by kernel_rfl) (by kernel_rfl) rfl (fun _ _ _ _ h => h) (.pointer (some ⟨g, 0, none⟩)) (fun w' h => by simp [go_sem]) ?_
    simp only [Act.put, List.setIfInBounds_toArray, List.set_cons_zero, List.set_cons_succ]
    refine wpU_val 3 hKS rfl (by kernel_rfl) (by kernel_rfl) (by kernel_rfl) rfl (fun _ _ _ _ h => h) (.slice (some ⟨b, o, none⟩) n c) (fun w' h => by simp [go_sem, h.1.cell 0 rfl]) ?_
    simp only [Act.put, List.setIfInBounds_toArray, List.set_cons_zero, List.set_cons_succ]
    refine wpU_val 4 hKS rfl (by kernel_rfl) (by kernel_rfl) (by kernel_rfl) rfl (fun _ _ _ _ h => h) (.pointer (some ⟨g, 0, none⟩)) (fun w' h => by simp [go_sem]) ?_
    simp only [Act.put, List.setIfInBounds_toArray, List.set_cons_zero, List.set_cons_succ]
    refine wpU_val 5 hKS rfl (by kernel_rfl) (by kernel_rfl) (by kernel_rfl) rfl (fun _ _ _ _ h => h) (.pointer (some ⟨g, 0, none⟩)) (fun w' h => by simp [go_sem]) ?_
    simp only [Act.put, List.setIfInBounds_toArray, List.set_cons_zero, List.set_cons_succ]
    refine wpU_val 6 hKS rfl (by kernel_rfl) (by kernel_rfl) (by kernel_rfl) rfl (fun _ _ _ _ h => h) (.pointer (some ⟨g, 1, none⟩)) (fun w' h => by simp [go_sem]) ?_
    simp only [Act.put, List.setIfInBounds_toArray, List.set_cons_zero, List.set_cons_succ]
    refine wpU_val 7 hKS rfl (by kernel_rfl) (by kernel_rfl) (by kernel_rfl) rfl (fun _ _ _ _ h => h) (.int .i64 q3) (fun w' h => by simp [go_sem, h.1.cell 1 rfl]) ?_
    simp only [Act.put, List.setIfInBounds_toArray, List.set_cons_zero, List.set_cons_succ]
    refine wpU_val 8 hKS rfl (by kernel_rfl) (by kernel_rfl) (by kernel_rfl) rfl (fun _ _ _ _ h => h) (.int .i64 sz) (fun w' h => by simp [go_sem]) ?_
    simp only [Act.put, List.setIfInBounds_toArray, List.set_cons_zero, List.set_cons_succ]
    refine wpU_val 9 hKS rfl (by kernel_rfl) (by kernel_rfl) (by kernel_rfl) rfl (fun _ _ _ _ h => h) (.int .i64 q2) (fun w' h => by simp [go_sem, z2, wq]) ?_
    simp only [Act.put, List.setIfInBounds_toArray, List.set_cons_zero, List.set_cons_succ]
    refine wpU_val 10 hKS rfl (by kernel_rfl) (by kernel_rfl) (by kernel_rfl) rfl (fun _ _ _ _ h => h) (.pointer (some ⟨g, 0, none⟩)) (fun w' h => by simp [go_sem]) ?_
    simp only [Act.put, List.setIfInBounds_toArray, List.set_cons_zero, List.set_cons_succ]
    refine wpU_val 11 hKS rfl (by kernel_rfl) (by kernel_rfl) (by kernel_rfl) rfl (fun _ _ _ _ h => h) (.pointer (some ⟨g, 0, none⟩)) (fun w' h => by simp [go_sem]) ?_
    simp only [Act.put, List.setIfInBounds_toArray, List.set_cons_zero, List.set_cons_succ]
    refine wpU_val 12 hKS rfl (by kernel_rfl) (by kernel_rfl) (by kernel_rfl) rfl (fun _ _ _ _ h => h) (.pointer (some ⟨g, 1, none⟩)) (fun w' h => by simp [go_sem]) ?_
    simp only [Act.put, List.setIfInBounds_toArray, List.set_cons_zero, List.set_cons_succ]
    refine wpU_val 13 hKS rfl (by kernel_rfl) (by kernel_rfl) (by kernel_rfl) rfl (fun _ _ _ _ h => h) (.int .i64 q3) (fun w' h => by simp [go_sem, h.1.cell 1 rfl]) ?_
    simp only [Act.put, List.setIfInBounds_toArray, List.set_cons_zero, List.set_cons_succ]
    refine wpU_val 14 hKS rfl (by kernel_rfl) (by kernel_rfl) (by kernel_rfl) rfl (fun _ _ _ _ h => h) (.slice va sz (c - q2)) (fun w' h => by simp [go_sem]; rw [if_pos (by omega), if_pos (by omega), show q3 - q2 = sz by omega, HVA.out]) ?_
    simp only [Act.put, List.setIfInBounds_toArray, List.set_cons_zero, List.set_cons_succ]
    refine wpU_one 15 rfl (by kernel_rfl) rfl ?_
    intro w6 b6 s6
    refine wp_callR 90 #[.slice va sz (c - q2)] (by simp [go_sem]) _ (cloneB_any va sz (c - q2) ((l.drop q2).take sz) w6 s6.2 (by omega)) ?_
    rintro e w7 ⟨v', rfl, ho7, hb7⟩
    refine ⟨_, rfl, hKS _ _ s6 hb7, ?_⟩
    simp only [Act.put, List.setIfInBounds_toArray, List.set_cons_zero, List.set_cons_succ]
    refine wpU_val 16 hKS rfl (by kernel_rfl) (by kernel_rfl) (by kernel_rfl) rfl (fun _ _ _ _ h => h) (v') (fun w' h => by simp [go_sem]) ?_
    simp only [Act.put, List.setIfInBounds_toArray, List.set_cons_zero, List.set_cons_succ]
    refine wpU_done (by kernel_rfl) ?_
    intro w8 b8 s8
    have b56 : But (fun k => k = g) w w8 := (b5.drew.trans (But.ofBelow (S := fun _ => False) b6) (fun k hk => hk.elim)).trans (But.ofBelow (S := fun _ => False) (hb7.trans (b8.mono hb7.size))) (fun k hk => hk.elim)
    have ho8 := (ho7.after b8).le (show w.heap.size ≤ w6.heap.size from Nat.le_trans b5.size b6.size)
    have X8 := s8.1
    clear hKS s6 s8 b6 b8 hb7 ho7 X4 X4' hvs b5
    go_wp2_with fail
    go_ret
    exact rb_yes HE.out b56 ho8 X8

end Go.Proofs.YtkbblhioncecmaaGreatDoor

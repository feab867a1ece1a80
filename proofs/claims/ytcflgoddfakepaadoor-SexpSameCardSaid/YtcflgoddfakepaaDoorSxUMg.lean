/- The program's Clone: what it computes. -/
import Derived.Test.YtcflgoddfakepaaDoorSxG6
import Derived.Test.YtcflgoddfakepaaDoorSxG2
namespace Go.Proofs.YtcflgoddfakepaaDoor
open Go.RowKit
set_option linter.unusedSimpArgs false
set_option linter.unusedVariables false

/-- the bytes of a slice may be written -/
def There1 (w : World) (a : Option Addr) (n : Nat) : Prop := n = 0 ∨ ∃ b o, a = some ⟨b, o, none⟩ ∧ w.there b o n
theorem There1.keep {w w' : World} {a : Option Addr} {n : Nat} (h : There1 w a n) {ok : Nat → Prop} (hi : InB ok a n) (hk : ∀ k, ok k → w'.heap[k]? = w.heap[k]?) : There1 w' a n := by
  rcases h with h | ⟨b, o, rfl, h⟩
  · exact .inl h
  · rcases hi with hi | hi
    · exact .inl hi
    · refine .inr ⟨b, o, rfl, fun j hj => ?_⟩
      have hb := hk b (hi b o none rfl)
      rw [World.cell?_of_block (a := ⟨b, o + j, none⟩) hb, World.frozen?_of_block (a := ⟨b, o + j, none⟩) hb]
      exact h j hj
/-- the bytes of a value itself may be written -/
def Wr1 (w : World) (v : SV) : Prop := There1 w v.a1 v.n1 ∧ There1 w v.a2 v.n2
theorem Wr1.keep {w w' : World} {v : SV} {s : Sx} (h : Wr1 w v) {ok : Nat → Prop} (hr : RdI ok w v s) (hk : ∀ k, ok k → w'.heap[k]? = w.heap[k]?) : Wr1 w' v :=
  ⟨h.1.keep hr.inb.1 hk, h.2.keep hr.inb.2.1 hk⟩
/-- a clone: of new memory alone, which may be written -/
structure CL (w : World) (B : Nat) (v : SV) (s : Sx) : Prop where
  rd : RdI (fun k => B ≤ k) w v s
  self : Wr1 w v
  row : v.n3 = 0 ∨ ∃ b o, v.a3 = some ⟨b, o, none⟩ ∧ w.there b o (v.n3 * 5)
  kids : ∃ K, RowAt w v.a3 v.n3 v.c3 K ∧ ∀ i, i < v.n3 → Wr1 w (K i) ∧ InB (fun k => B ≤ k) (K i).a1 (K i).n1 ∧ InB (fun k => B ≤ k) (K i).a2 (K i).n2
def CloneV (s : Sx) (w : World) (e : Ending) (w' : World) : Prop := ∃ v : SV, e = .returned v.val ∧ CL w' w.heap.size v s ∧ Below w.heap.size w w'

theorem OwnB.there1 {w : World} {B : Nat} {l : List UInt8} {a : Option Addr} {n c : Nat} (h : OwnB w B (.slice a n c) l) (hn : n = l.length) : There1 w a n := by
  rcases h.2 with ⟨h1, h2⟩ | ⟨g, o, cap, h1, h2, h3, h4, h5, h6, h7⟩
  · exact .inl (by omega)
  · cases h1
    refine .inr ⟨g, o, rfl, fun j hj => h6 j (by omega)⟩

set_option maxHeartbeats 2000000 in
set_option maxRecDepth 100000 in
theorem cloneO_any (a : Option Addr) (n c : Nat) (K : Nat → SV) (w : World) (hr : RowAt w a n c K) (hn : n ≤ 1000) : Calls Tryd.prog 27 #[.slice a n c] w fun e w' => ∃ v', e = .returned v' ∧ OwnG w' w.heap.size 5 v' n (newsK K n) ∧ Below w.heap.size w w' := by
  cases a with
  | none =>
    have hc := hr.2.2.1 rfl
    have hle := hr.1
    obtain rfl : n = 0 := by omega
    subst hc
    clear hle hn
    have hnn : ∀ W, (binOp .eql 23 (.slice none 0 0) (.slice none 0 0)).run Tryd.prog W = .ok (.bool true) W := fun _ => rfl
    go_enter Tryd.func27, Tryd.ntmps27
    go_wp2_with fail
    go_ret
    exact ⟨_, rfl, OwnG.nil _ _ _, Below.refl _ _⟩
  | some ad =>
    have hnn : ∀ W, (binOp .eql 23 (.slice (some ad) n c) (.slice none 0 0)).run Tryd.prog W = .ok (.bool false) W := fun _ => rfl
    have hb0 : Below w.heap.size w (w.alloc (.cells #[] 25)) := (Below.refl _ _).alloc (Nat.le_refl _) _
    have ho0 : OwnG (w.alloc (.cells #[] 25)) w.heap.size 5 (.slice (some ⟨w.heap.size, 0, none⟩) 0 0) 0 [] := OwnG.new w w.heap.size 5 (Nat.le_refl _) #[] 25 0 0 (Nat.le_refl _) (Nat.zero_le _) rfl
    have hsrc : Src Tryd.prog 5 23 (.slice (some ad) n c) n (newsK K n) (w.alloc (.cells #[] 25)) := by
      refine Src.ofSlice _ Tryd.underlying23 ad n c _ (newsK_len K n) ?_ (newsK_one K n)
      have hr' := hr.after hb0
      rcases hr'.2.2.2 with h0 | ⟨b, o, e, h4⟩
      · subst h0
        intro j u hu
        simp [newsK] at hu
      · cases e
        exact newsK_cells hr'
    have HO := Lib.hid ho0
    have HS := Lib.hid hsrc
    clear ho0 hsrc hr
    go_enter Tryd.func27, Tryd.ntmps27
    go_wp2_with (refine wpList_append_K rfl _ _ rfl rfl HO.out rfl HS.out (by omega) (by simp) ?_; intro v2 w2 ho2 hg2 hw2)
    rw [Nat.zero_add, List.nil_append] at ho2
    have hB := hb0.grown hg2 (by simp) (fun k hk => by cases hk; exact Nat.le_refl _)
    clear hg2 hw2
    go_ret
    exact ⟨v2, rfl, ho2, hB⟩

/-- the local value while its kids are cloned: B: below it nothing changes; k of them are -/
structure CLk (w u : World) (vl vh : Bool) (hi da : List UInt8) (ks : List Sx) (k : Nat) (v : SV) (K : Nat → SV) : Prop where
  l : v.l = vl ∧ v.h = vh
  X : Box u w.heap.size 25 v.cells
  R : Box u (w.heap.size + 1) 25 #[.bool false, .bool false, .slice none 0 0, .slice none 0 0, .slice none 0 0]
  h : OwnB u (w.heap.size + 2) (.slice v.a1 v.n1 v.c1) hi ∧ v.n1 = hi.length
  d : OwnB u (w.heap.size + 2) (.slice v.a2 v.n2 v.c2) da ∧ v.n2 = da.length
  row : OwnG u (w.heap.size + 2) 5 (.slice v.a3 v.n3 v.c3) v.n3 (newsK K v.n3)
  n : v.n3 = ks.length
  s1 : ∀ k, (Value.slice v.a1 v.n1 v.c1).ownBlock = some k → (Value.slice v.a3 v.n3 v.c3).ownBlock ≠ some k
  s2 : ∀ k, (Value.slice v.a2 v.n2 v.c2).ownBlock = some k → (Value.slice v.a3 v.n3 v.c3).ownBlock ≠ some k
  old : ∀ i (hi : i < ks.length), k ≤ i → Rd w (K i) ks[i]
  new : ∀ i (hi : i < ks.length), i < k → RdI (fun b => w.heap.size + 2 ≤ b ∧ (Value.slice v.a3 v.n3 v.c3).ownBlock ≠ some b) u (K i) ks[i] ∧ Wr1 u (K i)
  B : Below w.heap.size w u
theorem CLk.after {w u u' : World} {vl vh : Bool} {hi da : List UInt8} {ks : List Sx} {k : Nat} {v : SV} {K : Nat → SV} (h : CLk w u vl vh hi da ks k v K) (hb : Below u.heap.size u u') : CLk w u' vl vh hi da ks k v K :=
  ⟨h.l, h.X.after hb, h.R.after hb, ⟨h.h.1.after hb, h.h.2⟩, ⟨h.d.1.after hb, h.d.2⟩, h.row.after hb, h.n, h.s1, h.s2, h.old, fun i hi hk => ⟨(h.new i hi hk).1.after hb, (h.new i hi hk).2.keep (h.new i hi hk).1.there (fun b hb' => hb.block b hb'.2)⟩, h.B.trans (hb.mono h.B.size)⟩
/-- the k-th of them is replaced by its clone -/
theorem CLk.next {w u : World} {vl vh : Bool} {hi da : List UInt8} {ks : List Sx} {k : Nat} {v : SV} {K : Nat → SV} {b o : Nat} (h : CLk w u vl vh hi da ks k v K) (ha : v.a3 = some ⟨b, o, none⟩) (hk : k < ks.length) {z : SV} {E : Nat} (hz : RdI (fun x => E ≤ x) u z ks[k]) (hw : Wr1 u z) (hE : ∀ x, (Value.slice v.a3 v.n3 v.c3).ownBlock = some x → x < E) (hE2 : w.heap.size + 2 ≤ E) :
    u.there b (o + k * 5) 5 ∧ CLk w (u.setCells b (o + k * 5) z.cells.toList) vl vh hi da ks (k + 1) v (fun j => if j = k then z else K j) := by
  have hrow := h.row
  rw [ha] at hrow
  obtain ⟨hth, ho⟩ := hrow.setElem k (by rw [h.n]; exact hk) z
  have hbo : (Value.slice v.a3 v.n3 v.c3).ownBlock = some b := by rw [ha]; simp [Value.ownBlock]
  have hbl := h.row.lt b hbo
  have hbut := but_cells u b (o + k * 5) z.cells.toList
  have hEb := hE b hbo
  refine ⟨hth, ⟨h.l, hbut.box h.X (by omega), hbut.box h.R (by omega), ⟨h.h.1.but hbut (fun x e hx => h.s1 x e (by rw [hx]; exact hbo)), h.h.2⟩, ⟨h.d.1.but hbut (fun x e hx => h.s2 x e (by rw [hx]; exact hbo)), h.d.2⟩, by rw [ha]; exact ho, h.n, h.s1, h.s2, fun i hi hki => ?_, fun i hi hik => ?_, hbut.after h.B h.B.size (fun x hx => by omega)⟩⟩
  · rw [if_neg (by omega)]
    exact h.old i hi (by omega)
  · by_cases hik' : i = k
    · subst hik'
      rw [if_pos rfl]
      refine ⟨(hz.but hbut (fun x hx e => by omega)).mono (fun x hx => ⟨by omega, fun e => by have := hE x e; omega⟩), hw.keep hz.there (fun x hx => hbut.block x hx.2 (fun e => by have := hx.1; omega))⟩
    · rw [if_neg hik']
      have h1 := h.new i hi (by omega)
      refine ⟨h1.1.but hbut (fun x hx e => hx.2 (by rw [e]; exact hbo)), h1.2.keep h1.1.there (fun x hx => hbut.block x hx.2 (fun e => hx.1.2 (by rw [e]; exact hbo)))⟩
/-- all of them are cloned -/
theorem CLk.done {w u : World} {vl vh : Bool} {hi da : List UInt8} {ks : List Sx} {v : SV} {K : Nat → SV} (h : CLk w u vl vh hi da ks ks.length v K) {u' : World} (hb : But (fun k => k = w.heap.size + 1) u u') : CL u' w.heap.size v (.mk vl vh hi da ks) := by
  obtain ⟨a', c', e', hrow, hinb⟩ := h.row.row
  cases e'
  have hd := h.d.1.but hb (fun k e hk => by have := (h.d.1.own k e).1; omega)
  have hh := h.h.1.but hb (fun k e hk => by have := (h.h.1.own k e).1; omega)
  have hr := h.row.but hb (fun k e hk => by have := (h.row.lt k e).1; omega)
  have pb : ∀ {l : List UInt8} {a : Option Addr} {n c : Nat}, OwnB u' (w.heap.size + 2) (.slice a n c) l → n = l.length → Sl u' a n c l ∧ InB (fun k => w.heap.size ≤ k) a n ∧ There1 u' a n := fun ho hn => by
    obtain ⟨a0, n0, c0, e0, s0, i0⟩ := ho.parts
    cases e0
    exact ⟨s0, i0.mono (fun k hk => by omega), ho.there1 hn⟩
  obtain ⟨s1, i1, t1⟩ := pb hh h.h.2
  obtain ⟨s2, i2, t2⟩ := pb hd h.d.2
  obtain ⟨a3', c3', e3, hrow', hinb'⟩ := hr.row
  cases e3
  have hkid : ∀ i (hi : i < ks.length), RdI (fun b => w.heap.size ≤ b) u' (K i) ks[i] := fun i hi => ((h.new i hi hi).1.but hb (fun x hx e => by omega)).mono (fun x hx => by omega)
  obtain ⟨hl1, hl2⟩ := h.l
  refine ⟨?_, ⟨t1, t2⟩, ?_, K, hrow', fun i hi => ?_⟩
  · subst hl1 hl2
    exact .mk v hi da ks K s1 i1 s2 i2 hrow' (hinb'.mono (fun k hk => by omega)) h.n hkid
  · rcases hr.2 with ⟨e1, e2⟩ | ⟨g, o, cap, e1, e2, e3, e4, e5, e6, e7⟩
    · exact .inl e2
    · injection e1 with e1a e1b e1c
      exact .inr ⟨g, o, e1a, fun j hj => e6 j (by have := Nat.mul_le_mul_right 5 e4; omega)⟩
  · have hi' : i < ks.length := by rw [← h.n]; exact hi
    have h1 := h.new i hi' hi'
    exact ⟨h1.2.keep h1.1.there (fun x hx => hb.block x hx.2 (fun e => by omega)), (hkid i hi').inb.1, (hkid i hi').inb.2.1⟩

set_option maxHeartbeats 16000000 in
set_option maxRecDepth 100000 in
theorem clone_any (s : Sx) : ∀ (v : SV) (w : World) (m : Nat), Rd w v s → s.wide m = false → Calls Tryd.prog 16 #[v.val] w (CloneV s w) := by
  induction s using Sx.ind with
  | h l hh hi da ks ih =>
  intro v w m hr hw
  have IH := Lib.hid ih
  clear ih
  obtain ⟨_, hk7, hh5, hd5, hwk⟩ := wide_no hw
  replace hk7 : ks.length ≤ 700 := hk7
  replace hh5 : hi.length ≤ 5000 := hh5
  replace hd5 : da.length ≤ 5000 := hd5
  have HWK : Hid (∀ k ∈ ks, k.wide (m + 1) = false) := Lib.hid hwk
  clear hwk hw
  have HRR := Lib.hid hr
  obtain ⟨hvl, hvh, hs1, hs2, hn, hnc, hcm, K, hrow, hk⟩ := hr.parts
  obtain ⟨vl, vh, a1, n1, k1, a2, n2, k2, a3, n3, k3⟩ := v
  dsimp only at hn hnc hcm hrow hk hvl hvh hs1 hs2
  obtain rfl : vl = l := hvl
  obtain rfl : vh = hh := hvh
  replace hn : n3 = ks.length := hn
  replace hs1 : Sl w a1 n1 k1 hi := hs1
  replace hs2 : Sl w a2 n2 k2 da := hs2
  replace hk : ∀ i (hi : i < ks.length), RdI (fun _ => True) w (K i) ks[i] := hk
  have HK := Lib.hid hk
  have HR := Lib.hid hrow
  have HS1 := Lib.hid hs1
  have HS2 := Lib.hid hs2
  have HN3 := Lib.hid hn
  clear hk hrow hr hs1 hs2 hn
  unfold maxLen at hcm
  have hn1 : n1 ≤ 5000 := by have := HS1.out.1; omega
  have hn2 : n2 ≤ 5000 := by have := HS2.out.1; omega
  have hn3 : n3 ≤ 700 := by have := HN3.out; omega
  have B0 : Below w.heap.size w ((w.alloc (.cells #[.bool vl, .bool vh, .slice a1 n1 k1, .slice a2 n2 k2, .slice a3 n3 k3] 25)).alloc (.cells #[.bool false, .bool false, .slice none 0 0, .slice none 0 0, .slice none 0 0] 25)) := ((Below.refl _ _).alloc (Nat.le_refl _) _).alloc (by simp) _
  have X0 : Box ((w.alloc (.cells #[.bool vl, .bool vh, .slice a1 n1 k1, .slice a2 n2 k2, .slice a3 n3 k3] 25)).alloc (.cells #[.bool false, .bool false, .slice none 0 0, .slice none 0 0, .slice none 0 0] 25)) w.heap.size 25 #[.bool vl, .bool vh, .slice a1 n1 k1, .slice a2 n2 k2, .slice a3 n3 k3] := (Box.new _ _ _).alloc _
  have R00 : Box ((w.alloc (.cells #[.bool vl, .bool vh, .slice a1 n1 k1, .slice a2 n2 k2, .slice a3 n3 k3] 25)).alloc (.cells #[.bool false, .bool false, .slice none 0 0, .slice none 0 0, .slice none 0 0] 25)) (w.heap.size + 1) 25 #[.bool false, .bool false, .slice none 0 0, .slice none 0 0, .slice none 0 0] := by
    have := Box.new (w.alloc (.cells #[.bool vl, .bool vh, .slice a1 n1 k1, .slice a2 n2 k2, .slice a3 n3 k3] 25)) 25 #[.bool false, .bool false, .slice none 0 0, .slice none 0 0, .slice none 0 0]
    simpa using this
  have HZ0 : Hid ((((w.alloc (.cells #[.bool vl, .bool vh, .slice a1 n1 k1, .slice a2 n2 k2, .slice a3 n3 k3] 25)).alloc (.cells #[.bool false, .bool false, .slice none 0 0, .slice none 0 0, .slice none 0 0] 25))).heap.size = w.heap.size + 2) := Lib.hid (by simp)
  have S1 := HS1.out.after B0
  have S2 := HS2.out.after B0
  have R0 := HR.out.after B0
  show Calls _ _ #[.agg #[.bool vl, .bool vh, .slice a1 n1 k1, .slice a2 n2 k2, .slice a3 n3 k3]] _ _
  go_enter Tryd.func16, Tryd.ntmps16
  go_upto_region 1 with fail
  change Code.wp _ _ _ _ ((w.alloc (.cells #[.bool vl, .bool vh, .slice a1 n1 k1, .slice a2 n2 k2, .slice a3 n3 k3] 25)).alloc (.cells #[.bool false, .bool false, .slice none 0 0, .slice none 0 0, .slice none 0 0] 25))
  generalize ((w.alloc (.cells #[.bool vl, .bool vh, .slice a1 n1 k1, .slice a2 n2 k2, .slice a3 n3 k3] 25)).alloc (.cells #[.bool false, .bool false, .slice none 0 0, .slice none 0 0, .slice none 0 0] 25)) = u0 at *
  have hKS : Keeps (fun w' => Box w' w.heap.size 25 #[.bool vl, .bool vh, .slice a1 n1 k1, .slice a2 n2 k2, .slice a3 n3 k3] ∧ Sl w' a1 n1 k1 hi ∧ Sl w' a2 n2 k2 da ∧ RowAt w' a3 n3 k3 K) := fun w1 w2 h b => ⟨h.1.after b, h.2.1.after b, h.2.2.1.after b, h.2.2.2.after b⟩
  refine wp_region_W (w := u0) [10, 12, 14] (fun w' => Box w' w.heap.size 25 #[.bool vl, .bool vh, .slice a1 n1 k1, .slice a2 n2 k2, .slice a3 n3 k3] ∧ Sl w' a1 n1 k1 hi ∧ Sl w' a2 n2 k2 da ∧ RowAt w' a3 n3 k3 K) rfl (hKS _ _ ⟨X0, S1, S2, R0⟩ (Below.refl _ _).drew) ?_
  refine wpW_val 0 hKS rfl (by kernel_rfl) (by kernel_rfl) (by kernel_rfl) (by kernel_rfl) rfl (fun _ _ _ _ h => h) (.pointer (some ⟨w.heap.size, 2, none⟩)) (fun w' h => by simp [go_sem]) ?_
  simp only [Act.put, List.setIfInBounds_toArray, List.set_cons_zero, List.set_cons_succ]
  refine wpW_val 1 hKS rfl (by kernel_rfl) (by kernel_rfl) (by kernel_rfl) (by kernel_rfl) rfl (fun _ _ _ _ h => h) (.slice a1 n1 k1) (fun w' h => by simp [go_sem, h.1.cell 2 rfl]) ?_
  simp only [Act.put, List.setIfInBounds_toArray, List.set_cons_zero, List.set_cons_succ]
  refine wpW_val 3 hKS rfl (by kernel_rfl) (by kernel_rfl) (by kernel_rfl) (by kernel_rfl) rfl (fun _ _ _ _ h => h) (.pointer (some ⟨w.heap.size, 3, none⟩)) (fun w' h => by simp [go_sem]) ?_
  simp only [Act.put, List.setIfInBounds_toArray, List.set_cons_zero, List.set_cons_succ]
  refine wpW_val 4 hKS rfl (by kernel_rfl) (by kernel_rfl) (by kernel_rfl) (by kernel_rfl) rfl (fun _ _ _ _ h => h) (.slice a2 n2 k2) (fun w' h => by simp [go_sem, h.1.cell 3 rfl]) ?_
  simp only [Act.put, List.setIfInBounds_toArray, List.set_cons_zero, List.set_cons_succ]
  refine wpW_val 6 hKS rfl (by kernel_rfl) (by kernel_rfl) (by kernel_rfl) (by kernel_rfl) rfl (fun _ _ _ _ h => h) (.pointer (some ⟨w.heap.size, 4, none⟩)) (fun w' h => by simp [go_sem]) ?_
  simp only [Act.put, List.setIfInBounds_toArray, List.set_cons_zero, List.set_cons_succ]
  refine wpW_val 7 hKS rfl (by kernel_rfl) (by kernel_rfl) (by kernel_rfl) (by kernel_rfl) rfl (fun _ _ _ _ h => h) (.slice a3 n3 k3) (fun w' h => by simp [go_sem, h.1.cell 4 rfl]) ?_
  simp only [Act.put, List.setIfInBounds_toArray, List.set_cons_zero, List.set_cons_succ]
  refine wpW_one 2 rfl (by kernel_rfl) rfl rfl ?_
  intro w3 b3 s3
  refine wp_callR 28 #[.slice a1 n1 k1] (by simp [go_sem]) _ (bclone_any a1 n1 k1 hi w3 s3.2.1 (by omega)) ?_
  rintro e w4 ⟨v4, rfl, ho4, hb4⟩
  obtain ⟨p1, q1, rfl, _⟩ := ho4.sl
  refine ⟨_, rfl, hKS _ _ s3 hb4, ?_⟩
  simp only [Act.put, List.setIfInBounds_toArray, List.set_cons_zero, List.set_cons_succ]
  refine wpW_free 9 hKS rfl (by kernel_rfl) (by kernel_rfl) (by kernel_rfl) (by kernel_rfl) rfl (fun _ _ _ _ h => h) (.pointer (some ⟨w.heap.size, 2, none⟩)) (fun w' => by simp [go_sem]) ?_
  simp only [Act.put, List.setIfInBounds_toArray, List.set_cons_zero, List.set_cons_succ]
  refine wpW_one 5 rfl (by kernel_rfl) rfl rfl ?_
  intro w5 b5 s5
  refine wp_callR 28 #[.slice a2 n2 k2] (by simp [go_sem]) _ (bclone_any a2 n2 k2 da w5 s5.2.2.1 (by omega)) ?_
  rintro e w6 ⟨v6, rfl, ho6, hb6⟩
  obtain ⟨p2, q2, rfl, _⟩ := ho6.sl
  refine ⟨_, rfl, hKS _ _ s5 hb6, ?_⟩
  simp only [Act.put, List.setIfInBounds_toArray, List.set_cons_zero, List.set_cons_succ]
  refine wpW_one 8 rfl (by kernel_rfl) rfl rfl ?_
  intro w7 b7 s7
  refine wp_callR 27 #[.slice a3 n3 k3] (by simp [go_sem]) _ (cloneO_any a3 n3 k3 K w7 s7.2.2.2 (by omega)) ?_
  rintro e w8 ⟨v8, rfl, ho8, hb8⟩
  obtain ⟨p3, q3, rfl⟩ := ho8.shape
  refine ⟨_, rfl, hKS _ _ s7 hb8, ?_⟩
  simp only [Act.put, List.setIfInBounds_toArray, List.set_cons_zero, List.set_cons_succ]
  refine wpW_write 10 rfl (by kernel_rfl) (by kernel_rfl) rfl ?_
  intro w9 b9 s9
  refine wp_store_slice 22 _ _ rfl rfl rfl (s9.1.cell 2 rfl) (s9.1.frozen 2) (fun w => by simp [go_sem]) ?_
  simp only [Act.put, List.setIfInBounds_toArray, List.set_cons_zero, List.set_cons_succ]
  refine wpU_val 11 keeps_true rfl (by kernel_rfl) (by kernel_rfl) (by kernel_rfl) rfl (fun _ _ _ _ h => h) (.pointer (some ⟨w.heap.size, 3, none⟩)) (fun w' h => by simp [go_sem]) ?_
  simp only [Act.put, List.setIfInBounds_toArray, List.set_cons_zero, List.set_cons_succ]
  refine wpU_one 12 rfl (by kernel_rfl) rfl ?_
  intro w11 b11 _
  have X11 := (s9.1.set 2 (.slice p1 hi.length q1)).after b11
  refine wp_store_slice 22 _ _ rfl rfl rfl (X11.cell 3 rfl) (X11.frozen 3) (fun w => by simp [go_sem]) ?_
  refine ⟨trivial, ?_⟩
  simp only [Act.put, List.setIfInBounds_toArray, List.set_cons_zero, List.set_cons_succ]
  refine wpU_val 13 keeps_true rfl (by kernel_rfl) (by kernel_rfl) (by kernel_rfl) rfl (fun _ _ _ _ h => h) (.pointer (some ⟨w.heap.size, 4, none⟩)) (fun w' h => by simp [go_sem]) ?_
  simp only [Act.put, List.setIfInBounds_toArray, List.set_cons_zero, List.set_cons_succ]
  refine wpU_one 14 rfl (by kernel_rfl) rfl ?_
  intro w13 b13 _
  have X13 := (X11.set 3 (.slice p2 da.length q2)).after b13
  refine wp_store_slice 23 _ _ rfl rfl rfl (X13.cell 4 rfl) (X13.frozen 4) (fun w => by simp [go_sem]) ?_
  refine ⟨trivial, ?_⟩
  simp only [Act.put, List.setIfInBounds_toArray, List.set_cons_zero, List.set_cons_succ]
  refine wpU_done (by kernel_rfl) ?_
  intro w15 b15 _
  have X15 : Box w15 w.heap.size 25 #[.bool vl, .bool vh, .slice p1 hi.length q1, .slice p2 da.length q2, .slice p3 n3 q3] := (X13.set 4 (.slice p3 n3 q3)).after b15
  have ev : ∀ u v : World, Below u.heap.size u v → But (fun k => k = w.heap.size) u v := fun u v h => But.ofBelow h
  have N : ∀ k, k = w.heap.size → k = w.heap.size ∨ w4.heap.size ≤ k := fun k hk => .inl hk
  have t815 : But (fun k => k = w.heap.size) w8 w15 := ((((((ev _ _ b9).trans (but_cell w9 ⟨w.heap.size, 2, none⟩ (.slice p1 hi.length q1)) (fun k hk => .inl hk)).trans (ev _ _ b11) (fun k hk => .inl hk)).trans (but_cell w11 ⟨w.heap.size, 3, none⟩ (.slice p2 da.length q2)) (fun k hk => .inl hk)).trans (ev _ _ b13) (fun k hk => .inl hk)).trans (but_cell w13 ⟨w.heap.size, 4, none⟩ (.slice p3 n3 q3)) (fun k hk => .inl hk)).trans (ev _ _ b15) (fun k hk => .inl hk)
  have t615 : But (fun k => k = w.heap.size) w6 w15 := (ev _ _ (b7.trans (hb8.mono b7.size))).trans t815 (fun k hk => .inl hk)
  have t415 : But (fun k => k = w.heap.size) w4 w15 := (ev _ _ (b5.trans (hb6.mono b5.size))).trans t615 (fun k hk => .inl hk)
  have t015 : But (fun k => k = w.heap.size) u0 w15 := (ev _ _ ((Below.refl _ _).drew.trans (b3.trans (hb4.mono b3.size)))).trans t415 (fun k hk => .inl hk)
  have z3 : w.heap.size + 2 ≤ w3.heap.size := by have := b3.size; have := HZ0.out; simp at *; omega
  have z5 : w4.heap.size ≤ w5.heap.size := b5.size
  have z7 : w6.heap.size ≤ w7.heap.size := b7.size
  have z34 := hb4.size
  have z56 := hb6.size
  have HCL : Hid (CLk w w15 vl vh hi da ks 0 ⟨vl, vh, p1, hi.length, q1, p2, da.length, q2, p3, n3, q3⟩ K) := Lib.hid ⟨⟨rfl, rfl⟩, X15, t015.box R00 (by omega), ⟨(ho4.but t415 (fun k e hk => by have := ho4.own k e; omega)).le z3, rfl⟩, ⟨(ho6.but t615 (fun k e hk => by have := ho6.own k e; omega)).le (by omega), rfl⟩, (ho8.but t815 (fun k e hk => by have := ho8.lt k e; omega)).le (by omega), HN3.out,
    fun k e e2 => by have := ho4.own k e; have := ho8.lt k e2; omega, fun k e e2 => by have := ho6.own k e; have := ho8.lt k e2; omega, fun i hi _ => HK.out i hi, fun i hi h => by omega, t015.after B0 B0.size (fun k hk => by omega)⟩
  have y4 : w15.cell? ⟨w.heap.size, 4, none⟩ = some (.slice p3 n3 q3) := X15.cell 4 rfl
  clear hKS b3 s3 ho4 hb4 b5 s5 ho6 hb6 b7 s7 ho8 hb8 b9 s9 b11 X11 b13 X13 b15 ev N t815 t615 t415 t015 z3 z5 z7 z34 z56 X15 X0 R00 B0 S1 S2 R0
  go_wp2_with fail
  go_loopw [20] (fun i wr => ∃ (k : Nat) (K' : Nat → SV), k ≤ n3 ∧ i = .int .i64 k ∧ Hid (CLk w wr vl vh hi da ks k ⟨vl, vh, p1, hi.length, q1, p2, da.length, q2, p3, n3, q3⟩ K')) (fun i _ => n3 - (intOf i).toNat)
  case atStart => exact ⟨0, K, Nat.zero_le _, rfl, HCL⟩
  case round =>
    obtain ⟨k, K', hkn, rfl, HC⟩ := hrel
    clear HCL y4
    by_cases hlt : k < n3
    · have gk : k < ks.length := by have := HN3.out; omega
      obtain ⟨b, o, rfl, hle, hmx⟩ := OwnG.at_ HC.out.row (by show 0 < n3; omega)
      have hld : wr.rangeAt b (o + k * 5) (K' k).cells.toList := by
        obtain ⟨a', c', e', hrow, _⟩ := HC.out.row.row
        cases e'
        exact hrow.rangeA hlt
      have hrd := HC.out.old k gk (Nat.le_refl _)
      obtain ⟨vk, hvk⟩ : ∃ vk, vk = K' k := ⟨_, rfl⟩
      rw [← hvk] at hld hrd
      have HRK := Lib.hid hrd
      have HIH := Lib.hid (fun (w' : World) (hb : Below w.heap.size w w') => IH.out ks[k] (List.getElem_mem gk) vk w' (m + 1) (HRK.out.after hb) (HWK.out _ (List.getElem_mem gk)))
      clear hvk hrd
      obtain ⟨el, eh, e1, f1, g1, e2, f2, g2, e3, f3, g3⟩ := vk
      go_upto_region 5 with (refine wpList_load_sv rfl _ rfl b _ rfl _ hld ?_; simp only [SV.val])
      have hA : Below wr.heap.size wr (wr.alloc (.cells #[.bool el, .bool eh, .slice e1 f1 g1, .slice e2 f2 g2, .slice e3 f3 g3] 25)) := (Below.refl _ _).alloc (Nat.le_refl _) _
      have Y1 := Box.new wr 25 #[.bool el, .bool eh, .slice e1 f1 g1, .slice e2 f2 g2, .slice e3 f3 g3]
      have C1 := HC.out.after hA
      change Code.wp _ _ _ _ (wr.alloc (.cells #[.bool el, .bool eh, .slice e1 f1 g1, .slice e2 f2 g2, .slice e3 f3 g3] 25))
      generalize (wr.alloc (.cells #[.bool el, .bool eh, .slice e1 f1 g1, .slice e2 f2 g2, .slice e3 f3 g3] 25)) = z1 at *
      generalize wr.heap.size = y at *
      clear hld hA
      have hKS : Keeps (fun w' => Box w' y 25 #[.bool el, .bool eh, .slice e1 f1 g1, .slice e2 f2 g2, .slice e3 f3 g3] ∧ CLk w w' vl vh hi da ks k ⟨vl, vh, p1, hi.length, q1, p2, da.length, q2, some ⟨b, o, none⟩, n3, q3⟩ K') := fun w1 w2 h hb => ⟨h.1.after hb, h.2.after hb⟩
      refine wp_region_W (w := z1) [6] (fun w' => Box w' y 25 #[.bool el, .bool eh, .slice e1 f1 g1, .slice e2 f2 g2, .slice e3 f3 g3] ∧ CLk w w' vl vh hi da ks k ⟨vl, vh, p1, hi.length, q1, p2, da.length, q2, some ⟨b, o, none⟩, n3, q3⟩ K') rfl (hKS _ _ ⟨Y1, C1⟩ (Below.refl _ _).drew) ?_
      refine wpW_val 0 hKS rfl (by kernel_rfl) (by kernel_rfl) (by kernel_rfl) (by kernel_rfl) rfl (fun _ _ _ _ h => h) (.pointer (some ⟨w.heap.size, 4, none⟩)) (fun w' h => by simp [go_sem]) ?_
      simp only [Act.put, List.setIfInBounds_toArray, List.set_cons_zero, List.set_cons_succ]
      refine wpW_val 1 hKS rfl (by kernel_rfl) (by kernel_rfl) (by kernel_rfl) (by kernel_rfl) rfl (fun _ _ _ _ h => h) (.slice (some ⟨b, o, none⟩) n3 q3) (fun w' h => by have q : w'.cell? ⟨w.heap.size, 4, none⟩ = some (.slice (some ⟨b, o, none⟩) n3 q3) := h.2.X.cell 4 rfl; simp [go_sem, q]) ?_
      simp only [Act.put, List.setIfInBounds_toArray, List.set_cons_zero, List.set_cons_succ]
      refine wpW_val 2 hKS rfl (by kernel_rfl) (by kernel_rfl) (by kernel_rfl) (by kernel_rfl) rfl (fun _ _ _ _ h => h) (.int .i64 k) (fun w' h => by simp [go_sem]) ?_
      simp only [Act.put, List.setIfInBounds_toArray, List.set_cons_zero, List.set_cons_succ]
      refine wpW_val 3 hKS rfl (by kernel_rfl) (by kernel_rfl) (by kernel_rfl) (by kernel_rfl) rfl (fun _ _ _ _ h => h) (.agg #[.bool el, .bool eh, .slice e1 f1 g1, .slice e2 f2 g2, .slice e3 f3 g3]) (fun w' h => run_load_box rfl h.1 (by rfl) Tryd.underlying25 rfl (by kernel_rfl)) ?_
      simp only [Act.put, List.setIfInBounds_toArray, List.set_cons_zero, List.set_cons_succ]
      refine wpW_one 4 rfl (by kernel_rfl) rfl rfl ?_
      intro w3 b3 s3
      refine wp_callR 16 #[.agg #[.bool el, .bool eh, .slice e1 f1 g1, .slice e2 f2 g2, .slice e3 f3 g3]] (by simp [go_sem]) _ (HIH.out w3 s3.2.B) ?_
      rintro e w4 ⟨vz, rfl, cl4, hb4⟩
      refine ⟨_, rfl, hKS _ _ s3 hb4, ?_⟩
      simp only [Act.put, List.setIfInBounds_toArray, List.set_cons_zero, List.set_cons_succ]
      refine wpW_free 5 hKS rfl (by kernel_rfl) (by kernel_rfl) (by kernel_rfl) (by kernel_rfl) rfl (fun _ _ _ _ h => h) (.pointer (some ⟨b, o + k * 5, none⟩)) (fun w' => by simp [go_sem]; intro hh; omega) ?_
      simp only [Act.put, List.setIfInBounds_toArray, List.set_cons_zero, List.set_cons_succ]
      refine wpW_write 6 rfl (by kernel_rfl) (by kernel_rfl) rfl ?_
      intro w5 b5 s5
      have cl5 : RdI (fun x => w3.heap.size ≤ x) w5 vz ks[k] := cl4.rd.after b5
      have wr5 : Wr1 w5 vz := cl4.self.keep cl4.rd.there (fun x hx => b5.block x hx.2)
      obtain ⟨hth, HC5⟩ := s5.2.next rfl gk cl5 wr5 (fun x e => (s3.2.row.lt x e).2) (by have := s3.2.R.lt; omega)
      refine wp_store_elem 25 _ _ rfl b (o + k * 5) vz rfl rfl hth (by kernel_rfl) ?_
      simp only [Act.put, List.setIfInBounds_toArray, List.set_cons_zero, List.set_cons_succ]
      refine wpU_done (by kernel_rfl) ?_
      intro w6 b6 _
      have HC6 := Lib.hid (HC5.after b6)
      clear hKS b3 s3 cl4 hb4 b5 s5 cl5 wr5 hth HC5 b6 Y1 C1 HC
      go_wp2_with fail
      go_roundw
      case rel => exact ⟨k + 1, _, by omega, by go_num, HC6⟩
      case measure => simp [intOf]; omega
    · have hkk : k = ks.length := by have := HN3.out; omega
      have HX := Lib.hid HC.out.X
      have HR9 := Lib.hid HC.out.R
      go_wp2_with first | (refine wpList_load_box rfl 25 _ rfl HX.out (by rfl) Tryd.underlying25 rfl (by kernel_rfl) ?_) | (refine wpList_store_box (cells := #[.bool vl, .bool vh, .slice p1 hi.length q1, .slice p2 da.length q2, .slice p3 n3 q3]) rfl 25 _ _ rfl HR9.out (by rfl) (by rfl) rfl (by kernel_rfl) (by simp [Value.oneCell']) ?_; intro u9 X9 st9)
      have b9 : But (fun k => k = w.heap.size + 1) wr u9 := But.ofStored st9 (st9.below 0 wr (Nat.zero_le _) (Below.refl _ _))
      subst hkk
      exact bodyPost_ret (v := .agg #[.bool vl, .bool vh, .slice p1 hi.length q1, .slice p2 da.length q2, .slice p3 n3 q3]) (box_result rfl _ _ (by rfl) X9 Tryd.underlying25 rfl (by kernel_rfl)) rfl ⟨⟨vl, vh, p1, hi.length, q1, p2, da.length, q2, p3, n3, q3⟩, rfl, HC.out.done b9, b9.after HC.out.B HC.out.B.size (fun k hk => by omega)⟩

end Go.Proofs.YtcflgoddfakepaaDoor

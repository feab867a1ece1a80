/- The program's reader: next: lists begin and end. The program's reader: value: what it computes. The program's Get: what it computes. The program's Get, of few bytes. An argument that is an S-expression: opened to its cells, as a tree. -/
import Derived.Test.YtcflgoddfakepaaDoorSxG6
import Derived.ChangeSlices
import Derived.WideShapes
import Derived.Deep.Slices
namespace Go.Proofs.YtcflgoddfakepaaDoor
open Go.RowKit
set_option linter.unusedSimpArgs false
set_option linter.unusedVariables false

/-- behind push -/
structure PF (w w' : World) (g q : Nat) (a : Option Addr) (n c p m : Nat) (vo v' : Value) (L : Nat → Lev) (d : Nat) : Prop where
  X : Box w' w.heap.size 25 #[.bool false, .bool false, .slice none 0 0, .slice none 0 0, .slice none 0 0]
  R : Box w' g 59 (RdC a n c p m v')
  S : Stt w' q v' L d
  B : But (fun k => k = g ∨ vo.ownBlock = some k) w w'
  v1 : ∀ k, v'.ownBlock = some k → vo.ownBlock = some k ∨ w.heap.size ≤ k
  v2 : ∀ k, v'.ownBlock = some k → k ≠ w.heap.size
  hg : g < w.heap.size

set_option maxHeartbeats 8000000 in
set_option maxRecDepth 100000 in
theorem next_opens (g q : Nat) (hq : g ≤ q) (a : Option Addr) (n c : Nat) (l : List UInt8) (p m : Nat) (ao : Option Addr) (d co : Nat) (L : Nat → Lev) (w : World) (hqw : q < w.heap.size) (hX : Box w g 59 (RdC a n c p m (.slice ao d co))) (hS : Stt w q (.slice ao d co) L d) (hs : Sl w a n c l)
    (hi : InB (fun k => ¬ k = g) a n) (hn : n ≤ 100000) (hp : p ≤ n) (hm : m ≤ 512) (hd : d ≤ 16) (hpn : p < n) (hbyte : l.getD p 0 = 40) :
    Calls Tryd.prog 38 #[.pointer (some ⟨g, 0, none⟩)] w (NextP g q a n c l p m L d w) := by
  have HL := Lib.hid hs.1
  have hlen : n = l.length := hs.1
  have HI := Lib.hid hi
  have NX0 := Nx.start hq hX hS hs
  have HSW := Lib.hid hS
  have HA0 : Hid (InB (fun k => k < w.heap.size) a n) := Lib.hid hs.inB
  obtain ⟨b, o, ha⟩ : ∃ b o, a = some ⟨b, o, none⟩ := by
    rcases hs.2.2.2.2 with h0 | ⟨b, o, e, _⟩
    · omega
    · exact ⟨b, o, e⟩
  have hpI : (p : Int) < (n : Int) := by omega
  have q0 := NX0.byte ha hpn
  obtain ⟨ch, hch⟩ : ∃ ch, ch = l.getD p 0 := ⟨_, rfl⟩
  rw [← hch] at q0
  rw [← hch] at hbyte
  have HCH := Lib.hid hch
  have HB := Lib.hid hbyte
  have HLE := Lib.hid hlen
  clear hs hX hS hch hlen hi
  subst ha
  have x0 := NX0.x0
  have x1 := NX0.x1
  replace NX0 := Lib.hid NX0
  have H40 : Hid (ch = 40) := Lib.hid hbyte
  obtain ⟨z1, z2, z3⟩ := bEq (a := ch) 40 40 rfl (by rw [hbyte]; rfl)
  clear hbyte
  go_enter Tryd.func38, Tryd.ntmps38
  go_upto_region 1 with fail
  change Code.wp _ _ _ _ (w.alloc (.cells #[.bool false, .bool false, .slice none 0 0, .slice none 0 0, .slice none 0 0] 25))
  generalize (w.alloc (.cells #[.bool false, .bool false, .slice none 0 0, .slice none 0 0, .slice none 0 0] 25)) = u0 at *
  go_quiet (fail)
  have NX1 := Lib.hid (NX0.out.drewN nq)
  have y0 := NX1.out.x0
  have y1 := NX1.out.x1
  have q1 : (u0.drewN nq).cell? ⟨b, o + p, none⟩ = some (.int .u8 (ch.toNat : Int)) := q0
  generalize u0.drewN nq = u1 at *
  clear NX0 x0 x1 q0
  go_upto_region 3 with fail
  go_quiet (fail)
  have NX2 := Lib.hid (NX1.out.drewN nq)
  have x1 := NX2.out.x1
  have x3 := NX2.out.x3
  generalize u1.drewN nq = u2 at *
  clear NX1 y0 y1 q1
  go_wp2_with fail
  refine (begins_any g (some ⟨b, o, none⟩) n c p m ao d co true u2 NX2.out.R (by omega) (by omega)).mono ?_
  rintro e w3 ⟨b3, ⟨hov, rfl⟩ | ⟨hov, rfl, R3⟩⟩
  · unfold FaultE
    exact ⟨rfl, NX2.out.bel.trans b3 (fun k hk => .inl (.inl hk)), .inl ⟨RV.err p 4, by simp [RV.err], rfl, Mach.long (by have := HLE.out; omega) (by rw [← HCH.out, H40.out]; exact .inl rfl) (hov.imp id (fun h => ⟨by rw [← HCH.out]; exact H40.out, by rw [stk_length]; exact h.2⟩))⟩⟩
  have NX3 := Lib.hid (NX2.out.but HI.out b3 R3)
  have hm1 : m + 1 ≤ 512 := by
    rcases Nat.lt_or_ge 512 (m + 1) with h | h
    · exact absurd (.inl h) hov
    · exact h
  have hd1 : d + 1 ≤ 16 := by
    rcases Nat.lt_or_ge d 16 with h | h
    · omega
    · exact absurd (.inr ⟨rfl, h⟩) hov
  clear b3 R3 hov NX2 x1 x3
  have y1 := NX3.out.x1
  have f1 := NX3.out.R.frozen 1
  go_upto_region 7 with fail
  have NX4 := Lib.hid (NX3.out.but HI.out (but_set 1 (.int .i64 ((p : Int) + 1))) (NX3.out.R.set 1 _) : Nx w (w3.setCell ⟨g, 1, none⟩ (.int .i64 ((p : Int) + 1))) g q (some ⟨b, o, none⟩) n c l (p + 1) (m + 1) (.slice ao d co) L d)
  have IDX : Hid (∀ x : Nat, x = x) := Lib.hid fun x => rfl
  change Code.wp _ _ _ _ (w3.setCell ⟨g, 1, none⟩ (.int .i64 ((p : Int) + 1)))
  generalize w3.setCell ⟨g, 1, none⟩ (.int .i64 ((p : Int) + 1)) = u4 at *
  clear NX3 y1 f1
  have hKS : Keeps (fun w' => Nx w w' g q (some ⟨b, o, none⟩) n c l (p + 1) (m + 1) (.slice ao d co) L d) := fun w1 w2 h b => h.after b
  refine wp_region_W (w := u4) [7, 9, 12] (fun w' => Nx w w' g q (some ⟨b, o, none⟩) n c l (p + 1) (m + 1) (.slice ao d co) L d) rfl (NX4.out.after (Below.refl _ _).drew) ?_
  refine wpW_val 0 hKS rfl (by kernel_rfl) (by kernel_rfl) (by kernel_rfl) (by kernel_rfl) rfl (fun _ _ _ _ h => h) (.pointer (some ⟨g, 0, none⟩)) (fun w' h => by simp [go_sem]) ?_
  simp only [Act.put, List.setIfInBounds_toArray, List.set_cons_zero, List.set_cons_succ]
  refine wpW_val 1 hKS rfl (by kernel_rfl) (by kernel_rfl) (by kernel_rfl) (by kernel_rfl) rfl (fun _ _ _ _ h => h) (.pointer (some ⟨g, 0, none⟩)) (fun w' h => by simp [go_sem]) ?_
  simp only [Act.put, List.setIfInBounds_toArray, List.set_cons_zero, List.set_cons_succ]
  refine wpW_val 2 hKS rfl (by kernel_rfl) (by kernel_rfl) (by kernel_rfl) (by kernel_rfl) rfl (fun _ _ _ _ h => h) (.pointer (some ⟨g, 3, none⟩)) (fun w' h => by simp [go_sem]) ?_
  simp only [Act.put, List.setIfInBounds_toArray, List.set_cons_zero, List.set_cons_succ]
  refine wpW_val 3 hKS rfl (by kernel_rfl) (by kernel_rfl) (by kernel_rfl) (by kernel_rfl) rfl (fun _ _ _ _ h => h) (.slice ao d co) (fun w' h => by simp [go_sem, h.x3]) ?_
  simp only [Act.put, List.setIfInBounds_toArray, List.set_cons_zero, List.set_cons_succ]
  refine wpW_free 4 hKS rfl (by kernel_rfl) (by kernel_rfl) (by kernel_rfl) (by kernel_rfl) rfl (fun _ _ _ _ h => h) (.agg #[.bool true, .bool false, .slice none 0 0, .slice none 0 0, .slice none 0 0]) (fun w' => by simp [go_sem]) ?_
  simp only [Act.put, List.setIfInBounds_toArray, List.set_cons_zero, List.set_cons_succ]
  refine wpW_free 5 hKS rfl (by kernel_rfl) (by kernel_rfl) (by kernel_rfl) (by kernel_rfl) rfl (fun _ _ _ _ h => h) (.int .i64 d) (fun w' => by simp [go_sem]) ?_
  simp only [Act.put, List.setIfInBounds_toArray, List.set_cons_zero, List.set_cons_succ]
  refine wpW_one 6 rfl (by kernel_rfl) (by kernel_rfl) rfl ?_
  intro w5 b5 s5
  refine wp_of_run (.slice (some ⟨w5.heap.size, 0, none⟩) 1 1) (w5.alloc (.cells SV.nil.cells 25)) (by simp [go_sem]; rfl) ?_
  refine ⟨hKS _ _ s5 ((Below.refl _ _).alloc (Nat.le_refl _) _), ?_⟩
  simp only [Act.put, List.setIfInBounds_toArray, List.set_cons_zero, List.set_cons_succ]
  refine wpW_write 7 rfl (by kernel_rfl) (by kernel_rfl) rfl ?_
  intro w6 b6 s6
  have hsrc := src_box SV.nil ((Box.new w5 25 SV.nil.cells).after b6)
  refine wp_append_K _ _ rfl rfl s6.S.own rfl hsrc (by omega) (by have := s6.X.lt; omega) ?_
  intro v7 w7 ho7 hg7 hw7
  rw [newsK_snoc] at ho7
  obtain ⟨ao7, co7, rfl, _⟩ := ho7.row
  obtain ⟨b7, o7, rfl, hle7, hmx7⟩ := ho7.at_ (by omega)
  simp only [Act.put, List.setIfInBounds_toArray, List.set_cons_zero, List.set_cons_succ]
  refine wpU_val 8 keeps_true rfl (by kernel_rfl) (by kernel_rfl) (by kernel_rfl) rfl (fun _ _ _ _ h => h) (.pointer (some ⟨b7, o7 + d * 5, none⟩)) (fun w' h => by simp [go_sem]; intro hh; omega) ?_
  simp only [Act.put, List.setIfInBounds_toArray, List.set_cons_zero, List.set_cons_succ]
  refine wpU_val 10 keeps_true rfl (by kernel_rfl) (by kernel_rfl) (by kernel_rfl) rfl (fun _ _ _ _ h => h) (.pointer (some ⟨g, 0, none⟩)) (fun w' h => by simp [go_sem]) ?_
  simp only [Act.put, List.setIfInBounds_toArray, List.set_cons_zero, List.set_cons_succ]
  refine wpU_val 11 keeps_true rfl (by kernel_rfl) (by kernel_rfl) (by kernel_rfl) rfl (fun _ _ _ _ h => h) (.pointer (some ⟨g, 3, none⟩)) (fun w' h => by simp [go_sem]) ?_
  simp only [Act.put, List.setIfInBounds_toArray, List.set_cons_zero, List.set_cons_succ]
  have hB7 : ∀ W, Below w7.heap.size w7 W → Box W g 59 (RdC (some ⟨b, o, none⟩) n c (p + 1) (m + 1) (.slice ao d co)) := fun W hW => (push_end' hq s6.S s6.R hg7 hw7 ho7 hW (Below.refl _ _) (Below.refl _ _)).1
  have FIN : ∀ w10, But (fun k => k = g ∨ (Value.slice ao d co).ownBlock = some k) w6 w10 → Stt w10 q (.slice (some ⟨b7, o7, none⟩) (d + 1) co7) (updL L d Lev.new) (d + 1) → Box w10 g 59 (RdC (some ⟨b, o, none⟩) n c (p + 1) (m + 1) (.slice (some ⟨b7, o7, none⟩) (d + 1) co7)) → PF w w10 g q (some ⟨b, o, none⟩) n c (p + 1) (m + 1) (.slice ao d co) (.slice (some ⟨b7, o7, none⟩) (d + 1) co7) (updL L d Lev.new) (d + 1) := fun w10 B10 S10 R10 =>
    ⟨B10.box s6.X (by
      intro e
      rcases e with e | e
      · have := s6.hg; omega
      · have := s6.hv _ e; omega), R10, S10, (s6.nb.mono (fun k hk => .inl hk)).trans B10 (fun k hk => .inl hk), fun k e => (hw7 k e).imp id (fun h => Nat.le_trans s6.nb.size h), fun k e => (hw7 k e).elim (fun e => by have := s6.hv k e; omega) (fun h => by have := s6.X.lt; omega), s6.hg⟩
  refine wpU_two 9 12 rfl rfl (by kernel_rfl) rfl rfl ?_ ?_
  · intro w8 b8 _
    obtain ⟨hth, ho8⟩ := (ho7.after b8).setElem d (by omega) Lev.new.sv
    refine wp_store_elem 25 _ _ rfl b7 (o7 + d * 5) Lev.new.sv rfl rfl hth (by kernel_rfl) ?_
    refine ⟨trivial, ?_⟩
    simp only [Act.put, List.setIfInBounds_toArray, List.set_cons_zero, List.set_cons_succ]
    refine wpU_one 12 rfl (by kernel_rfl) rfl ?_
    intro w9 b9 _
    have R9 := (push_end hq s6.S s6.R hg7 hw7 ho7 b8 b9 (Below.refl _ _)).1
    refine wp_store_slice 23 _ _ rfl rfl rfl (R9.cell 3 rfl) (R9.frozen 3) (fun w => by simp [go_sem]) ?_
    refine ⟨trivial, ?_⟩
    simp only [Act.put, List.setIfInBounds_toArray, List.set_cons_zero, List.set_cons_succ]
    refine wpU_done (by kernel_rfl) ?_
    intro w10 b10 _
    obtain ⟨_, B10, S10, R10⟩ := push_end hq s6.S s6.R hg7 hw7 ho7 b8 b9 b10
    have HF := Lib.hid (FIN w10 B10 S10 R10)
    clear hKS b5 s5 b6 s6 hsrc ho7 hg7 hw7 hle7 hmx7 b8 hth ho8 b9 R9 b10 B10 S10 R10 FIN hB7 NX4
    have hgw := HF.out.hg
    go_wp2_with (refine wpList_store_box (cells := #[.bool false, .bool false, .slice none 0 0, .slice none 0 0, .slice none 0 0]) rfl 25 _ _ rfl HF.out.X (by rfl) (by rfl) rfl (by kernel_rfl) (by simp [Value.oneCell']) ?_; intro u9 X9 st9)
    have b9 : But (fun k => k = w.heap.size) w10 u9 := But.ofStored st9 (st9.below 0 w10 (Nat.zero_le _) (Below.refl _ _))
    have B9 : But (fun k => k = g ∨ (Value.slice ao d co).ownBlock = some k) w u9 := HF.out.B.trans b9 (fun k hk => .inr (by omega))
    have R9 := b9.box HF.out.R (by omega)
    have S9 := HSW.out.push B9.size (fun k hk hgk hvo => B9.block k hk (fun e => e.elim (fun e => by omega) hvo)) HF.out.v1 (HF.out.S.own.but b9 (fun k e hk => HF.out.v2 k e hk))
    exact bodyPost_ret (v := .tuple #[.agg #[.bool false, .bool false, .slice none 0 0, .slice none 0 0, .slice none 0 0], .bool false]) (box_result2 (p := 2) (q := 3) rfl _ _ (by rfl) X9 Tryd.underlying25 rfl (by kernel_rfl)) rfl ⟨B9.mono (fun k hk => hk.imp id (fun e => by have := HSW.out.own.lt k e; omega)), .inr (.inl ⟨_, _, rfl, by omega, hm1, hd1, R9, S9, fun r h => Mach.opens (by have := HLE.out; omega) (by rw [← HCH.out]; exact H40.out) hm1 (by rw [stk_length]; omega) (by rw [stk_upd] at h; exact h)⟩)⟩
  · intro w8 b8 _
    have R8 := hB7 w8 b8
    refine wp_store_slice 23 _ _ rfl rfl rfl (R8.cell 3 rfl) (R8.frozen 3) (fun w => by simp [go_sem]) ?_
    refine ⟨trivial, ?_⟩
    simp only [Act.put, List.setIfInBounds_toArray, List.set_cons_zero, List.set_cons_succ]
    refine wpU_one 9 rfl (by kernel_rfl) rfl ?_
    intro w9 b9 _
    obtain ⟨_, hth, _⟩ := push_end' hq s6.S s6.R hg7 hw7 ho7 b8 b9 (Below.refl _ _)
    refine wp_store_elem 25 _ _ rfl b7 (o7 + d * 5) Lev.new.sv rfl rfl hth (by kernel_rfl) ?_
    refine ⟨trivial, ?_⟩
    simp only [Act.put, List.setIfInBounds_toArray, List.set_cons_zero, List.set_cons_succ]
    refine wpU_done (by kernel_rfl) ?_
    intro w10 b10 _
    obtain ⟨_, _, B10, S10, R10⟩ := push_end' hq s6.S s6.R hg7 hw7 ho7 b8 b9 b10
    have HF := Lib.hid (FIN w10 B10 S10 R10)
    clear hKS b5 s5 b6 s6 hsrc ho7 hg7 hw7 hle7 hmx7 b8 hth b9 R8 b10 B10 S10 R10 FIN hB7 NX4
    have hgw := HF.out.hg
    go_wp2_with (refine wpList_store_box (cells := #[.bool false, .bool false, .slice none 0 0, .slice none 0 0, .slice none 0 0]) rfl 25 _ _ rfl HF.out.X (by rfl) (by rfl) rfl (by kernel_rfl) (by simp [Value.oneCell']) ?_; intro u9 X9 st9)
    have b9 : But (fun k => k = w.heap.size) w10 u9 := But.ofStored st9 (st9.below 0 w10 (Nat.zero_le _) (Below.refl _ _))
    have B9 : But (fun k => k = g ∨ (Value.slice ao d co).ownBlock = some k) w u9 := HF.out.B.trans b9 (fun k hk => .inr (by omega))
    have R9 := b9.box HF.out.R (by omega)
    have S9 := HSW.out.push B9.size (fun k hk hgk hvo => B9.block k hk (fun e => e.elim (fun e => by omega) hvo)) HF.out.v1 (HF.out.S.own.but b9 (fun k e hk => HF.out.v2 k e hk))
    exact bodyPost_ret (v := .tuple #[.agg #[.bool false, .bool false, .slice none 0 0, .slice none 0 0, .slice none 0 0], .bool false]) (box_result2 (p := 2) (q := 3) rfl _ _ (by rfl) X9 Tryd.underlying25 rfl (by kernel_rfl)) rfl ⟨B9.mono (fun k hk => hk.imp id (fun e => by have := HSW.out.own.lt k e; omega)), .inr (.inl ⟨_, _, rfl, by omega, hm1, hd1, R9, S9, fun r h => Mach.opens (by have := HLE.out; omega) (by rw [← HCH.out]; exact H40.out) hm1 (by rw [stk_length]; omega) (by rw [stk_upd] at h; exact h)⟩)⟩

set_option maxHeartbeats 8000000 in
set_option maxRecDepth 100000 in
theorem next_close (g q : Nat) (hq : g ≤ q) (a : Option Addr) (n c : Nat) (l : List UInt8) (p m : Nat) (ao : Option Addr) (d co : Nat) (L : Nat → Lev) (w : World) (hqw : q < w.heap.size) (hX : Box w g 59 (RdC a n c p m (.slice ao (d + 1) co))) (hS : Stt w q (.slice ao (d + 1) co) L (d + 1)) (hs : Sl w a n c l)
    (hi : InB (fun k => ¬ k = g) a n) (hn : n ≤ 100000) (hp : p ≤ n) (hm : m ≤ 512) (hd : d + 1 ≤ 16) (hpn : p < n) (hbyte : l.getD p 0 = 41) :
    Calls Tryd.prog 38 #[.pointer (some ⟨g, 0, none⟩)] w (NextP g q a n c l p m L (d + 1) w) := by
  have HL := Lib.hid hs.1
  have hlen : n = l.length := hs.1
  have HI := Lib.hid hi
  have NX0 := Nx.start hq hX hS hs
  have HSW := Lib.hid hS
  have HA0 : Hid (InB (fun k => k < w.heap.size) a n) := Lib.hid hs.inB
  obtain ⟨b, o, ha⟩ : ∃ b o, a = some ⟨b, o, none⟩ := by
    rcases hs.2.2.2.2 with h0 | ⟨b, o, e, _⟩
    · omega
    · exact ⟨b, o, e⟩
  have hpI : (p : Int) < (n : Int) := by omega
  have q0 := NX0.byte ha hpn
  obtain ⟨ch, hch⟩ : ∃ ch, ch = l.getD p 0 := ⟨_, rfl⟩
  rw [← hch] at q0
  rw [← hch] at hbyte
  have HCH := Lib.hid hch
  have HB := Lib.hid hbyte
  have HLE := Lib.hid hlen
  clear hs hX hS hch hlen hi
  subst ha
  have x0 := NX0.x0
  have x1 := NX0.x1
  replace NX0 := Lib.hid NX0
  have H41 : Hid (ch = 41) := Lib.hid hbyte
  obtain ⟨z1, z2, z3⟩ := bNe (a := ch) 40 40 rfl (by rw [hbyte]; decide)
  obtain ⟨z4, z5, z6⟩ := bEq (a := ch) 41 41 rfl (by rw [hbyte]; rfl)
  have hdI : (0 : Int) < (d : Int) + 1 := by omega
  clear hbyte
  go_enter Tryd.func38, Tryd.ntmps38
  go_upto_region 1 with fail
  change Code.wp _ _ _ _ (w.alloc (.cells #[.bool false, .bool false, .slice none 0 0, .slice none 0 0, .slice none 0 0] 25))
  generalize (w.alloc (.cells #[.bool false, .bool false, .slice none 0 0, .slice none 0 0, .slice none 0 0] 25)) = u0 at *
  go_quiet (fail)
  have NX1 := Lib.hid (NX0.out.drewN nq)
  have y0 := NX1.out.x0
  have y1 := NX1.out.x1
  have q1 : (u0.drewN nq).cell? ⟨b, o + p, none⟩ = some (.int .u8 (ch.toNat : Int)) := q0
  generalize u0.drewN nq = u1 at *
  clear NX0 x0 x1 q0
  go_upto_region 3 with fail
  go_quiet (fail)
  have NX2 := Lib.hid (NX1.out.drewN nq)
  have x1 := NX2.out.x1
  have x3 := NX2.out.x3
  generalize u1.drewN nq = u2 at *
  clear NX1 y0 y1 q1
  have f1 := NX2.out.R.frozen 1
  go_upto_region 11 with fail
  have NX4 := Lib.hid (NX2.out.but HI.out (but_set 1 (.int .i64 ((p : Int) + 1))) (NX2.out.R.set 1 _) : Nx w (u2.setCell ⟨g, 1, none⟩ (.int .i64 ((p : Int) + 1))) g q (some ⟨b, o, none⟩) n c l (p + 1) m (.slice ao (d + 1) co) L (d + 1))
  change Code.wp _ _ _ _ (u2.setCell ⟨g, 1, none⟩ (.int .i64 ((p : Int) + 1)))
  generalize u2.setCell ⟨g, 1, none⟩ (.int .i64 ((p : Int) + 1)) = u4 at *
  clear NX2 x1 x3 f1
  obtain ⟨bo, oo, rfl, hoc, hom⟩ := OwnG.at_ NX4.out.S.own (by omega)
  have hKS : Keeps (fun w' => Nx w w' g q (some ⟨b, o, none⟩) n c l (p + 1) m (.slice (some ⟨bo, oo, none⟩) (d + 1) co) L (d + 1)) := fun w1 w2 h b => h.after b
  have HLD : Hid (∀ w', Nx w w' g q (some ⟨b, o, none⟩) n c l (p + 1) m (.slice (some ⟨bo, oo, none⟩) (d + 1) co) L (d + 1) → w'.rangeAt bo (oo + d * 5) (L d).sv.cells.toList) := Lib.hid fun w' h => by
    obtain ⟨a', c', e', hrow, _⟩ := h.S.own.row
    cases e'
    exact hrow.rangeA (i := d) (by omega)
  refine wp_region_U (w := u4) (fun w' => Nx w w' g q (some ⟨b, o, none⟩) n c l (p + 1) m (.slice (some ⟨bo, oo, none⟩) (d + 1) co) L (d + 1)) rfl (NX4.out.after (Below.refl _ _).drew) ?_
  refine wpU_val 0 hKS rfl (by kernel_rfl) (by kernel_rfl) (by kernel_rfl) rfl (fun _ _ _ _ h => h) (.pointer (some ⟨g, 0, none⟩)) (fun w' h => by simp [go_sem]) ?_
  simp only [Act.put, List.setIfInBounds_toArray, List.set_cons_zero, List.set_cons_succ]
  refine wpU_val 1 hKS rfl (by kernel_rfl) (by kernel_rfl) (by kernel_rfl) rfl (fun _ _ _ _ h => h) (.pointer (some ⟨g, 0, none⟩)) (fun w' h => by simp [go_sem]) ?_
  simp only [Act.put, List.setIfInBounds_toArray, List.set_cons_zero, List.set_cons_succ]
  refine wpU_val 2 hKS rfl (by kernel_rfl) (by kernel_rfl) (by kernel_rfl) rfl (fun _ _ _ _ h => h) (.pointer (some ⟨g, 3, none⟩)) (fun w' h => by simp [go_sem]) ?_
  simp only [Act.put, List.setIfInBounds_toArray, List.set_cons_zero, List.set_cons_succ]
  refine wpU_val 3 hKS rfl (by kernel_rfl) (by kernel_rfl) (by kernel_rfl) rfl (fun _ _ _ _ h => h) (.slice (some ⟨bo, oo, none⟩) (d + 1) co) (fun w' h => by simp [go_sem, h.x3]) ?_
  simp only [Act.put, List.setIfInBounds_toArray, List.set_cons_zero, List.set_cons_succ]
  refine wpU_val 4 hKS rfl (by kernel_rfl) (by kernel_rfl) (by kernel_rfl) rfl (fun _ _ _ _ h => h) (.pointer (some ⟨g, 0, none⟩)) (fun w' h => by simp [go_sem]) ?_
  simp only [Act.put, List.setIfInBounds_toArray, List.set_cons_zero, List.set_cons_succ]
  refine wpU_val 5 hKS rfl (by kernel_rfl) (by kernel_rfl) (by kernel_rfl) rfl (fun _ _ _ _ h => h) (.pointer (some ⟨g, 0, none⟩)) (fun w' h => by simp [go_sem]) ?_
  simp only [Act.put, List.setIfInBounds_toArray, List.set_cons_zero, List.set_cons_succ]
  refine wpU_val 6 hKS rfl (by kernel_rfl) (by kernel_rfl) (by kernel_rfl) rfl (fun _ _ _ _ h => h) (.pointer (some ⟨g, 3, none⟩)) (fun w' h => by simp [go_sem]) ?_
  simp only [Act.put, List.setIfInBounds_toArray, List.set_cons_zero, List.set_cons_succ]
  refine wpU_val 7 hKS rfl (by kernel_rfl) (by kernel_rfl) (by kernel_rfl) rfl (fun _ _ _ _ h => h) (.slice (some ⟨bo, oo, none⟩) (d + 1) co) (fun w' h => by simp [go_sem, h.x3]) ?_
  simp only [Act.put, List.setIfInBounds_toArray, List.set_cons_zero, List.set_cons_succ]
  refine wpU_val 8 hKS rfl (by kernel_rfl) (by kernel_rfl) (by kernel_rfl) rfl (fun _ _ _ _ h => h) (.int .i64 ((d : Int) + 1)) (fun w' h => by simp [go_sem]) ?_
  simp only [Act.put, List.setIfInBounds_toArray, List.set_cons_zero, List.set_cons_succ]
  refine wpU_val 9 hKS rfl (by kernel_rfl) (by kernel_rfl) (by kernel_rfl) rfl (fun _ _ _ _ h => h) (.int .i64 d) (fun w' h => by simp [go_sem]; rw [IntKind.wrap_i64]; omega) ?_
  simp only [Act.put, List.setIfInBounds_toArray, List.set_cons_zero, List.set_cons_succ]
  refine wpU_val 10 hKS rfl (by kernel_rfl) (by kernel_rfl) (by kernel_rfl) rfl (fun _ _ _ _ h => h) (.pointer (some ⟨bo, oo + d * 5, none⟩)) (fun w' h => by simp [go_sem]; intro hh; omega) ?_
  simp only [Act.put, List.setIfInBounds_toArray, List.set_cons_zero, List.set_cons_succ]
  refine wpU_val 11 hKS rfl (by kernel_rfl) (by kernel_rfl) (by kernel_rfl) rfl (fun _ _ _ _ h => h) ((L d).sv.val) (fun w' h => run_load_sv _ rfl bo (oo + d * 5) rfl _ (HLD.out w' h)) ?_
  simp only [Act.put, List.setIfInBounds_toArray, List.set_cons_zero, List.set_cons_succ]
  refine wpU_one 12 rfl (by kernel_rfl) rfl ?_
  intro w5 b5 s5
  refine wp_alloc_new 25 rfl #[.bool false, .bool false, .slice none 0 0, .slice none 0 0, .slice none 0 0] (fun w => by simp [go_sem]) ?_
  intro y w6 Y6 hy6 b6
  refine ⟨hKS _ _ s5 b6, ?_⟩
  simp only [Act.put, List.setIfInBounds_toArray, List.set_cons_zero, List.set_cons_succ]
  have hyw : w.heap.size < y := Nat.lt_of_lt_of_le s5.X.lt hy6
  refine wpU_store_box (cells := #[.bool true, .bool false, .slice none 0 0, .slice none 0 0, .slice (L d).ta (L d).ks.length (L d).tc]) 13 rfl (by kernel_rfl) rfl 25 _ _ rfl Y6 (by rfl) (by rfl) rfl (by kernel_rfl) (by simp [Value.oneCell']) ?_
  intro w7 w8 b7 s7 Y8 st8
  have b78 : But (fun k => k = y) w7 w8 := But.ofStored st8 (st8.below 0 w7 (Nat.zero_le _) (Below.refl _ _))
  have s8 : Nx w w8 g q (some ⟨b, o, none⟩) n c l (p + 1) m (.slice (some ⟨bo, oo, none⟩) (d + 1) co) L (d + 1) := s7.wrote HSW.out HI.out HA0.out b78 hyw
  refine ⟨s8, ?_⟩
  simp only [Act.put, List.setIfInBounds_toArray, List.set_cons_zero, List.set_cons_succ]
  refine wpU_done (by kernel_rfl) ?_
  intro w9 b9 s9
  have NX9 := Lib.hid s9
  have HY9 := Lib.hid (Y8.after b9)
  clear hKS HLD b5 s5 Y6 hy6 b6 b7 s7 Y8 st8 b78 s8 b9 s9 NX4
  go_upto_region 12 with fail
  have hKS : Keeps (fun w' => Nx w w' g q (some ⟨b, o, none⟩) n c l (p + 1) m (.slice (some ⟨bo, oo, none⟩) (d + 1) co) L (d + 1)) := fun w1 w2 h b => h.after b
  refine wp_region_W (w := w9) [14] (fun w' => Nx w w' g q (some ⟨b, o, none⟩) n c l (p + 1) m (.slice (some ⟨bo, oo, none⟩) (d + 1) co) L (d + 1)) rfl (NX9.out.after (Below.refl _ _).drew) ?_
  refine wpW_val 0 hKS rfl (by kernel_rfl) (by kernel_rfl) (by kernel_rfl) (by kernel_rfl) rfl (fun _ _ _ _ h => h) (.pointer (some ⟨g, 0, none⟩)) (fun w' h => by simp [go_sem]) ?_
  simp only [Act.put, List.setIfInBounds_toArray, List.set_cons_zero, List.set_cons_succ]
  refine wpW_val 1 hKS rfl (by kernel_rfl) (by kernel_rfl) (by kernel_rfl) (by kernel_rfl) rfl (fun _ _ _ _ h => h) (.pointer (some ⟨g, 0, none⟩)) (fun w' h => by simp [go_sem]) ?_
  simp only [Act.put, List.setIfInBounds_toArray, List.set_cons_zero, List.set_cons_succ]
  refine wpW_val 2 hKS rfl (by kernel_rfl) (by kernel_rfl) (by kernel_rfl) (by kernel_rfl) rfl (fun _ _ _ _ h => h) (.pointer (some ⟨g, 0, none⟩)) (fun w' h => by simp [go_sem]) ?_
  simp only [Act.put, List.setIfInBounds_toArray, List.set_cons_zero, List.set_cons_succ]
  refine wpW_val 3 hKS rfl (by kernel_rfl) (by kernel_rfl) (by kernel_rfl) (by kernel_rfl) rfl (fun _ _ _ _ h => h) (.pointer (some ⟨g, 3, none⟩)) (fun w' h => by simp [go_sem]) ?_
  simp only [Act.put, List.setIfInBounds_toArray, List.set_cons_zero, List.set_cons_succ]
  refine wpW_val 4 hKS rfl (by kernel_rfl) (by kernel_rfl) (by kernel_rfl) (by kernel_rfl) rfl (fun _ _ _ _ h => h) (.slice (some ⟨bo, oo, none⟩) (d + 1) co) (fun w' h => by simp [go_sem, h.x3]) ?_
  simp only [Act.put, List.setIfInBounds_toArray, List.set_cons_zero, List.set_cons_succ]
  refine wpW_val 5 hKS rfl (by kernel_rfl) (by kernel_rfl) (by kernel_rfl) (by kernel_rfl) rfl (fun _ _ _ _ h => h) (.pointer (some ⟨g, 0, none⟩)) (fun w' h => by simp [go_sem]) ?_
  simp only [Act.put, List.setIfInBounds_toArray, List.set_cons_zero, List.set_cons_succ]
  refine wpW_val 6 hKS rfl (by kernel_rfl) (by kernel_rfl) (by kernel_rfl) (by kernel_rfl) rfl (fun _ _ _ _ h => h) (.pointer (some ⟨g, 0, none⟩)) (fun w' h => by simp [go_sem]) ?_
  simp only [Act.put, List.setIfInBounds_toArray, List.set_cons_zero, List.set_cons_succ]
  refine wpW_val 7 hKS rfl (by kernel_rfl) (by kernel_rfl) (by kernel_rfl) (by kernel_rfl) rfl (fun _ _ _ _ h => h) (.pointer (some ⟨g, 3, none⟩)) (fun w' h => by simp [go_sem]) ?_
  simp only [Act.put, List.setIfInBounds_toArray, List.set_cons_zero, List.set_cons_succ]
  refine wpW_val 8 hKS rfl (by kernel_rfl) (by kernel_rfl) (by kernel_rfl) (by kernel_rfl) rfl (fun _ _ _ _ h => h) (.slice (some ⟨bo, oo, none⟩) (d + 1) co) (fun w' h => by simp [go_sem, h.x3]) ?_
  simp only [Act.put, List.setIfInBounds_toArray, List.set_cons_zero, List.set_cons_succ]
  refine wpW_val 9 hKS rfl (by kernel_rfl) (by kernel_rfl) (by kernel_rfl) (by kernel_rfl) rfl (fun _ _ _ _ h => h) (.int .i64 ((d : Int) + 1)) (fun w' h => by simp [go_sem]) ?_
  simp only [Act.put, List.setIfInBounds_toArray, List.set_cons_zero, List.set_cons_succ]
  refine wpW_val 10 hKS rfl (by kernel_rfl) (by kernel_rfl) (by kernel_rfl) (by kernel_rfl) rfl (fun _ _ _ _ h => h) (.int .i64 d) (fun w' h => by simp [go_sem]; rw [IntKind.wrap_i64]; omega) ?_
  simp only [Act.put, List.setIfInBounds_toArray, List.set_cons_zero, List.set_cons_succ]
  refine wpW_val 11 hKS rfl (by kernel_rfl) (by kernel_rfl) (by kernel_rfl) (by kernel_rfl) rfl (fun _ _ _ _ h => h) (.slice (some ⟨bo, oo, none⟩) d co) (fun w' h => by simp [go_sem]; intro hh; omega) ?_
  simp only [Act.put, List.setIfInBounds_toArray, List.set_cons_zero, List.set_cons_succ]
  refine wpW_free 12 hKS rfl (by kernel_rfl) (by kernel_rfl) (by kernel_rfl) (by kernel_rfl) rfl (fun _ _ _ _ h => h) (.pointer (some ⟨g, 0, none⟩)) (fun w' => by simp [go_sem]) ?_
  simp only [Act.put, List.setIfInBounds_toArray, List.set_cons_zero, List.set_cons_succ]
  refine wpW_free 13 hKS rfl (by kernel_rfl) (by kernel_rfl) (by kernel_rfl) (by kernel_rfl) rfl (fun _ _ _ _ h => h) (.pointer (some ⟨g, 3, none⟩)) (fun w' => by simp [go_sem]) ?_
  simp only [Act.put, List.setIfInBounds_toArray, List.set_cons_zero, List.set_cons_succ]
  refine wpW_write 14 rfl (by kernel_rfl) (by kernel_rfl) rfl ?_
  intro w10 b10 s10
  refine wp_store_slice 23 _ _ rfl rfl rfl (s10.R.cell 3 rfl) (s10.R.frozen 3) (fun w => by simp [go_sem]) ?_
  simp only [Act.put, List.setIfInBounds_toArray, List.set_cons_zero, List.set_cons_succ]
  refine wpU_done (by kernel_rfl) ?_
  intro w11 b11 _
  have B10 : But (fun k => k = g) w10 w11 := (but_set 3 (.slice (some ⟨bo, oo, none⟩) d co)).trans (But.ofBelow (S := fun _ => False) b11) (fun k hk => hk.elim)
  have R11 : Box w11 g 59 (RdC (some ⟨b, o, none⟩) n c (p + 1) m (.slice (some ⟨bo, oo, none⟩) d co)) := (s10.R.set 3 (.slice (some ⟨bo, oo, none⟩) d co)).after b11
  have HR11 := Lib.hid R11
  have HX11 := Lib.hid (B10.box s10.X (by have := s10.hg; omega))
  have nb11 := s10.nb.trans B10 (fun k hk => .inl hk)
  have HNB := Lib.hid nb11
  have HY11 := Lib.hid (B10.box (HY9.out.after ((Below.refl _ _).drew.trans b10)) (by have := s10.hg; omega))
  have hgw := s10.hg
  clear hKS b10 s10 b11 B10 R11 nb11 NX9 HY9
  go_wp2_with first | (refine wpList_load_box rfl 25 _ rfl HY11.out (by rfl) Tryd.underlying25 rfl (by kernel_rfl) ?_) | (refine wpList_store_box (cells := #[.bool true, .bool false, .slice none 0 0, .slice none 0 0, .slice (L d).ta (L d).ks.length (L d).tc]) rfl 25 _ _ rfl HX11.out (by rfl) (by rfl) rfl (by kernel_rfl) (by simp [Value.oneCell']) ?_; intro u9 X9 st9)
  have b9 : But (fun k => k = w.heap.size) w11 u9 := But.ofStored st9 (st9.below 0 w11 (Nat.zero_le _) (Below.refl _ _))
  have nb9 : But (fun k => k = g) w u9 := HNB.out.trans b9 (fun k hk => .inr (by omega))
  have R9 := b9.box HR11.out (by omega)
  obtain ⟨S9, RD9⟩ := HSW.out.pop (v' := .slice (some ⟨bo, oo, none⟩) d co) nb9.size (fun k hk hgk => nb9.block k hk (by omega)) (fun k e => by simpa [Value.ownBlock] using e) ((HSW.out.own.popK).keep nb9.size (fun k e => nb9.block k ((HSW.out.own.lt k (by simpa [Value.ownBlock] using e)).2) (by have := (HSW.out.own.lt k (by simpa [Value.ownBlock] using e)).1; omega)))
  exact bodyPost_ret (v := .tuple #[.agg #[.bool true, .bool false, .slice none 0 0, .slice none 0 0, .slice (L d).ta (L d).ks.length (L d).tc], .bool true]) (box_result2 (p := 2) (q := 3) rfl _ _ (by rfl) X9 Tryd.underlying25 rfl (by kernel_rfl)) rfl ⟨nb9.mono (fun k hk => .inl hk), .inr (.inr ⟨(L d).sv, _, p + 1, m, d, _, _, rfl, by omega, by omega, hm, Nat.le_succ _, R9, S9, RD9, fun r hdel => del_close (by have := HLE.out; omega) (by rw [← HCH.out]; exact H41.out) hdel⟩)⟩

end Go.Proofs.YtcflgoddfakepaaDoor
namespace Go.Proofs.YtcflgoddfakepaaDoor
open Go.RowKit
set_option linter.unusedSimpArgs false
set_option linter.unusedVariables false

theorem next_any (g q : Nat) (hq : g ≤ q) (a : Option Addr) (n c : Nat) (l : List UInt8) (p m : Nat) (ao : Option Addr) (d co : Nat) (L : Nat → Lev) (w : World) (hqw : q < w.heap.size) (hX : Box w g 59 (RdC a n c p m (.slice ao d co))) (hS : Stt w q (.slice ao d co) L d) (hs : Sl w a n c l)
    (hi : InB (fun k => ¬ k = g) a n) (hn : n ≤ 100000) (hp : p ≤ n) (hm : m ≤ 512) (hd : d ≤ 16) :
    Calls Tryd.prog 38 #[.pointer (some ⟨g, 0, none⟩)] w (NextP g q a n c l p m L d w) := by
  rcases Nat.lt_or_ge p n with hpn | hpn
  case inr => exact next_short g q hq a n c l p m ao d co L w hqw hX hS hs hi hn hp hm hd hpn
  by_cases h40 : l.getD p 0 = 40
  · exact next_opens g q hq a n c l p m ao d co L w hqw hX hS hs hi hn hp hm hd hpn h40
  by_cases hst : starts (l.getD p 0)
  · exact next_atom g q hq a n c l p m ao d co L w hqw hX hS hs hi hn hp hm hd hpn ⟨hst, h40⟩
  by_cases h41 : l.getD p 0 = 41 ∧ d ≠ 0
  · obtain ⟨h41, hd0⟩ := h41
    obtain ⟨d', rfl⟩ : ∃ d', d = d' + 1 := ⟨d - 1, by omega⟩
    exact next_close g q hq a n c l p m ao d' co L w hqw hX hS hs hi hn hp hm hd hpn h41
  · exact next_bad g q hq a n c l p m ao d co L w hqw hX hS hs hi hn hp hm hd hpn ⟨hst, fun h => by
      rcases Nat.eq_zero_or_pos d with h0 | h0
      · exact h0
      · exact absurd ⟨h, by omega⟩ h41⟩

/-- where the reader stands -/
def atOf (w : World) (g : Nat) : Nat := match w.cell? ⟨g, 1, none⟩ with | some (.int _ z) => z.toNat | _ => 0
theorem atOf_eq {w : World} {g : Nat} {a : Option Addr} {n c p m : Nat} {vo : Value} (h : Box w g 59 (RdC a n c p m vo)) : atOf w g = p := by
  unfold atOf
  rw [h.cell 1 rfl]
  simp
/-- the state while a value is added -/
structure VS (w u : World) (g : Nat) (cs : Array Value) (vo : Value) (L : Nat → Lev) (d y : Nat) (v : SV) (s : Sx) : Prop where
  R : Box u g 59 cs
  S : Stt u w.heap.size vo L (d + 1)
  Y : Box u y 25 v.cells
  X : Box u w.heap.size 25 #[.bool false, .bool false, .slice none 0 0, .slice none 0 0, .slice none 0 0]
  D : RdI (okT w.heap.size vo L (d + 1)) u v s
  B : Below g w u
  gw : g ≤ w.heap.size
theorem VS.after {w u u' : World} {g : Nat} {cs : Array Value} {vo : Value} {L : Nat → Lev} {d y : Nat} {v : SV} {s : Sx} (h : VS w u g cs vo L d y v s) (hb : Below u.heap.size u u') : VS w u' g cs vo L d y v s :=
  ⟨h.R.after hb, h.S.after hb, h.Y.after hb, h.X.after hb, h.D.after hb, h.B.trans (hb.mono (Nat.le_of_lt h.R.lt)), h.gw⟩
theorem VS.kids {w u : World} {g : Nat} {cs : Array Value} {b o co : Nat} {L : Nat → Lev} {d y : Nat} {v : SV} {s : Sx} (h : VS w u g cs (.slice (some ⟨b, o, none⟩) (d + 1) co) L d y v s) : u.cell? ⟨b, o + d * 5 + 4, none⟩ = some (.slice (L d).ta (L d).ks.length (L d).tc) :=
  (h.S.own.setKids d (by omega) none 0 0).1
/-- behind add -/
structure VF (w u : World) (g : Nat) (cs : Array Value) (vo : Value) (L : Nat → Lev) (d : Nat) : Prop where
  R : Box u g 59 cs
  S : Stt u w.heap.size vo L d
  X : Box u w.heap.size 25 #[.bool false, .bool false, .slice none 0 0, .slice none 0 0, .slice none 0 0]
  B : Below g w u
/-- value: a fault, or what is read -/
def ValueP (g : Nat) (a : Option Addr) (n c : Nat) (l : List UInt8) (w : World) (e : Ending) (w' : World) : Prop :=
  Below g w w' ∧ ∃ r : RV, Mach l [] 0 0 r ∧ ((r.e ≠ 0 ∧ e = FaultE r.p r.e) ∨ (r.e = 0 ∧ ∃ (v : SV) (m : Nat) (vo : Value), e = .returned v.val ∧ RdI (fun k => g < k) w' v r.v ∧ Box w' g 59 (RdC a n c r.p m vo)))

set_option maxHeartbeats 16000000 in
set_option maxRecDepth 100000 in
theorem valueR_any (g : Nat) (a : Option Addr) (n c : Nat) (l : List UInt8) (w : World) (hX : Box w g 59 (RdC a n c 0 0 (.slice none 0 0))) (hs : Sl w a n c l) (hi : InB (fun k => k < g) a n) (hn : n ≤ 100000) :
    Calls Tryd.prog 33 #[.pointer (some ⟨g, 0, none⟩)] w (ValueP g a n c l w) := by
  have HS := Lib.hid hs
  have HI := Lib.hid hi
  have hgw := hX.lt
  have B0 : Below w.heap.size w (w.alloc (.cells #[.bool false, .bool false, .slice none 0 0, .slice none 0 0, .slice none 0 0] 25)) := (Below.refl _ _).alloc (Nat.le_refl _) _
  have X0 := Box.new w 25 #[.bool false, .bool false, .slice none 0 0, .slice none 0 0, .slice none 0 0]
  have R0 := hX.after B0
  have HSB : Hid (InB (fun k => k < w.heap.size) a n) := Lib.hid hs.inB
  have S0 : Stt (w.alloc (.cells #[.bool false, .bool false, .slice none 0 0, .slice none 0 0, .slice none 0 0] 25)) w.heap.size (.slice none 0 0) (fun _ => Lev.new) 0 := Stt.none _ _ _
  clear hs hi hX
  go_enter Tryd.func33, Tryd.ntmps33
  go_upto_region 1 with fail
  change Code.wp _ _ _ _ (w.alloc (.cells #[.bool false, .bool false, .slice none 0 0, .slice none 0 0, .slice none 0 0] 25))
  generalize (w.alloc (.cells #[.bool false, .bool false, .slice none 0 0, .slice none 0 0, .slice none 0 0] 25)) = u0 at *
  have B0g : Below g w u0 := B0.mono (Nat.le_of_lt hgw)
  go_loopw [] (fun wr => ∃ (p m d : Nat) (ao : Option Addr) (co : Nat) (L : Nat → Lev), p ≤ n ∧ m ≤ 512 ∧ d ≤ 16 ∧ Hid (∀ r, Mach l (stk L d) p m r → Mach l [] 0 0 r) ∧ Hid (∀ i, i < d → (L i).ks.length ≤ p) ∧ Box wr g 59 (RdC a n c p m (.slice ao d co)) ∧ Stt wr w.heap.size (.slice ao d co) L d ∧ Box wr w.heap.size 25 #[.bool false, .bool false, .slice none 0 0, .slice none 0 0, .slice none 0 0] ∧ Below g w wr) (fun wr => n + 1 - atOf wr g)
  case atStart => exact ⟨0, 0, 0, none, 0, fun _ => Lev.new, Nat.zero_le _, Nat.zero_le _, Nat.zero_le _, Lib.hid (fun r h => h), Lib.hid (fun i hi => by omega), R0, S0, X0, B0g⟩
  case round =>
    obtain ⟨p, m, d, ao, co, L, hp, hm, hd, HTO, HKL, hR, hS, hX, hB⟩ := hrel
    clear S0 X0 R0 B0 B0g
    have hsl : Sl wr a n c l := (HS.out.inB.both HI.out).elim (fun h => HS.out.keep (.inl h)) (fun h => HS.out.keep (.inr fun b o s e => hB.block b (h b o s e).2))
    have HSL := Lib.hid hsl
    have hqw := hX.lt
    have CA := Lib.hid (next_any g w.heap.size (Nat.le_of_lt hgw) a n c l p m ao d co L wr hqw hR hS hsl (HI.out.mono fun k h => by omega) hn hp hm hd)
    have HAT := Lib.hid (atOf_eq hR)
    have HX := Lib.hid hX
    clear hsl hR hS hX
    go_wp2_with fail
    refine CA.out.mono ?_
    rintro e w1 ⟨b1, ⟨r, hr, rfl, hm1⟩ | ⟨ao1, co1, rfl, hp1, hm1, hd1, R1, S1, hto⟩ | ⟨v, s, p1, m1, d1, ao1, co1, rfl, hp1, hp2, hm1, hd1, R1, S1, rd1, hto⟩⟩
    · unfold FaultE
      exact ⟨rfl, hB.trans (b1.below (Nat.le_trans (Nat.le_of_lt hgw) (Nat.le_of_lt hqw)) (fun k hk => by omega)), r, HTO.out r hm1, .inl ⟨hr, rfl⟩⟩
    · have Y1 := Box.new w1 25 #[.bool false, .bool false, .slice none 0 0, .slice none 0 0, .slice none 0 0]
      have X1 := b1.box HX.out (by omega)
      have B1 := hB.trans (b1.below (Nat.le_trans (Nat.le_of_lt hgw) (Nat.le_of_lt hqw)) (fun k hk => by omega))
      have hto' := HTO.out
      have HTO2 : Hid (∀ r, Mach l (stk (updL L d Lev.new) (d + 1)) (p + 1) (m + 1) r → Mach l [] 0 0 r) := Lib.hid fun r h => HTO.out r (hto r h)
      have hz1 : w.heap.size < w1.heap.size := X1.lt
      clear b1 hto hto' CA HTO HSL HX
      go_wp2_with (refine wpList_store_box (cells := #[.bool false, .bool false, .slice none 0 0, .slice none 0 0, .slice none 0 0]) rfl 25 _ _ rfl Y1 (by rfl) (by rfl) rfl (by kernel_rfl) (by simp [Value.oneCell']) ?_; intro z9 X9 st9)
      have b19 : Below w1.heap.size w1 z9 := st9.below w1.heap.size w1 (Nat.le_refl _) ((Below.refl _ _).alloc (Nat.le_refl _) _)
      have R9 := R1.after b19
      have e9 := atOf_eq R9
      have S9 := S1.after b19
      have X9' := X1.after b19
      have B9 := B1.trans (b19.mono (by omega))
      clear Y1 X1 B1 R1 S1 st9 X9 b19
      go_roundw
      case rel => exact ⟨p + 1, m + 1, d + 1, ao1, co1, _, by omega, hm1, hd1, HTO2, Lib.hid (fun i hi => by
        by_cases hid : i = d
        · subst hid; rw [updL_same]; exact Nat.zero_le _
        · rw [updL_other L _ hid]; have := HKL.out i (by omega); omega), R9, S9, X9', B9⟩
      case measure => rw [HAT.out, e9]; omega
    · obtain ⟨vl, vh, a1, n1, c1, a2, n2, c2, a3, n3, c3⟩ := v
      unfold SV.val
      have Y1 := Box.new w1 25 #[.bool vl, .bool vh, .slice a1 n1 c1, .slice a2 n2 c2, .slice a3 n3 c3]
      have X1 := b1.box HX.out (by omega)
      have B1 := hB.trans (b1.below (Nat.le_trans (Nat.le_of_lt hgw) (Nat.le_of_lt hqw)) (fun k hk => by omega))
      have HTO2 : Hid (∀ r, Del l (stk L d1) s p1 m1 r → Mach l [] 0 0 r) := Lib.hid fun r h => HTO.out r (hto r h)
      have hz1 : w.heap.size < w1.heap.size := X1.lt
      have HP := Lib.hid hp1
      have hd16 : d1 ≤ 16 := Nat.le_trans hd1 hd
      have HDD := Lib.hid hd1
      clear hd1
      clear b1 hto CA HTO HSL HX
      go_upto_region 4 with fail
      have b19 : Below w1.heap.size w1 (w1.alloc (.cells #[.bool vl, .bool vh, .slice a1 n1 c1, .slice a2 n2 c2, .slice a3 n3 c3] 25)) := (Below.refl _ _).alloc (Nat.le_refl _) _
      change Code.wp _ _ _ _ (w1.alloc (.cells #[.bool vl, .bool vh, .slice a1 n1 c1, .slice a2 n2 c2, .slice a3 n3 c3] 25))
      generalize (w1.alloc (.cells #[.bool vl, .bool vh, .slice a1 n1 c1, .slice a2 n2 c2, .slice a3 n3 c3] 25)) = z9 at *
      have R9 := R1.after b19
      have S9 := S1.after b19
      have XX9 := X1.after b19
      have D9 := rd1.after b19
      have B9 := B1.trans (b19.mono (by omega))
      have hy9 : w.heap.size < w1.heap.size := hz1
      clear X1 B1 R1 S1 rd1 b19
      generalize w1.heap.size = y at *
      have x3 : z9.cell? ⟨g, 3, none⟩ = some (.slice ao1 d1 co1) := R9.cell 3 rfl
      have HR9 := Lib.hid R9
      have HS9 := Lib.hid S9
      have HX9 := Lib.hid XX9
      have HD9 := Lib.hid D9
      have HY9 := Lib.hid Y1
      clear R9 S9 XX9 D9 Y1
      rcases Nat.eq_zero_or_pos d1 with hd0 | hd0
      · subst hd0
        go_wp2_with first | (refine wpList_load_box rfl 25 _ rfl HY9.out (by rfl) Tryd.underlying25 rfl (by kernel_rfl) ?_) | (refine wpList_store_box (cells := #[.bool vl, .bool vh, .slice a1 n1 c1, .slice a2 n2 c2, .slice a3 n3 c3]) rfl 25 _ _ rfl HX9.out (by rfl) (by rfl) rfl (by kernel_rfl) (by simp [Value.oneCell']) ?_; intro z10 X10 st10)
        have b10 : But (fun k => k = w.heap.size) z9 z10 := But.ofStored st10 (st10.below 0 z9 (Nat.zero_le _) (Below.refl _ _))
        have B10 : Below g w z10 := b10.after B9 (Nat.le_of_lt HR9.out.lt) (fun k hk => by omega)
        exact bodyPost_ret (v := .agg #[.bool vl, .bool vh, .slice a1 n1 c1, .slice a2 n2 c2, .slice a3 n3 c3]) (box_result rfl _ _ (by rfl) X10 Tryd.underlying25 rfl (by kernel_rfl)) rfl ⟨B10, ⟨s, p1, m1, 0⟩, HTO2.out _ rfl, .inr ⟨rfl, ⟨vl, vh, a1, n1, c1, a2, n2, c2, a3, n3, c3⟩, m1, _, rfl, (HD9.out.but b10 (fun k hk e => by have := hk.1; omega)).mono (fun k hk => by have := hk.1; omega), b10.box HR9.out (by omega)⟩⟩
      · obtain ⟨d2, rfl⟩ : ∃ d2, d1 = d2 + 1 := ⟨d1 - 1, by omega⟩
        obtain ⟨bo, oo, rfl, hoc, hom⟩ := OwnG.at_ HS9.out.own (by omega)
        have hne0 : ¬ (d2 : Int) + 1 = 0 := by omega
        have hkl : (L d2).ks.length ≤ 100000 := by have := HKL.out d2 (by have := HDD.out; omega); omega
        have hw1 : IntKind.i64.wrap (d2 : Int) = (d2 : Int) := by rw [IntKind.wrap_i64]; omega
        go_upto_region 2 with fail
        go_quiet (fail)
        go_upto_region 3 with fail
        have hKS : Keeps (fun w' => VS w w' g (RdC a n c p1 m1 (.slice (some ⟨bo, oo, none⟩) (d2 + 1) co1)) (.slice (some ⟨bo, oo, none⟩) (d2 + 1) co1) L d2 y ⟨vl, vh, a1, n1, c1, a2, n2, c2, a3, n3, c3⟩ s) := fun w1 w2 h b => h.after b
        have VS0 : VS w (z9.drewN nq) g (RdC a n c p1 m1 (.slice (some ⟨bo, oo, none⟩) (d2 + 1) co1)) (.slice (some ⟨bo, oo, none⟩) (d2 + 1) co1) L d2 y ⟨vl, vh, a1, n1, c1, a2, n2, c2, a3, n3, c3⟩ s := ⟨HR9.out.drewN nq, HS9.out.keep (Nat.le_refl _) (fun _ _ _ => rfl), HY9.out.drewN nq, HX9.out.drewN nq, HD9.out.keep (fun _ _ => rfl), B9.trans ⟨rfl, rfl, rfl, Nat.le_refl _, fun _ _ => rfl⟩, by omega⟩
        generalize z9.drewN nq = z8 at *
        refine wp_region_W (w := z8) [7, 9, 12] (fun w' => VS w w' g (RdC a n c p1 m1 (.slice (some ⟨bo, oo, none⟩) (d2 + 1) co1)) (.slice (some ⟨bo, oo, none⟩) (d2 + 1) co1) L d2 y ⟨vl, vh, a1, n1, c1, a2, n2, c2, a3, n3, c3⟩ s) rfl (VS0.after (Below.refl _ _).drew) ?_
        refine wpW_val 0 hKS rfl (by kernel_rfl) (by kernel_rfl) (by kernel_rfl) (by kernel_rfl) rfl (fun _ _ _ _ h => h) (.pointer (some ⟨bo, oo + d2 * 5, none⟩)) (fun w' h => by simp [go_sem]) ?_
        simp only [Act.put, List.setIfInBounds_toArray, List.set_cons_zero, List.set_cons_succ]
        refine wpW_val 1 hKS rfl (by kernel_rfl) (by kernel_rfl) (by kernel_rfl) (by kernel_rfl) rfl (fun _ _ _ _ h => h) (.pointer (some ⟨bo, oo + d2 * 5, none⟩)) (fun w' h => by simp [go_sem]) ?_
        simp only [Act.put, List.setIfInBounds_toArray, List.set_cons_zero, List.set_cons_succ]
        refine wpW_val 2 hKS rfl (by kernel_rfl) (by kernel_rfl) (by kernel_rfl) (by kernel_rfl) rfl (fun _ _ _ _ h => h) (.pointer (some ⟨bo, oo + d2 * 5 + 4, none⟩)) (fun w' h => by simp [go_sem]) ?_
        simp only [Act.put, List.setIfInBounds_toArray, List.set_cons_zero, List.set_cons_succ]
        refine wpW_val 3 hKS rfl (by kernel_rfl) (by kernel_rfl) (by kernel_rfl) (by kernel_rfl) rfl (fun _ _ _ _ h => h) (.slice (L d2).ta (L d2).ks.length (L d2).tc) (fun w' h => by simp [go_sem, h.kids]) ?_
        simp only [Act.put, List.setIfInBounds_toArray, List.set_cons_zero, List.set_cons_succ]
        refine wpW_val 4 hKS rfl (by kernel_rfl) (by kernel_rfl) (by kernel_rfl) (by kernel_rfl) rfl (fun _ _ _ _ h => h) (.agg #[.bool vl, .bool vh, .slice a1 n1 c1, .slice a2 n2 c2, .slice a3 n3 c3]) (fun w' h => run_load_box rfl h.Y (by rfl) Tryd.underlying25 rfl (by kernel_rfl)) ?_
        simp only [Act.put, List.setIfInBounds_toArray, List.set_cons_zero, List.set_cons_succ]
        refine wpW_free 5 hKS rfl (by kernel_rfl) (by kernel_rfl) (by kernel_rfl) (by kernel_rfl) rfl (fun _ _ _ _ h => h) (.int .i64 (L d2).ks.length) (fun w' => by simp [go_sem]) ?_
        simp only [Act.put, List.setIfInBounds_toArray, List.set_cons_zero, List.set_cons_succ]
        refine wpW_one 6 rfl (by kernel_rfl) (by kernel_rfl) rfl ?_
        intro w5 b5 s5
        refine wp_of_run (.slice (some ⟨w5.heap.size, 0, none⟩) 1 1) (w5.alloc (.cells SV.nil.cells 25)) (by simp [go_sem]; rfl) ?_
        refine ⟨hKS _ _ s5 ((Below.refl _ _).alloc (Nat.le_refl _) _), ?_⟩
        simp only [Act.put, List.setIfInBounds_toArray, List.set_cons_zero, List.set_cons_succ]
        refine wpW_write 7 rfl (by kernel_rfl) (by kernel_rfl) rfl ?_
        intro w6 b6 s6
        have hsrc := src_box SV.nil ((Box.new w5 25 SV.nil.cells).after b6)
        refine wp_append_K _ _ rfl rfl (s6.S.kid d2 (by omega)) rfl hsrc (by omega) s6.X.lt ?_
        intro v7 w7 ho7 hg7 hw7
        rw [newsK_snoc] at ho7
        obtain ⟨ta7, tc7, rfl, _⟩ := ho7.row
        obtain ⟨b7, o7, rfl, hle7, hmx7⟩ := ho7.at_ (by omega)
        simp only [Act.put, List.setIfInBounds_toArray, List.set_cons_zero, List.set_cons_succ]
        refine wpU_val 8 keeps_true rfl (by kernel_rfl) (by kernel_rfl) (by kernel_rfl) rfl (fun _ _ _ _ h => h) (.pointer (some ⟨b7, o7 + (L d2).ks.length * 5, none⟩)) (fun w' h => by simp [go_sem]; intro hh; omega) ?_
        simp only [Act.put, List.setIfInBounds_toArray, List.set_cons_zero, List.set_cons_succ]
        refine wpU_val 10 keeps_true rfl (by kernel_rfl) (by kernel_rfl) (by kernel_rfl) rfl (fun _ _ _ _ h => h) (.pointer (some ⟨bo, oo + d2 * 5, none⟩)) (fun w' h => by simp [go_sem]) ?_
        simp only [Act.put, List.setIfInBounds_toArray, List.set_cons_zero, List.set_cons_succ]
        refine wpU_val 11 keeps_true rfl (by kernel_rfl) (by kernel_rfl) (by kernel_rfl) rfl (fun _ _ _ _ h => h) (.pointer (some ⟨bo, oo + d2 * 5 + 4, none⟩)) (fun w' h => by simp [go_sem]) ?_
        simp only [Act.put, List.setIfInBounds_toArray, List.set_cons_zero, List.set_cons_succ]
        obtain ⟨LN, hLN⟩ : ∃ LN : Lev, LN = ⟨(L d2).ks ++ [s], some ⟨b7, o7, none⟩, tc7, fun i => if i = (L d2).ks.length then ⟨vl, vh, a1, n1, c1, a2, n2, c2, a3, n3, c3⟩ else (L d2).K i⟩ := ⟨_, rfl⟩
        have FIN : ∀ w10, But (fun k => k = bo ∨ (L d2).val.ownBlock = some k) w6 w10 → Stt w10 w.heap.size (.slice (some ⟨bo, oo, none⟩) (d2 + 1) co1) (updL L d2 LN) (d2 + 1) → VF w w10 g (RdC a n c p1 m1 (.slice (some ⟨bo, oo, none⟩) (d2 + 1) co1)) (.slice (some ⟨bo, oo, none⟩) (d2 + 1) co1) (updL L d2 LN) (d2 + 1) := fun w10 B10 S10 =>
          have hno : ∀ k, k ≤ w.heap.size → ¬ (k = bo ∨ (L d2).val.ownBlock = some k) := fun k hk e => by
            rcases e with e | e
            · have := s6.S.own.lt bo (by simp [Value.ownBlock]); omega
            · have := (s6.S.kid d2 (by omega)).lt k e; omega
          ⟨B10.box s6.R (hno g (Nat.le_of_lt hgw)), S10, B10.box s6.X (hno _ (Nat.le_refl _)), B10.after s6.B (Nat.le_of_lt s6.R.lt) (fun k hk => by
            rcases Nat.lt_or_ge w.heap.size k with h | h
            · omega
            · exact absurd hk (hno k h))⟩
        refine wpU_two 9 12 rfl rfl (by kernel_rfl) rfl rfl ?_ ?_
        · intro w8 b8 _
          obtain ⟨hth, _⟩ := (ho7.after b8).setElem (L d2).ks.length (by omega) ⟨vl, vh, a1, n1, c1, a2, n2, c2, a3, n3, c3⟩
          refine wp_store_elem 25 _ _ rfl b7 (o7 + (L d2).ks.length * 5) ⟨vl, vh, a1, n1, c1, a2, n2, c2, a3, n3, c3⟩ rfl rfl hth (by kernel_rfl) ?_
          refine ⟨trivial, ?_⟩
          simp only [Act.put, List.setIfInBounds_toArray, List.set_cons_zero, List.set_cons_succ]
          refine wpU_one 12 rfl (by kernel_rfl) rfl ?_
          intro w9 b9 _
          obtain ⟨⟨_, hc9⟩, hf9, _, _⟩ := add_end s6.S s6.D hg7 hw7 ho7 b8 b9 (Below.refl _ _)
          refine wp_store_slice 23 _ _ rfl rfl rfl hc9 hf9 (fun w => by simp [go_sem]) ?_
          refine ⟨trivial, ?_⟩
          simp only [Act.put, List.setIfInBounds_toArray, List.set_cons_zero, List.set_cons_succ]
          refine wpU_done (by kernel_rfl) ?_
          intro w10 b10 _
          obtain ⟨_, _, B10, S10⟩ := add_end s6.S s6.D hg7 hw7 ho7 b8 b9 b10
          have HF := Lib.hid (FIN w10 B10 (by rw [hLN]; exact S10))
          have HLN : Hid (LN.ks = (L d2).ks ++ [s]) := Lib.hid (by rw [hLN])
          clear hKS b5 s5 b6 s6 hsrc ho7 hg7 hw7 hle7 hmx7 b8 hth b9 hc9 hf9 b10 B10 S10 FIN VS0 hLN
          have e9 := atOf_eq HF.out.R
          go_wp2_with fail
          go_roundw
          case rel => exact ⟨p1, m1, d2 + 1, _, co1, updL L d2 LN, hp2, hm1, hd16, Lib.hid (fun r h => HTO2.out r (by rw [stk_upd, HLN.out] at h; exact h)), Lib.hid (fun i hi => by
            have hpp := HP.out
            by_cases hid : i = d2
            · subst hid; rw [updL_same, HLN.out]; have := HKL.out i (by have := HDD.out; omega); simp; omega
            · rw [updL_other L _ hid]; have := HKL.out i (by have := HDD.out; omega); omega), HF.out.R, HF.out.S, HF.out.X, HF.out.B⟩
          case measure => rw [HAT.out, e9]; have := HP.out; omega
        · intro w8 b8 _
          obtain ⟨⟨_, hc9⟩, hf9, _⟩ := add_end' s6.S s6.D hg7 hw7 ho7 b8 (Below.refl _ _) (Below.refl _ _)
          refine wp_store_slice 23 _ _ rfl rfl rfl hc9 hf9 (fun w => by simp [go_sem]) ?_
          refine ⟨trivial, ?_⟩
          simp only [Act.put, List.setIfInBounds_toArray, List.set_cons_zero, List.set_cons_succ]
          refine wpU_one 9 rfl (by kernel_rfl) rfl ?_
          intro w9 b9 _
          obtain ⟨_, _, hth, _⟩ := add_end' s6.S s6.D hg7 hw7 ho7 b8 b9 (Below.refl _ _)
          refine wp_store_elem 25 _ _ rfl b7 (o7 + (L d2).ks.length * 5) ⟨vl, vh, a1, n1, c1, a2, n2, c2, a3, n3, c3⟩ rfl rfl hth (by kernel_rfl) ?_
          refine ⟨trivial, ?_⟩
          simp only [Act.put, List.setIfInBounds_toArray, List.set_cons_zero, List.set_cons_succ]
          refine wpU_done (by kernel_rfl) ?_
          intro w10 b10 _
          obtain ⟨_, _, _, B10, S10⟩ := add_end' s6.S s6.D hg7 hw7 ho7 b8 b9 b10
          have HF := Lib.hid (FIN w10 B10 (by rw [hLN]; exact S10))
          have HLN : Hid (LN.ks = (L d2).ks ++ [s]) := Lib.hid (by rw [hLN])
          clear hKS b5 s5 b6 s6 hsrc ho7 hg7 hw7 hle7 hmx7 b8 hth b9 hc9 hf9 b10 B10 S10 FIN VS0 hLN
          have e9 := atOf_eq HF.out.R
          go_wp2_with fail
          go_roundw
          case rel => exact ⟨p1, m1, d2 + 1, _, co1, updL L d2 LN, hp2, hm1, hd16, Lib.hid (fun r h => HTO2.out r (by rw [stk_upd, HLN.out] at h; exact h)), Lib.hid (fun i hi => by
            have hpp := HP.out
            by_cases hid : i = d2
            · subst hid; rw [updL_same, HLN.out]; have := HKL.out i (by have := HDD.out; omega); simp; omega
            · rw [updL_other L _ hid]; have := HKL.out i (by have := HDD.out; omega); omega), HF.out.R, HF.out.S, HF.out.X, HF.out.B⟩
          case measure => rw [HAT.out, e9]; have := HP.out; omega

end Go.Proofs.YtcflgoddfakepaaDoor
namespace Go.Proofs.YtcflgoddfakepaaDoor
open Go.RowKit
set_option linter.unusedSimpArgs false
set_option linter.unusedVariables false

set_option maxHeartbeats 4000000 in
set_option maxRecDepth 100000 in
theorem get1_idle (V A E : Nat) (w : World) :
    CallsD Tryd.prog 32 #[.pointer (some ⟨V, 0, none⟩), .pointer (some ⟨A, 0, none⟩), .pointer (some ⟨E, 0, none⟩)] .returning w fun e u' w' => e = .returned (.tuple #[]) ∧ u' = .returning ∧ w' = w := by
  refine callsD_of_wpS Tryd.func32 rfl fun c₀ cs hu => ?_
  apply wpS_seq
  apply wpS_region
  simp [wpOpsS, go_sem, recoverD, hu, Tryd.ntmps32, Exit.thenS]
  refine wpS_of_wp ?_
  go_wp2_with fail
  cases c₀
  simp_all [bodyPostS, results, Tryd.results32]

set_option maxHeartbeats 4000000 in
set_option maxRecDepth 100000 in
theorem get1_fault (V A E p x : Nat) (older : List PanicEntry) (w : World) (vc : Array Value) (hV : Box w V 25 vc) (hvc : vc.size = 5) (z1 z2 : Int) (hA : Box w A 3 #[.int .i64 z1]) (hE : Box w E 29 #[.int .i64 z2]) (hVA : V ≠ A) (hVE : V ≠ E) (hAE : A ≠ E) :
    CallsD Tryd.prog 32 #[.pointer (some ⟨V, 0, none⟩), .pointer (some ⟨A, 0, none⟩), .pointer (some ⟨E, 0, none⟩)] (.panicking ({ v := .iface 56 (.agg #[.int .i64 p, .int .i64 x]), recovered := false } :: older)) w fun e u' w' =>
      e = .returned (.tuple #[]) ∧ u' = .panicking ({ v := .iface 56 (.agg #[.int .i64 p, .int .i64 x]), recovered := true } :: older) ∧ Box w' V 25 #[.bool false, .bool false, .slice none 0 0, .slice none 0 0, .slice none 0 0] ∧ Box w' A 3 #[.int .i64 p] ∧ Box w' E 29 #[.int .i64 x] ∧ But (fun k => k = V ∨ k = A ∨ k = E) w w' := by
  refine callsD_of_wpS Tryd.func32 rfl fun c₀ cs hu => ?_
  have HV := Lib.hid hV
  have HA := Lib.hid hA
  have HE := Lib.hid hE
  have hta : ∀ w, (Instr.typeAssert (.iface 56 (.agg #[.int .i64 p, .int .i64 x])) 20 56 true).run Tryd.prog w = .ok (.tuple #[.agg #[.int .i64 p, .int .i64 x], .bool true]) w := fun _ => by kernel_rfl
  apply wpS_seq
  apply wpS_region
  simp [wpOpsS, go_sem, recoverD, hu, Tryd.ntmps32, Exit.thenS]
  refine wpS_of_wp ?_
  have hVw := hV.lt
  have hAw := hA.lt
  have hEw := hE.lt
  have Y0 := Box.new w 56 #[.int .i64 0, .int .i64 0]
  clear hV hA hE
  change Code.wp _ _ _ { tmps := #[.pointer (some ⟨V, 0, none⟩), .pointer (some ⟨A, 0, none⟩), .pointer (some ⟨E, 0, none⟩), undef, undef, undef, .iface 56 (.agg #[.int .i64 p, .int .i64 x]), undef, undef, undef, undef, undef, undef, undef, undef, undef, undef], defers := [] } w
  go_upto_region 6 with fail
  go_upto_region 7 with (refine wpList_store_box (cells := #[.int .i64 p, .int .i64 x]) rfl 56 _ _ rfl Y0 (by rfl) (by rfl) rfl (by kernel_rfl) (by simp [Value.oneCell']) ?_; intro u9 X9 st9)
  have HB1 : Hid (But (fun _ => False) w u9) := Lib.hid (But.ofBelow (st9.below w.heap.size w (Nat.le_refl _) ((Below.refl _ _).alloc (Nat.le_refl _) _)))
  have HV1 := Lib.hid (HB1.out.box HV.out (fun h => h))
  have HA1 := Lib.hid (HB1.out.box HA.out (fun h => h))
  have HE1 := Lib.hid (HB1.out.box HE.out (fun h => h))
  replace HV := HV1
  replace HA := HA1
  replace HE := HE1
  clear st9 Y0 HV1 HA1 HE1
  obtain ⟨F, hF⟩ : ∃ F, F = w.heap.size := ⟨_, rfl⟩
  have hVF : V ≠ F := by omega
  have hAF : A ≠ F := by omega
  have hEF : E ≠ F := by omega
  have YF := X9
  rw [← hF] at YF ⊢
  clear X9
  have hKS : Keeps (fun w' => Box w' F 56 #[.int .i64 p, .int .i64 x]) := fun w w' h b => h.after b
  refine wp_region_U (w := u9) (fun w' => Box w' F 56 #[.int .i64 p, .int .i64 x]) rfl YF.drew ?_
  refine wpU_val 0 hKS rfl (by kernel_rfl) (by kernel_rfl) (by kernel_rfl) rfl (fun _ _ _ _ h => h) (.agg #[.bool false, .bool false, .slice none 0 0, .slice none 0 0, .slice none 0 0]) (fun w' h => by simp [go_sem]) ?_
  simp only [Act.put, List.setIfInBounds_toArray, List.set_cons_zero, List.set_cons_succ]
  refine wpU_val 1 hKS rfl (by kernel_rfl) (by kernel_rfl) (by kernel_rfl) rfl (fun _ _ _ _ h => h) (.pointer (some ⟨F, 0, none⟩)) (fun w' h => by simp [go_sem]) ?_
  simp only [Act.put, List.setIfInBounds_toArray, List.set_cons_zero, List.set_cons_succ]
  refine wpU_val 2 hKS rfl (by kernel_rfl) (by kernel_rfl) (by kernel_rfl) rfl (fun _ _ _ _ h => h) (.int .i64 p) (fun w' h => by simp [go_sem, h.cell 0 rfl]) ?_
  simp only [Act.put, List.setIfInBounds_toArray, List.set_cons_zero, List.set_cons_succ]
  refine wpU_val 3 hKS rfl (by kernel_rfl) (by kernel_rfl) (by kernel_rfl) rfl (fun _ _ _ _ h => h) (.pointer (some ⟨F, 1, none⟩)) (fun w' h => by simp [go_sem]) ?_
  simp only [Act.put, List.setIfInBounds_toArray, List.set_cons_zero, List.set_cons_succ]
  refine wpU_val 4 hKS rfl (by kernel_rfl) (by kernel_rfl) (by kernel_rfl) rfl (fun _ _ _ _ h => h) (.int .i64 x) (fun w' h => by simp [go_sem, h.cell 1 rfl]) ?_
  simp only [Act.put, List.setIfInBounds_toArray, List.set_cons_zero, List.set_cons_succ]
  refine wpU_store_box (cells := #[.bool false, .bool false, .slice none 0 0, .slice none 0 0, .slice none 0 0]) 5 rfl (by kernel_rfl) rfl 25 _ _ rfl HV.out.drew (by rfl) (by rfl) (by simpa using hvc) (by kernel_rfl) (by simp [Value.oneCell']) ?_
  intro w2 w3 b2 s2 V3 st3
  have b23 : But (fun k => k = V) w2 w3 := But.ofStored st3 (st3.below 0 w2 (Nat.zero_le _) (Below.refl _ _))
  refine ⟨b23.box s2 hVF.symm, ?_⟩
  simp only [Act.put, List.setIfInBounds_toArray, List.set_cons_zero, List.set_cons_succ]
  have A3 := b23.box (HA.out.drew.after b2) hVA.symm
  have E3 := b23.box (HE.out.drew.after b2) hVE.symm
  refine wpU_store_cell 6 rfl (by kernel_rfl) rfl 3 _ _ rfl A3 0 (k := .i64) (n := (p : Int)) rfl rfl (show 0 < 1 by decide) (fun w => by simp [go_sem]) ?_
  intro w4 w5 b4 s4 A5 st5
  have b45 : But (fun k => k = A) w4 w5 := But.ofStored st5 (st5.below 0 w4 (Nat.zero_le _) (Below.refl _ _))
  refine ⟨b45.box s4 hAF.symm, ?_⟩
  simp only [Act.put, List.setIfInBounds_toArray, List.set_cons_zero, List.set_cons_succ]
  have E5 := b45.box (E3.after b4) hAE.symm
  have V5 := b45.box (V3.after b4) hVA
  refine wpU_store_cell 7 rfl (by kernel_rfl) rfl 29 _ _ rfl E5 0 (k := .i64) (n := (x : Int)) rfl rfl (show 0 < 1 by decide) (fun w => by simp [go_sem]) ?_
  intro w6 w7 b6 s6 E7 st7
  have b67 : But (fun k => k = E) w6 w7 := But.ofStored st7 (st7.below 0 w6 (Nat.zero_le _) (Below.refl _ _))
  refine ⟨b67.box s6 hEF.symm, ?_⟩
  simp only [Act.put, List.setIfInBounds_toArray, List.set_cons_zero, List.set_cons_succ]
  have A7 := b67.box (A5.after b6) hAE
  have V7 := b67.box (V5.after b6) hVE
  refine wpU_done (by kernel_rfl) ?_
  intro w8 b8 s8
  have V8 := V7.after b8
  have A8 : Box w8 A 3 #[.int .i64 p] := A7.after b8
  have E8 : Box w8 E 29 #[.int .i64 x] := E7.after b8
  have ev : ∀ u v : World, Below u.heap.size u v → But (fun _ => False) u v := fun u v h => But.ofBelow h
  have B8 : But (fun k => k = V ∨ k = A ∨ k = E) w w8 := ((((((HB1.out.mono (fun k hk => hk.elim)).trans (ev _ _ ((Below.refl _ _).drew.trans b2)) (fun k hk => hk.elim)).trans b23 (fun k hk => .inl (.inl hk))).trans (ev _ _ b4) (fun k hk => hk.elim)).trans b45 (fun k hk => .inl (.inr (.inl hk)))).trans (ev _ _ b6) (fun k hk => hk.elim)).trans (b67.trans (ev _ _ b8) (fun k hk => hk.elim)) (fun k hk => .inl (.inr (.inr hk)))
  clear hKS s2 s4 s6 s8 A3 E3 A5 E5 V3 V5 V7 A7 E7 b2 b4 b6 b8 b23 b45 b67 ev st3 st5 st7 HV HA HE YF
  go_wp2_with fail
  cases c₀
  simp_all [bodyPostS, results, Tryd.results32]

set_option maxHeartbeats 4000000 in
set_option maxRecDepth 100000 in
theorem get_long (a : Option Addr) (n c : Nat) (l : List UInt8) (w : World) (hs : Sl w a n c l) (hlong : 4096 < n) :
    Calls Tryd.prog 19 #[.slice a n c] w (GetP (fun _ => True) l w) := by
  have HS := Lib.hid hs
  have HL := Lib.hid (show n = l.length from hs.1)
  have hmf : ∀ (fn : Fn) (first cap : Array Value) (w : World), (Instr.makeFunc fn first cap).run Tryd.prog w = .ok (.func fn first cap) w := fun _ _ _ _ => rfl
  have B0 : Below w.heap.size w (((w.alloc (.cells #[.bool false, .bool false, .slice none 0 0, .slice none 0 0, .slice none 0 0] 25)).alloc (.cells #[.int .i64 0] 3)).alloc (.cells #[.int .i64 0] 29)) := (((Below.refl _ _).alloc (Nat.le_refl _) _).alloc (by simp) _).alloc (by simp; omega) _
  have V0 : Box (((w.alloc (.cells #[.bool false, .bool false, .slice none 0 0, .slice none 0 0, .slice none 0 0] 25)).alloc (.cells #[.int .i64 0] 3)).alloc (.cells #[.int .i64 0] 29)) w.heap.size 25 #[.bool false, .bool false, .slice none 0 0, .slice none 0 0, .slice none 0 0] := ((Box.new _ _ _).alloc _).alloc _
  have A0 : Box (((w.alloc (.cells #[.bool false, .bool false, .slice none 0 0, .slice none 0 0, .slice none 0 0] 25)).alloc (.cells #[.int .i64 0] 3)).alloc (.cells #[.int .i64 0] 29)) (w.heap.size + 1) 3 #[.int .i64 0] := by
    have := (Box.new (w.alloc (.cells #[.bool false, .bool false, .slice none 0 0, .slice none 0 0, .slice none 0 0] 25)) 3 #[.int .i64 0]).alloc (.cells #[.int .i64 0] 29)
    simpa using this
  have E0 : Box (((w.alloc (.cells #[.bool false, .bool false, .slice none 0 0, .slice none 0 0, .slice none 0 0] 25)).alloc (.cells #[.int .i64 0] 3)).alloc (.cells #[.int .i64 0] 29)) (w.heap.size + 2) 29 #[.int .i64 0] := by
    have := Box.new ((w.alloc (.cells #[.bool false, .bool false, .slice none 0 0, .slice none 0 0, .slice none 0 0] 25)).alloc (.cells #[.int .i64 0] 3)) 29 #[.int .i64 0]
    simpa using this
  have z0 : ((((w.alloc (.cells #[.bool false, .bool false, .slice none 0 0, .slice none 0 0, .slice none 0 0] 25)).alloc (.cells #[.int .i64 0] 3)).alloc (.cells #[.int .i64 0] 29))).heap.size = w.heap.size + 3 := by simp
  have HZ0 := Lib.hid z0
  replace V0 := Lib.hid V0
  replace A0 := Lib.hid A0
  replace E0 := Lib.hid E0
  clear hs z0
  have hlong' : (4096 : Int) < (n : Int) := by omega
  go_enter_defers Tryd.func19, Tryd.ntmps19
  go_upto_region 1 with fail
  change Code.wp _ _ _ _ (((w.alloc (.cells #[.bool false, .bool false, .slice none 0 0, .slice none 0 0, .slice none 0 0] 25)).alloc (.cells #[.int .i64 0] 3)).alloc (.cells #[.int .i64 0] 29))
  generalize (((w.alloc (.cells #[.bool false, .bool false, .slice none 0 0, .slice none 0 0, .slice none 0 0] 25)).alloc (.cells #[.int .i64 0] 3)).alloc (.cells #[.int .i64 0] 29)) = u0 at *
  have BX := B0
  go_wp2_with (refine wpList_store_box (cells := #[.bool false, .bool false, .slice none 0 0, .slice none 0 0, .slice none 0 0]) rfl 25 _ _ rfl V0.out (by rfl) (by rfl) rfl (by kernel_rfl) (by simp [Value.oneCell']) ?_; intro u9 X9 st9; have a9 := (st9.box A0.out (by omega)).cell 0 rfl; have fa9 := (st9.box A0.out (by omega)).frozen 0; have e9 := (st9.box E0.out (by omega)).cell 0 rfl; have fe9 := (st9.box E0.out (by omega)).frozen 0)
  have b9 : Below w.heap.size w ((u9.setCell ⟨w.heap.size + 1, 0, none⟩ (.int .i64 4096)).setCell ⟨w.heap.size + 1 + 1, 0, none⟩ (.int .i64 4)) := ((st9.below w.heap.size w (Nat.le_refl _) BX).setCell (p := ⟨w.heap.size + 1, 0, none⟩) (by show w.heap.size ≤ w.heap.size + 1; omega) _).setCell (p := ⟨w.heap.size + 1 + 1, 0, none⟩) (by show w.heap.size ≤ w.heap.size + 1 + 1; omega) _
  have V9 := (X9.far ⟨w.heap.size + 1, 0, none⟩ (.int .i64 4096) (by show w.heap.size ≠ w.heap.size + 1; omega)).far ⟨w.heap.size + 1 + 1, 0, none⟩ (.int .i64 4) (by show w.heap.size ≠ w.heap.size + 1 + 1; omega)
  have A9 : Box ((u9.setCell ⟨w.heap.size + 1, 0, none⟩ (.int .i64 4096)).setCell ⟨w.heap.size + 1 + 1, 0, none⟩ (.int .i64 4)) (w.heap.size + 1) 3 #[.int .i64 4096] := ((st9.box A0.out (by omega)).set 0 (.int .i64 4096)).far ⟨w.heap.size + 1 + 1, 0, none⟩ (.int .i64 4) (by show w.heap.size + 1 ≠ w.heap.size + 1 + 1; omega)
  have E9 : Box ((u9.setCell ⟨w.heap.size + 1, 0, none⟩ (.int .i64 4096)).setCell ⟨w.heap.size + 1 + 1, 0, none⟩ (.int .i64 4)) (w.heap.size + 1 + 1) 29 #[.int .i64 4] := ((st9.box E0.out (by omega)).far ⟨w.heap.size + 1, 0, none⟩ (.int .i64 4096) (by show w.heap.size + 2 ≠ w.heap.size + 1; omega)).set 0 (.int .i64 4)
  generalize ((u9.setCell ⟨w.heap.size + 1, 0, none⟩ (.int .i64 4096)).setCell ⟨w.heap.size + 1 + 1, 0, none⟩ (.int .i64 4)) = u8 at *
  have cc0 : u8.cell? ⟨w.heap.size, 0, none⟩ = some (.bool false) := V9.cell 0 rfl
  have cc1 : u8.cell? ⟨w.heap.size, 1, none⟩ = some (.bool false) := V9.cell 1 rfl
  have cc2 : u8.cell? ⟨w.heap.size, 2, none⟩ = some (.slice none 0 0) := V9.cell 2 rfl
  have cc3 : u8.cell? ⟨w.heap.size, 3, none⟩ = some (.slice none 0 0) := V9.cell 3 rfl
  have cc4 : u8.cell? ⟨w.heap.size, 4, none⟩ = some (.slice none 0 0) := V9.cell 4 rfl
  have ca : u8.cell? ⟨w.heap.size + 1, 0, none⟩ = some (.int .i64 4096) := A9.cell 0 rfl
  have ce : u8.cell? ⟨w.heap.size + 1 + 1, 0, none⟩ = some (.int .i64 4) := E9.cell 0 rfl
  refine leaves_cons (f := 32) (args := #[.pointer (some ⟨w.heap.size, 0, none⟩), .pointer (some ⟨w.heap.size + 1, 0, none⟩), .pointer (some ⟨w.heap.size + 1 + 1, 0, none⟩)]) (by simp) (by simp [go_sem]) ?_
  refine (get1_idle _ _ _ _).mono ?_
  rintro e u' w'' ⟨rfl, rfl, rfl⟩
  simp [Leaves, settle, results, Tryd.results19, go_sem, cc0, cc1, cc2, cc3, cc4, ca, ce]
  exact ⟨SV.nil, Sx.nil, 4096, 4, .inl ⟨by have := HL.out; omega, rfl, rfl, rfl⟩, rfl, rd_nil _ _, b9⟩

end Go.Proofs.YtcflgoddfakepaaDoor
namespace Go.Proofs.YtcflgoddfakepaaDoor
open Go.RowKit
set_option linter.unusedSimpArgs false
set_option linter.unusedVariables false

/-- what a frame that leaves does asks for its results' slots alone -/
theorem leaves_put {P : Program} {fn : Func} {R : Ending → World → Prop} {t t' : Array Value} (h : results fn t' = results fn t) : ∀ (ds : List Deferred) (u : FrameMode) (w : World), Leaves P fn t' R ds u w → Leaves P fn t R ds u w
  | [], .returning, w => by unfold Leaves; rw [h]; exact id
  | [], .panicking c, w => id
  | [], .run, w => id
  | d :: ds, u, w => fun ⟨h1, fv, cap, f, args, h2, h3, h4⟩ => ⟨h1, fv, cap, f, args, h2, h3, h4.mono fun e u' w' he => by
      cases e with
      | returned v => exact leaves_put h ds _ _ he
      | panicked c => exact leaves_put h ds _ _ he
      | outgrown => exact he⟩

set_option maxHeartbeats 8000000 in
set_option maxRecDepth 100000 in
theorem get_short (a : Option Addr) (n c : Nat) (l : List UInt8) (w : World) (hs : Sl w a n c l) (hlong : n ≤ 4096) :
    Calls Tryd.prog 19 #[.slice a n c] w (GetP (fun _ => True) l w) := by
  have HS := Lib.hid hs
  have HL := Lib.hid (show n = l.length from hs.1)
  have hmf : ∀ (fn : Fn) (first cap : Array Value) (w : World), (Instr.makeFunc fn first cap).run Tryd.prog w = .ok (.func fn first cap) w := fun _ _ _ _ => rfl
  have B0 : Below w.heap.size w (((w.alloc (.cells #[.bool false, .bool false, .slice none 0 0, .slice none 0 0, .slice none 0 0] 25)).alloc (.cells #[.int .i64 0] 3)).alloc (.cells #[.int .i64 0] 29)) := (((Below.refl _ _).alloc (Nat.le_refl _) _).alloc (by simp) _).alloc (by simp; omega) _
  have V0 : Box (((w.alloc (.cells #[.bool false, .bool false, .slice none 0 0, .slice none 0 0, .slice none 0 0] 25)).alloc (.cells #[.int .i64 0] 3)).alloc (.cells #[.int .i64 0] 29)) w.heap.size 25 #[.bool false, .bool false, .slice none 0 0, .slice none 0 0, .slice none 0 0] := ((Box.new _ _ _).alloc _).alloc _
  have A0 : Box (((w.alloc (.cells #[.bool false, .bool false, .slice none 0 0, .slice none 0 0, .slice none 0 0] 25)).alloc (.cells #[.int .i64 0] 3)).alloc (.cells #[.int .i64 0] 29)) (w.heap.size + 1) 3 #[.int .i64 0] := by
    have := (Box.new (w.alloc (.cells #[.bool false, .bool false, .slice none 0 0, .slice none 0 0, .slice none 0 0] 25)) 3 #[.int .i64 0]).alloc (.cells #[.int .i64 0] 29)
    simpa using this
  have E0 : Box (((w.alloc (.cells #[.bool false, .bool false, .slice none 0 0, .slice none 0 0, .slice none 0 0] 25)).alloc (.cells #[.int .i64 0] 3)).alloc (.cells #[.int .i64 0] 29)) (w.heap.size + 2) 29 #[.int .i64 0] := by
    have := Box.new ((w.alloc (.cells #[.bool false, .bool false, .slice none 0 0, .slice none 0 0, .slice none 0 0] 25)).alloc (.cells #[.int .i64 0] 3)) 29 #[.int .i64 0]
    simpa using this
  have z0 : ((((w.alloc (.cells #[.bool false, .bool false, .slice none 0 0, .slice none 0 0, .slice none 0 0] 25)).alloc (.cells #[.int .i64 0] 3)).alloc (.cells #[.int .i64 0] 29))).heap.size = w.heap.size + 3 := by simp
  have HZ0 := Lib.hid z0
  replace V0 := Lib.hid V0
  replace A0 := Lib.hid A0
  replace E0 := Lib.hid E0
  clear hs z0
  have hlong' : ¬ (4096 : Int) < (n : Int) := by omega
  go_enter_defers Tryd.func19, Tryd.ntmps19
  go_upto_region 1 with fail
  change Code.wp _ _ _ _ (((w.alloc (.cells #[.bool false, .bool false, .slice none 0 0, .slice none 0 0, .slice none 0 0] 25)).alloc (.cells #[.int .i64 0] 3)).alloc (.cells #[.int .i64 0] 29))
  generalize (((w.alloc (.cells #[.bool false, .bool false, .slice none 0 0, .slice none 0 0, .slice none 0 0] 25)).alloc (.cells #[.int .i64 0] 3)).alloc (.cells #[.int .i64 0] 29)) = u0 at *
  go_wp2_with fail
  refine (valueR_any u0.heap.size a n c l _ (Box.new u0 59 #[.slice a n c, .int .i64 0, .int .i64 0, .slice none 0 0]) ((HS.out.after B0).after ((Below.refl _ _).alloc (Nat.le_refl _) _)) (HS.out.inB.mono (fun k hk => by have := HZ0.out; omega)) (by omega)).mono ?_
  rintro e w1 ⟨bg, r, hm, ⟨hr, rfl⟩ | ⟨hr, v, m, vo, rfl, rd, R1⟩⟩
  · have HM := Lib.hid (hm.toSt : St l none 0 1 0 r)
    have bw1 : Below u0.heap.size u0 w1 := ((Below.refl _ _).alloc (Nat.le_refl _) _).trans bg
    have V1 := V0.out.after bw1
    have A1 := A0.out.after bw1
    have E1 := E0.out.after bw1
    have B1 := B0.trans (bw1.mono B0.size)
    clear hm bg
    unfold FaultE
    refine leaves_cons (f := 32) (args := #[.pointer (some ⟨w.heap.size, 0, none⟩), .pointer (some ⟨w.heap.size + 1, 0, none⟩), .pointer (some ⟨w.heap.size + 1 + 1, 0, none⟩)]) (by simp) (by simp [go_sem]) ?_
    refine (get1_fault w.heap.size (w.heap.size + 1) (w.heap.size + 1 + 1) r.p r.e [] w1 #[.bool false, .bool false, .slice none 0 0, .slice none 0 0, .slice none 0 0] V1 rfl 0 0 A1 E1 (by omega) (by omega) (by omega)).mono ?_
    rintro e u' w2 ⟨rfl, rfl, V9, A9, E9, b2⟩
    have b9 : Below w.heap.size w w2 := b2.after B1 B1.size (fun k hk => by omega)
    have cc0 : w2.cell? ⟨w.heap.size, 0, none⟩ = some (.bool false) := V9.cell 0 rfl
    have cc1 : w2.cell? ⟨w.heap.size, 1, none⟩ = some (.bool false) := V9.cell 1 rfl
    have cc2 : w2.cell? ⟨w.heap.size, 2, none⟩ = some (.slice none 0 0) := V9.cell 2 rfl
    have cc3 : w2.cell? ⟨w.heap.size, 3, none⟩ = some (.slice none 0 0) := V9.cell 3 rfl
    have cc4 : w2.cell? ⟨w.heap.size, 4, none⟩ = some (.slice none 0 0) := V9.cell 4 rfl
    have ca : w2.cell? ⟨w.heap.size + 1, 0, none⟩ = some (.int .i64 r.p) := A9.cell 0 rfl
    have ce : w2.cell? ⟨w.heap.size + 1 + 1, 0, none⟩ = some (.int .i64 r.e) := E9.cell 0 rfl
    simp [Leaves, settle, results, Tryd.results19, go_sem, cc0, cc1, cc2, cc3, cc4, ca, ce]
    exact ⟨SV.nil, Sx.nil, r.p, r.e, .inr ⟨by have := HL.out; omega, r, HM.out, .inl ⟨hr, rfl, rfl, rfl⟩⟩, rfl, rd_nil _ _, b9⟩
  obtain ⟨vl, vh, a1, n1, c1, a2, n2, c2, a3, n3, c3⟩ := v
  unfold SV.val
  have HM := Lib.hid (hm.toSt : St l none 0 1 0 r)
  have bw1 : Below u0.heap.size u0 w1 := ((Below.refl _ _).alloc (Nat.le_refl _) _).trans bg
  have V1 := V0.out.after bw1
  have A1 := A0.out.after bw1
  have E1 := E0.out.after bw1
  have B1 := B0.trans (bw1.mono B0.size)
  obtain ⟨rv, rp, rn, re⟩ := r
  dsimp only at R1 rd hr
  subst hr
  have HRD := Lib.hid rd
  clear hm bg rd bw1
  go_upto_region 6 with (refine wpList_store_box (cells := #[.bool vl, .bool vh, .slice a1 n1 c1, .slice a2 n2 c2, .slice a3 n3 c3]) rfl 25 _ _ rfl V1 (by rfl) (by rfl) rfl (by kernel_rfl) (by simp [Value.oneCell']) ?_; intro u5 V5 st5)
  have B5 := st5.below w.heap.size w (Nat.le_refl _) B1
  have A5 := st5.box A1 (by omega)
  have E5 := st5.box E1 (by omega)
  have R5 := st5.box R1 (by have := HZ0.out; omega)
  have RD5 := HRD.out.keep (fun k hk => st5.other k (by have := HZ0.out; omega))
  have HRD5 := Lib.hid RD5
  have x1 : u5.cell? ⟨u0.heap.size, 1, none⟩ = some (.int .i64 rp) := R5.cell 1 rfl
  clear V1 A1 E1 R1 B1 st5 HRD RD5
  by_cases hmore : rp < n
  · have hmore' : (rp : Int) < (n : Int) := by omega
    obtain ⟨V, hV⟩ : ∃ V, V = w.heap.size := ⟨_, rfl⟩
    obtain ⟨A, hA⟩ : ∃ A, A = w.heap.size + 1 := ⟨_, rfl⟩
    obtain ⟨E, hE⟩ : ∃ E, E = w.heap.size + 1 + 1 := ⟨_, rfl⟩
    have hVA : V ≠ A := by omega
    have hVE : V ≠ E := by omega
    have hAE : A ≠ E := by omega
    have hVG : V ≠ u0.heap.size := by have := HZ0.out; omega
    have hAG : A ≠ u0.heap.size := by have := HZ0.out; omega
    have hEG : E ≠ u0.heap.size := by have := HZ0.out; omega
    go_upto_region 7 with fail
    rw [← hE, ← hA, ← hV]
    rw [← hV] at V5
    replace A5 : Box u5 A 3 #[.int .i64 0] := by rw [hA]; exact A5
    replace E5 : Box u5 E 29 #[.int .i64 0] := by rw [hE]; exact E5
    have hKS : Keeps (fun w' => Box w' u0.heap.size 59 (RdC a n c rp m vo)) := fun w w' h b => h.after b
    refine wp_region_U (w := u5) (fun w' => Box w' u0.heap.size 59 (RdC a n c rp m vo)) rfl R5.drew ?_
    refine wpU_val 0 hKS rfl (by kernel_rfl) (by kernel_rfl) (by kernel_rfl) rfl (fun c a w v h => leaves_put (by simp [results, Tryd.results19, Act.put]) _ _ _ h) (.agg #[.bool false, .bool false, .slice none 0 0, .slice none 0 0, .slice none 0 0]) (fun w' h => by simp [go_sem]) ?_
    simp only [Act.put, List.setIfInBounds_toArray, List.set_cons_zero, List.set_cons_succ]
    refine wpU_val 1 hKS rfl (by kernel_rfl) (by kernel_rfl) (by kernel_rfl) rfl (fun c a w v h => leaves_put (by simp [results, Tryd.results19, Act.put]) _ _ _ h) (.pointer (some ⟨u0.heap.size, 0, none⟩)) (fun w' h => by simp [go_sem]) ?_
    simp only [Act.put, List.setIfInBounds_toArray, List.set_cons_zero, List.set_cons_succ]
    refine wpU_val 2 hKS rfl (by kernel_rfl) (by kernel_rfl) (by kernel_rfl) rfl (fun c a w v h => leaves_put (by simp [results, Tryd.results19, Act.put]) _ _ _ h) (.pointer (some ⟨u0.heap.size, 0, none⟩)) (fun w' h => by simp [go_sem]) ?_
    simp only [Act.put, List.setIfInBounds_toArray, List.set_cons_zero, List.set_cons_succ]
    refine wpU_val 3 hKS rfl (by kernel_rfl) (by kernel_rfl) (by kernel_rfl) rfl (fun c a w v h => leaves_put (by simp [results, Tryd.results19, Act.put]) _ _ _ h) (.pointer (some ⟨u0.heap.size, 1, none⟩)) (fun w' h => by simp [go_sem]) ?_
    simp only [Act.put, List.setIfInBounds_toArray, List.set_cons_zero, List.set_cons_succ]
    refine wpU_val 4 hKS rfl (by kernel_rfl) (by kernel_rfl) (by kernel_rfl) rfl (fun c a w v h => leaves_put (by simp [results, Tryd.results19, Act.put]) _ _ _ h) (.int .i64 rp) (fun w' h => by simp [go_sem, h.cell 1 rfl]) ?_
    simp only [Act.put, List.setIfInBounds_toArray, List.set_cons_zero, List.set_cons_succ]
    refine wpU_store_box (cells := #[.bool false, .bool false, .slice none 0 0, .slice none 0 0, .slice none 0 0]) 5 rfl (by kernel_rfl) rfl 25 _ _ rfl V5.drew (by rfl) (by rfl) rfl (by kernel_rfl) (by simp [Value.oneCell']) ?_
    intro w2 w3 b2 s2 V3 st3
    have b23 : But (fun k => k = V) w2 w3 := But.ofStored st3 (st3.below 0 w2 (Nat.zero_le _) (Below.refl _ _))
    refine ⟨b23.box s2 hVG.symm, ?_⟩
    simp only [Act.put, List.setIfInBounds_toArray, List.set_cons_zero, List.set_cons_succ]
    have A3 := b23.box (A5.drew.after b2) hVA.symm
    have E3 := b23.box (E5.drew.after b2) hVE.symm
    refine wpU_store_cell 6 rfl (by kernel_rfl) rfl 3 _ _ rfl A3 0 (k := .i64) (n := (rp : Int)) rfl rfl (show 0 < 1 by decide) (fun w => by simp [go_sem]) ?_
    intro w4 w5 b4 s4 A6 st5
    have b45 : But (fun k => k = A) w4 w5 := But.ofStored st5 (st5.below 0 w4 (Nat.zero_le _) (Below.refl _ _))
    refine ⟨b45.box s4 hAG.symm, ?_⟩
    simp only [Act.put, List.setIfInBounds_toArray, List.set_cons_zero, List.set_cons_succ]
    have E6 := b45.box (E3.after b4) hAE.symm
    have V6 := b45.box (V3.after b4) hVA
    refine wpU_store_cell 7 rfl (by kernel_rfl) rfl 29 _ _ rfl E6 0 (k := .i64) (n := 5) rfl rfl (show 0 < 1 by decide) (fun w => by simp [go_sem]) ?_
    intro w6 w7 b6 s6 E7 st7
    have b67 : But (fun k => k = E) w6 w7 := But.ofStored st7 (st7.below 0 w6 (Nat.zero_le _) (Below.refl _ _))
    refine ⟨b67.box s6 hEG.symm, ?_⟩
    simp only [Act.put, List.setIfInBounds_toArray, List.set_cons_zero, List.set_cons_succ]
    have A7 := b67.box (A6.after b6) hAE
    have V7 := b67.box (V6.after b6) hVE
    refine wpU_done (by kernel_rfl) ?_
    intro u8 b8 s8
    have V9 := V7.after b8
    have A9 : Box u8 A 3 #[.int .i64 rp] := A7.after b8
    have E9 : Box u8 E 29 #[.int .i64 5] := E7.after b8
    have ev : ∀ u v : World, Below u.heap.size u v → But (fun _ => False) u v := fun u v h => But.ofBelow h
    have B8 : But (fun k => k = V ∨ k = A ∨ k = E) u5 u8 := ((((((But.refl _ u5).trans (ev _ _ ((Below.refl _ _).drew.trans b2)) (fun k hk => hk.elim)).trans b23 (fun k hk => .inl (.inl hk))).trans (ev _ _ b4) (fun k hk => hk.elim)).trans b45 (fun k hk => .inl (.inr (.inl hk)))).trans (ev _ _ b6) (fun k hk => hk.elim)).trans (b67.trans (ev _ _ b8) (fun k hk => hk.elim)) (fun k hk => .inl (.inr (.inr hk)))
    have b9 : Below w.heap.size w u8 := B8.after B5 (by have := B5.size; omega) (fun k hk => by omega)
    clear hKS s2 s4 s6 s8 A3 E3 A6 E6 V3 V6 V7 A7 E7 b2 b4 b6 b8 b23 b45 b67 ev st3 st5 st7
    go_wp2_with fail
    subst hV hA hE
    have cc0 : u8.cell? ⟨w.heap.size, 0, none⟩ = some (.bool false) := V9.cell 0 rfl
    have cc1 : u8.cell? ⟨w.heap.size, 1, none⟩ = some (.bool false) := V9.cell 1 rfl
    have cc2 : u8.cell? ⟨w.heap.size, 2, none⟩ = some (.slice none 0 0) := V9.cell 2 rfl
    have cc3 : u8.cell? ⟨w.heap.size, 3, none⟩ = some (.slice none 0 0) := V9.cell 3 rfl
    have cc4 : u8.cell? ⟨w.heap.size, 4, none⟩ = some (.slice none 0 0) := V9.cell 4 rfl
    have ca : u8.cell? ⟨w.heap.size + 1, 0, none⟩ = some (.int .i64 rp) := A9.cell 0 rfl
    have ce : u8.cell? ⟨w.heap.size + 1 + 1, 0, none⟩ = some (.int .i64 5) := E9.cell 0 rfl
    refine leaves_cons (f := 32) (args := #[.pointer (some ⟨w.heap.size, 0, none⟩), .pointer (some ⟨w.heap.size + 1, 0, none⟩), .pointer (some ⟨w.heap.size + 1 + 1, 0, none⟩)]) (by simp) (by simp [go_sem]) ?_
    refine (get1_idle _ _ _ _).mono ?_
    rintro e u' w'' ⟨rfl, rfl, rfl⟩
    simp [Leaves, settle, results, Tryd.results19, go_sem, cc0, cc1, cc2, cc3, cc4, ca, ce]
    exact ⟨SV.nil, Sx.nil, rp, 5, .inr ⟨by have := HL.out; omega, _, HM.out, .inr (.inl ⟨rfl, by have := HL.out; show rp < l.length; omega, rfl, rfl, rfl⟩)⟩, rfl, rd_nil _ _, b9⟩
  · have hmore' : ¬ (rp : Int) < (n : Int) := by omega
    have BX := B5
    go_wp2_with first | (refine wpList_load_box rfl 25 _ rfl V5 (by rfl) Tryd.underlying25 rfl (by kernel_rfl) ?_) | (refine wpList_store_box (cells := #[.bool vl, .bool vh, .slice a1 n1 c1, .slice a2 n2 c2, .slice a3 n3 c3]) rfl 25 _ _ rfl V5 (by rfl) (by rfl) rfl (by kernel_rfl) (by simp [Value.oneCell']) ?_; intro u9 X9 st9; have a9 := (st9.box A5 (by omega)).cell 0 rfl; have fa9 := (st9.box A5 (by omega)).frozen 0; have e9 := (st9.box E5 (by omega)).cell 0 rfl; have fe9 := (st9.box E5 (by omega)).frozen 0)
    have b9 : Below w.heap.size w ((u9.setCell ⟨w.heap.size + 1, 0, none⟩ (.int .i64 0)).setCell ⟨w.heap.size + 1 + 1, 0, none⟩ (.int .i64 0)) := ((st9.below w.heap.size w (Nat.le_refl _) BX).setCell (p := ⟨w.heap.size + 1, 0, none⟩) (by show w.heap.size ≤ w.heap.size + 1; omega) _).setCell (p := ⟨w.heap.size + 1 + 1, 0, none⟩) (by show w.heap.size ≤ w.heap.size + 1 + 1; omega) _
    have V9 := (X9.far ⟨w.heap.size + 1, 0, none⟩ (.int .i64 0) (by show w.heap.size ≠ w.heap.size + 1; omega)).far ⟨w.heap.size + 1 + 1, 0, none⟩ (.int .i64 0) (by show w.heap.size ≠ w.heap.size + 1 + 1; omega)
    have A9 : Box ((u9.setCell ⟨w.heap.size + 1, 0, none⟩ (.int .i64 0)).setCell ⟨w.heap.size + 1 + 1, 0, none⟩ (.int .i64 0)) (w.heap.size + 1) 3 #[.int .i64 0] := ((st9.box A5 (by omega)).set 0 (.int .i64 0)).far ⟨w.heap.size + 1 + 1, 0, none⟩ (.int .i64 0) (by show w.heap.size + 1 ≠ w.heap.size + 1 + 1; omega)
    have E9 : Box ((u9.setCell ⟨w.heap.size + 1, 0, none⟩ (.int .i64 0)).setCell ⟨w.heap.size + 1 + 1, 0, none⟩ (.int .i64 0)) (w.heap.size + 1 + 1) 29 #[.int .i64 0] := ((st9.box E5 (by omega)).far ⟨w.heap.size + 1, 0, none⟩ (.int .i64 0) (by show w.heap.size + 2 ≠ w.heap.size + 1; omega)).set 0 (.int .i64 0)
    have B59 : But (fun k => k = w.heap.size ∨ k = w.heap.size + 1 ∨ k = w.heap.size + 1 + 1) u5 ((u9.setCell ⟨w.heap.size + 1, 0, none⟩ (.int .i64 0)).setCell ⟨w.heap.size + 1 + 1, 0, none⟩ (.int .i64 0)) := (((But.ofStored st9 (st9.below 0 u5 (Nat.zero_le _) (Below.refl _ _))).mono (fun k hk => .inl hk)).setCell (p := ⟨w.heap.size + 1, 0, none⟩) (.inl (.inr (.inl rfl))) _).setCell (p := ⟨w.heap.size + 1 + 1, 0, none⟩) (.inl (.inr (.inr rfl))) _
    generalize ((u9.setCell ⟨w.heap.size + 1, 0, none⟩ (.int .i64 0)).setCell ⟨w.heap.size + 1 + 1, 0, none⟩ (.int .i64 0)) = u8 at *
    have cc0 : u8.cell? ⟨w.heap.size, 0, none⟩ = some (.bool vl) := V9.cell 0 rfl
    have cc1 : u8.cell? ⟨w.heap.size, 1, none⟩ = some (.bool vh) := V9.cell 1 rfl
    have cc2 : u8.cell? ⟨w.heap.size, 2, none⟩ = some (.slice a1 n1 c1) := V9.cell 2 rfl
    have cc3 : u8.cell? ⟨w.heap.size, 3, none⟩ = some (.slice a2 n2 c2) := V9.cell 3 rfl
    have cc4 : u8.cell? ⟨w.heap.size, 4, none⟩ = some (.slice a3 n3 c3) := V9.cell 4 rfl
    have ca : u8.cell? ⟨w.heap.size + 1, 0, none⟩ = some (.int .i64 0) := A9.cell 0 rfl
    have ce : u8.cell? ⟨w.heap.size + 1 + 1, 0, none⟩ = some (.int .i64 0) := E9.cell 0 rfl
    have HFIN : RdI (fun k => True ∨ w.heap.size ≤ k) u8 ⟨vl, vh, a1, n1, c1, a2, n2, c2, a3, n3, c3⟩ rv := (HRD5.out.but B59 (fun k hk e => by have := HZ0.out; omega)).mono (fun k hk => .inl trivial)
    refine leaves_cons (f := 32) (args := #[.pointer (some ⟨w.heap.size, 0, none⟩), .pointer (some ⟨w.heap.size + 1, 0, none⟩), .pointer (some ⟨w.heap.size + 1 + 1, 0, none⟩)]) (by simp) (by simp [go_sem]) ?_
    refine (get1_idle _ _ _ _).mono ?_
    rintro e u' w'' ⟨rfl, rfl, rfl⟩
    simp [Leaves, settle, results, Tryd.results19, go_sem, cc0, cc1, cc2, cc3, cc4, ca, ce]
    exact ⟨⟨vl, vh, a1, n1, c1, a2, n2, c2, a3, n3, c3⟩, rv, 0, 0, .inr ⟨by have := HL.out; omega, _, HM.out, .inr (.inr ⟨rfl, by have := HL.out; show l.length ≤ rp; omega, rfl, rfl, rfl⟩)⟩, rfl, HFIN, b9⟩

theorem get_any (a : Option Addr) (n c : Nat) (l : List UInt8) (w : World) (hs : Sl w a n c l) : Calls Tryd.prog 19 #[.slice a n c] w (GetP (fun _ => True) l w) := by
  rcases Nat.lt_or_ge 4096 n with h | h
  · exact get_long a n c l w hs h
  · exact get_short a n c l w hs h

end Go.Proofs.YtcflgoddfakepaaDoor
namespace Go.Proofs.YtcflgoddfakepaaDoor
open Go.RowKit Go.ChangeShapes Go.WideShapes Go.ChangeAt

theorem cells_sx : Tryd.prog.cellsOf 4 = 1 ∧ Tryd.prog.cellsOf 22 = 1 ∧ Tryd.prog.cellsOf 23 = 1 ∧ Tryd.prog.cellsOf 25 = 5 ∧ Tryd.prog.cellsOf 5 = 1 := ⟨by kernel_rfl, by kernel_rfl, by kernel_rfl, by kernel_rfl, by kernel_rfl⟩

theorem bulk_nodes {H : Type} : ∀ (l : List (DataW H × List MemPlace)) (g : Nat → Sx), (∀ i (h : i < l.length), (g i).nodes ≤ Rows.uptoBulk l[i].1) → Sx.nodesL ((List.range l.length).map g) ≤ Rows.uptoBulkAll (l.map (·.1))
  | [], _, _ => by simp [Sx.nodesL]
  | x :: r, g, h => by
    rw [List.length_cons, List.range_succ_eq_map, List.map_cons, List.map_map]
    simp only [Sx.nodesL, List.map_cons, Rows.uptoBulkAll]
    have h0 := h 0 (by simp)
    have := bulk_nodes r (g ∘ Nat.succ) (fun i hi => by have := h (i + 1) (by simpa using hi); simpa using this)
    simp only [List.getElem_cons_zero] at h0
    omega

section
variable {H : Type} {enc : TypeId × Value → H} {W : World} {held : Bool}

theorem open_slU {fuel : Nat} {c : Value} {x : DataW H × List MemPlace} (h : DataW.trod enc Tryd.prog W 0 (fun _ => true) held fuel 22 [c] = some x) :
    ∃ (a : Option Addr) (n k : Nat) (l : List UInt8), c = .slice a n k ∧ Sl W a n k l := by
  rcases open_ints Tryd.underlying22 Tryd.underlying5 cells_sx.2.2.2.2 h with ⟨hcs, _⟩ | ⟨x, l, k, zs, hcs, _, hl, hm, hz, _, hcell, hwz⟩
  · simp at hcs
    exact ⟨none, 0, 0, [], hcs, Sl.nil W⟩
  · simp at hcs
    have hr : IsRow .u8 W (some x) l k zs := .inr ⟨_, rfl, hl, hm, by simpa using hz, hcell, hwz⟩
    obtain ⟨L, hL⟩ := hr.sl
    exact ⟨_, l, k, L, hcs, hL⟩

set_option maxRecDepth 100000 in
theorem open_sxf : ∀ (fuel : Nat) (cs : List Value) (x : DataW H × List MemPlace), DataW.trod enc Tryd.prog W 0 (fun _ => true) held fuel 25 cs = some x →
    ∃ (v : SV) (s : Sx), cs = v.cells.toList ∧ Rd W v s ∧ s.nodes ≤ Rows.uptoBulk x.1 := by
  intro fuel
  induction fuel using Nat.strongRecOn with
  | _ fuel ih =>
    intro cs x h
    obtain ⟨k1, k2, k3, k4, k5⟩ := cells_sx
    obtain ⟨xs, n, hf, rfl, hl, hxl, hg⟩ := DataW.trod_struct Tryd.underlying25 h
    rw [k4] at hl
    match cs, hl with
    | [c0, c1, c2, c3, c4], _ =>
      match xs, hxl with
      | [y0, y1, y2, y3, y4], _ =>
        have h0 : DataW.trod enc Tryd.prog W 0 (fun _ => true) held n 4 (([c0, c1, c2, c3, c4].drop 0).take (Tryd.prog.cellsOf 4)) = some y0 := hg 0 _ rfl
        have h1 : DataW.trod enc Tryd.prog W 0 (fun _ => true) held n 4 (([c0, c1, c2, c3, c4].drop 1).take (Tryd.prog.cellsOf 4)) = some y1 := hg 1 _ rfl
        have h2 : DataW.trod enc Tryd.prog W 0 (fun _ => true) held n 22 (([c0, c1, c2, c3, c4].drop 2).take (Tryd.prog.cellsOf 22)) = some y2 := hg 2 _ rfl
        have h3 : DataW.trod enc Tryd.prog W 0 (fun _ => true) held n 22 (([c0, c1, c2, c3, c4].drop 3).take (Tryd.prog.cellsOf 22)) = some y3 := hg 3 _ rfl
        have h4 : DataW.trod enc Tryd.prog W 0 (fun _ => true) held n 23 (([c0, c1, c2, c3, c4].drop 4).take (Tryd.prog.cellsOf 23)) = some y4 := hg 4 _ rfl
        rw [k1] at h0 h1
        rw [k2] at h2 h3
        rw [k3] at h4
        obtain ⟨bl, e0, _⟩ := DataW.trod_bool Tryd.underlying4 h0
        obtain ⟨bh, e1, _⟩ := DataW.trod_bool Tryd.underlying4 h1
        obtain ⟨a2, n2, q2, l2, rfl, s2⟩ := open_slU h2
        obtain ⟨a3, n3, q3, l3, rfl, s3⟩ := open_slU h3
        have e0' : c0 = .bool bl := by simpa using e0
        have e1' : c1 = .bool bh := by simpa using e1
        subst e0' e1'
        rcases DataW.trod_slice Tryd.underlying23 h4 with ⟨e4, rfl⟩ | ⟨a, len, cap, elems, rest, m, hm, e4, rfl, _, hlc, hcm, hel, hat, _, _⟩
        · have e4' : c4 = .slice none 0 0 := by simpa using e4
          subst e4'
          refine ⟨⟨bl, bh, a2, n2, q2, a3, n3, q3, none, 0, 0⟩, .mk bl bh l2 l3 [], rfl, .mk _ l2 l3 [] (fun _ => SV.nil) s2 (.inr fun _ _ _ _ => trivial) s3 (.inr fun _ _ _ _ => trivial) ⟨Nat.le_refl _, Nat.zero_le _, fun _ => rfl, .inl rfl⟩ (.inl rfl) rfl (fun i hi => by cases hi), ?_⟩
          simp only [Sx.nodes, Sx.nodesL, Rows.uptoBulk]
          omega
        · have e4' : c4 = .slice (some a) len cap := by simpa using e4
          subst e4'
          have key : ∀ i, i < len → ∃ p : SV × Sx, (∃ he : i < elems.length, p.2.nodes ≤ Rows.uptoBulk elems[i].1) ∧ W.cells? 0 (a.add (i * 5)) 5 = some p.1.cells.toList ∧ Rd W p.1 p.2 := fun i hi => by
            have hi' : i < elems.length := by omega
            have h5 := hat i hi
            rw [k4, List.getElem?_eq_getElem hi'] at h5
            obtain ⟨cs', hc1, hc2⟩ := Option.bind_eq_some_iff.1 h5
            obtain ⟨v, s, rfl, hrd, hnd⟩ := ih m (by omega) cs' _ hc2
            exact ⟨(v, s), ⟨hi', hnd⟩, hc1, hrd⟩
          haveI : Inhabited (SV × Sx) := ⟨(SV.nil, default)⟩
          obtain ⟨f, hf'⟩ := Go.Deep.choose_lt key
          obtain ⟨b, o, spot⟩ := a
          have hcell : ∀ i, i < len → ∀ j u, (f i).1.cells[j]? = some u → W.cell? (((⟨b, o, spot⟩ : Addr).add (i * 5)).add j) = some u := fun i hi j u hu => by
            have h6 := (hf' i hi).2.1
            unfold World.cells? at h6
            rw [if_pos (Nat.zero_le _)] at h6
            have hj : j < 5 := by have := (Array.getElem?_eq_some_iff.1 hu).1; rwa [SV.cells_size] at this
            have h7 := mapM_some_get h6 j j (by simp [hj])
            rw [h7]
            simpa using hu
          have hsp : len = 0 ∨ spot = none := by
            by_cases h0' : len = 0
            · exact .inl h0'
            · right
              have := World.cell?_spot (hcell 0 (by omega) 0 _ rfl)
              simpa [Addr.add] using this
          refine ⟨⟨bl, bh, a2, n2, q2, a3, n3, q3, some ⟨b, o, spot⟩, len, cap⟩, .mk bl bh l2 l3 ((List.range len).map fun i => (f i).2), rfl,
            .mk _ l2 l3 _ (fun i => (f i).1) s2 (.inr fun _ _ _ _ => trivial) s3 (.inr fun _ _ _ _ => trivial) ⟨hlc, hcm, (fun h => by cases h), ?_⟩ (.inr fun _ _ _ _ => trivial) (by simp) (fun i hi => ?_), ?_⟩
          · rcases hsp with h0' | rfl
            · exact .inl h0'
            · refine .inr ⟨b, o, rfl, fun i hi j u hu => ?_⟩
              have := hcell i hi j u hu
              rwa [Addr.add_mid, Addr.add_mid] at this
          · have hi' : i < len := by simpa using hi
            have := (hf' i hi').2.2
            simpa using this
          · have := bulk_nodes elems (fun i => (f i).2) (fun i hi => (hf' i (by omega)).1.2)
            rw [hel] at this
            simp only [Sx.nodes, Rows.uptoBulk, Rows.uptoBulkAll, List.map_cons, List.map_nil]
            omega

theorem open_sx {r : Reach} {b0 : Nat} {v : Value} {d : DataW H} {p : List MemPlace} (hv : Value.okWide Tryd.prog W r b0 25 v) (h : DataW.Trod enc Tryd.prog W 0 (fun _ => true) held 25 v d p) :
    ∃ (u : SV) (s : Sx), v = u.val ∧ Rd W u s ∧ s.nodes ≤ Rows.uptoBulk d := by
  obtain ⟨cs, rfl, hsz⟩ := okWide_struct Tryd.underlying25 hv
  obtain ⟨fuel, hf⟩ := h
  obtain ⟨u, s, e, hr, hn⟩ := open_sxf fuel _ _ hf
  refine ⟨u, s, ?_, hr, hn⟩
  have : cs = u.cells := by
    apply Array.ext'
    simpa [Value.cells] using e
  rw [this]
  rfl

set_option maxRecDepth 100000 in
theorem open_sxs {a : Option Addr} {n c : Nat} {d : DataW H} {p : List MemPlace} (h : DataW.Trod enc Tryd.prog W 0 (fun _ => true) held 23 (.slice a n c) d p) :
    ∃ (K : Nat → SV) (ks : List Sx), RowAt W a n c K ∧ n = ks.length ∧ (∀ i (hi : i < ks.length), Rd W (K i) ks[i]) ∧ Sx.nodesL ks ≤ Rows.uptoBulk d := by
  obtain ⟨fuel, h4⟩ := h
  obtain ⟨k1, k2, k3, k4, k5⟩ := cells_sx
  rcases DataW.trod_slice Tryd.underlying23 h4 with ⟨e4, e5⟩ | ⟨ad, len, cap, elems, rest, m, hm, e4, e5, _, hlc, hcm, hel, hat, _, _⟩
  · have e4' : (Value.slice a n c) = .slice none 0 0 := by simpa [Value.cells] using e4
    cases e4'
    exact ⟨fun _ => SV.nil, [], ⟨Nat.le_refl _, Nat.zero_le _, fun _ => rfl, .inl rfl⟩, rfl, (fun i hi => by cases hi), by simp [Sx.nodesL]⟩
  · have e4' : (Value.slice a n c) = .slice (some ad) len cap := by simpa [Value.cells] using e4
    cases e4'
    have e6 : d = .slice (elems.map (·.1)) (rest.map (·.1)) := congrArg Prod.fst e5
    subst e6
    have key : ∀ i, i < n → ∃ p : SV × Sx, (∃ he : i < elems.length, p.2.nodes ≤ Rows.uptoBulk elems[i].1) ∧ W.cells? 0 (ad.add (i * 5)) 5 = some p.1.cells.toList ∧ Rd W p.1 p.2 := fun i hi => by
      have hi' : i < elems.length := by omega
      have h5 := hat i hi
      rw [k4, List.getElem?_eq_getElem hi'] at h5
      obtain ⟨cs', hc1, hc2⟩ := Option.bind_eq_some_iff.1 h5
      obtain ⟨v, s, rfl, hrd, hnd⟩ := open_sxf m cs' _ hc2
      exact ⟨(v, s), ⟨hi', hnd⟩, hc1, hrd⟩
    haveI : Inhabited (SV × Sx) := ⟨(SV.nil, default)⟩
    obtain ⟨f, hf'⟩ := Go.Deep.choose_lt key
    obtain ⟨b, o, spot⟩ := ad
    have hcell : ∀ i, i < n → ∀ j u, (f i).1.cells[j]? = some u → W.cell? (((⟨b, o, spot⟩ : Addr).add (i * 5)).add j) = some u := fun i hi j u hu => by
      have h6 := (hf' i hi).2.1
      unfold World.cells? at h6
      rw [if_pos (Nat.zero_le _)] at h6
      have hj : j < 5 := by have := (Array.getElem?_eq_some_iff.1 hu).1; rwa [SV.cells_size] at this
      have h7 := mapM_some_get h6 j j (by simp [hj])
      rw [h7]
      simpa using hu
    have hsp : n = 0 ∨ spot = none := by
      by_cases h0' : n = 0
      · exact .inl h0'
      · right
        have := World.cell?_spot (hcell 0 (by omega) 0 _ rfl)
        simpa [Addr.add] using this
    refine ⟨fun i => (f i).1, (List.range n).map fun i => (f i).2, ⟨hlc, hcm, (fun h => by cases h), ?_⟩, by simp, (fun i hi => ?_), ?_⟩
    · rcases hsp with h0' | rfl
      · exact .inl h0'
      · refine .inr ⟨b, o, rfl, fun i hi j u hu => ?_⟩
        have := hcell i hi j u hu
        rwa [Addr.add_mid, Addr.add_mid] at this
    · have hi' : i < n := by simpa using hi
      have := (hf' i hi').2.2
      simpa using this
    · have := bulk_nodes elems (fun i => (f i).2) (fun i hi => (hf' i (by omega)).1.2)
      rw [hel] at this
      simp only [Rows.uptoBulk]
      omega
end
end Go.Proofs.YtcflgoddfakepaaDoor

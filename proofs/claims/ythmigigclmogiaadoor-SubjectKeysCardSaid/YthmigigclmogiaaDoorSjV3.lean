/- The program's value of a subject: joins. -/
import Derived.Test.YthmigigclmogiaaDoorSjV2
namespace Go.Proofs.YthmigigclmogiaaDoor
open Go.RowKit
set_option linter.unusedSimpArgs false
set_option linter.unusedVariables false

set_option maxHeartbeats 16000000 in
set_option maxRecDepth 100000 in
theorem value3_any {sb : Bool} {da : List UInt8} {ns : List (List UInt8)} {kk : Int} {ks : List Sj} (v : JV) (w : World) (hr : RdJ (fun _ => True) w v (.mk 3 sb da ns kk ks)) (hl : ks.length ≤ 12) (ht : Tab w)
    (ih : ∀ x ∈ ks, ∀ (v : JV) (w' : World), RdJ (fun _ => True) w' v x → Tab w' → Calls Tryd.prog 18 #[v.val] w' (ValI (fun b => w'.heap.size ≤ b) x.value w')) :
    Calls Tryd.prog 18 #[v.val] w (ValI (fun b => w.heap.size ≤ b) (li (at1 knL :: at1 (numL kk) :: at1 (numL (ks.length : Int)) :: Sj.valueL ks)) w) := by
  obtain ⟨hkd, hsb, hkk, hs1, ⟨Z, hN⟩, hn, ⟨K, hrow, hk⟩, hk0, hk1⟩ := hr.all2
  obtain ⟨vkd, vs, a1, n1, c1, a2, n2, c2, vk, a3, n3, c3⟩ := v
  dsimp only at hkd hsb hkk hs1 hN hn hrow
  obtain rfl : vkd = 3 := hkd
  obtain rfl : vk = kk := hkk
  subst hn
  have HR := Lib.hid hrow
  have HK := Lib.hid hk
  have IH := Lib.hid ih
  have HT := Lib.hid ht
  have hnc3 := Nat.le_trans hrow.1 hrow.2.1
  unfold maxLen at hnc3
  clear hs1 hN hrow hk ih ht hsb hr
  have B : Below w.heap.size w ((w.alloc (.cells #[.int .u8 (3 : Nat), .bool vs, .slice a1 n1 c1, .slice a2 n2 c2, .int .i64 vk, .slice a3 ks.length c3] 28)).alloc (.cells #[.bool false, .bool false, .slice none 0 0, .slice none 0 0, .slice none 0 0] 33)) := ((Below.refl _ _).alloc (Nat.le_refl _) _).alloc (by simp) _
  have X : Hid (Box ((w.alloc (.cells #[.int .u8 (3 : Nat), .bool vs, .slice a1 n1 c1, .slice a2 n2 c2, .int .i64 vk, .slice a3 ks.length c3] 28)).alloc (.cells #[.bool false, .bool false, .slice none 0 0, .slice none 0 0, .slice none 0 0] 33)) w.heap.size 28 #[.int .u8 (3 : Nat), .bool vs, .slice a1 n1 c1, .slice a2 n2 c2, .int .i64 vk, .slice a3 ks.length c3]) := Lib.hid ((Box.new _ _ _).alloc _)
  have Y : Hid (Box ((w.alloc (.cells #[.int .u8 (3 : Nat), .bool vs, .slice a1 n1 c1, .slice a2 n2 c2, .int .i64 vk, .slice a3 ks.length c3] 28)).alloc (.cells #[.bool false, .bool false, .slice none 0 0, .slice none 0 0, .slice none 0 0] 33)) (w.heap.size + 1) 33 #[.bool false, .bool false, .slice none 0 0, .slice none 0 0, .slice none 0 0]) := Lib.hid (by
    have := Box.new (w.alloc (.cells #[.int .u8 (3 : Nat), .bool vs, .slice a1 n1 c1, .slice a2 n2 c2, .int .i64 vk, .slice a3 ks.length c3] 28)) 33 #[.bool false, .bool false, .slice none 0 0, .slice none 0 0, .slice none 0 0]
    simpa using this)
  show Calls _ _ #[.agg #[.int .u8 (3 : Nat), .bool vs, .slice a1 n1 c1, .slice a2 n2 c2, .int .i64 vk, .slice a3 ks.length c3]] _ _
  go_enter Tryd.func18, Tryd.ntmps18
  go_upto_region 1 with fail
  change Code.wp _ _ _ _ ((w.alloc (.cells #[.int .u8 (3 : Nat), .bool vs, .slice a1 n1 c1, .slice a2 n2 c2, .int .i64 vk, .slice a3 ks.length c3] 28)).alloc (.cells #[.bool false, .bool false, .slice none 0 0, .slice none 0 0, .slice none 0 0] 33))
  generalize ((w.alloc (.cells #[.int .u8 (3 : Nat), .bool vs, .slice a1 n1 c1, .slice a2 n2 c2, .int .i64 vk, .slice a3 ks.length c3] 28)).alloc (.cells #[.bool false, .bool false, .slice none 0 0, .slice none 0 0, .slice none 0 0] 33)) = x0 at *
  have q0 := X.out.cell 0 rfl
  go_upto_region 2 with fail
  clear q0
  have hKS : Keeps (fun w' => Box w' w.heap.size 28 #[.int .u8 (3 : Nat), .bool vs, .slice a1 n1 c1, .slice a2 n2 c2, .int .i64 vk, .slice a3 ks.length c3] ∧ Box w' (w.heap.size + 1) 33 #[.bool false, .bool false, .slice none 0 0, .slice none 0 0, .slice none 0 0] ∧ Tab w') := fun _ _ h b => ⟨h.1.after b, h.2.1.after b, h.2.2.after b⟩
  refine wp_region_W (w := x0) [] (fun w' => Box w' w.heap.size 28 #[.int .u8 (3 : Nat), .bool vs, .slice a1 n1 c1, .slice a2 n2 c2, .int .i64 vk, .slice a3 ks.length c3] ∧ Box w' (w.heap.size + 1) 33 #[.bool false, .bool false, .slice none 0 0, .slice none 0 0, .slice none 0 0] ∧ Tab w') rfl (hKS _ _ ⟨X.out, Y.out, HT.out.after B⟩ (Below.refl _ _).drew) ?_
  refine wpW_val 1 hKS rfl (by kernel_rfl) (by kernel_rfl) (by kernel_rfl) (by kernel_rfl) rfl (fun _ _ _ _ h => h) (.pointer (some ⟨w.heap.size, 4, none⟩)) (fun w' h => by simp [go_sem]) ?_
  simp only [Act.put, List.setIfInBounds_toArray, List.set_cons_zero, List.set_cons_succ]
  refine wpW_val 2 hKS rfl (by kernel_rfl) (by kernel_rfl) (by kernel_rfl) (by kernel_rfl) rfl (fun _ _ _ _ h => h) (.int .i64 vk) (fun w' h => by simp [go_sem, h.1.cell 4 rfl]) ?_
  simp only [Act.put, List.setIfInBounds_toArray, List.set_cons_zero, List.set_cons_succ]
  refine wpW_val 5 hKS rfl (by kernel_rfl) (by kernel_rfl) (by kernel_rfl) (by kernel_rfl) rfl (fun _ _ _ _ h => h) (.pointer (some ⟨w.heap.size, 5, none⟩)) (fun w' h => by simp [go_sem]) ?_
  simp only [Act.put, List.setIfInBounds_toArray, List.set_cons_zero, List.set_cons_succ]
  refine wpW_val 6 hKS rfl (by kernel_rfl) (by kernel_rfl) (by kernel_rfl) (by kernel_rfl) rfl (fun _ _ _ _ h => h) (.slice a3 ks.length c3) (fun w' h => by simp [go_sem, h.1.cell 5 rfl]) ?_
  simp only [Act.put, List.setIfInBounds_toArray, List.set_cons_zero, List.set_cons_succ]
  refine wpW_val 7 hKS rfl (by kernel_rfl) (by kernel_rfl) (by kernel_rfl) (by kernel_rfl) rfl (fun _ _ _ _ h => h) (.int .i64 ks.length) (fun w' h => by simp [go_sem]) ?_
  simp only [Act.put, List.setIfInBounds_toArray, List.set_cons_zero, List.set_cons_succ]
  refine wpW_one 0 rfl (by kernel_rfl) (by kernel_rfl) rfl ?_
  intro z1 ez1 sz1
  replace ez1 : Below x0.heap.size x0 z1 := (Below.refl _ x0).drew.trans ez1
  have Bz1 := B.trans (ez1.mono B.size)
  have lz1 := sz1.2.1.lt
  refine wp_callR 28 #[.string ⟨#[107, 45, 111, 102, 45, 110]⟩] (by simp [go_sem]) _ (atomI_any (fun b => w.heap.size + 2 ≤ b) ⟨#[107, 45, 111, 102, 45, 110]⟩ (by decide) z1 (fun b hb => by show w.heap.size + 2 ≤ b; omega)) ?_
  rintro e z2 ⟨vA, rfl, rA, cz2⟩
  replace rA := rA.there
  have Bz2 := Bz1.trans (cz2.mono Bz1.size)
  refine ⟨_, rfl, hKS _ _ sz1 cz2, ?_⟩
  simp only [Act.put, List.setIfInBounds_toArray, List.set_cons_zero, List.set_cons_succ]
  refine wpW_one 3 rfl (by kernel_rfl) (by kernel_rfl) rfl ?_
  intro z3 ez3 sz3
  have Bz3 := Bz2.trans (ez3.mono Bz2.size)
  have lz3 := sz3.2.1.lt
  replace rA := rA.after ez3
  refine wp_callR 29 #[.int .i64 vk] (by simp [go_sem]) _ (putLen_any vk (by omega) (by omega) z3 sz3.2.2) ?_
  rintro e z4 ⟨rfl, cz4⟩
  replace rA := rA.after cz4
  have Bz4 := Bz3.trans (cz4.mono Bz3.size)
  refine ⟨_, rfl, hKS _ _ sz3 cz4, ?_⟩
  simp only [Act.put, List.setIfInBounds_toArray, List.set_cons_zero, List.set_cons_succ]
  refine wpW_one 4 rfl (by kernel_rfl) (by kernel_rfl) rfl ?_
  intro z5 ez5 sz5
  have Bz5 := Bz4.trans (ez5.mono Bz4.size)
  have lz5 := sz5.2.1.lt
  replace rA := rA.after ez5
  refine wp_callR 28 #[.string ⟨(numL vk).toArray⟩] (by simp [go_sem]) _ (atomI_any (fun b => w.heap.size + 2 ≤ b) ⟨(numL vk).toArray⟩ (by have := numL_len vk (by omega); simp [ByteArray.size]; omega) z5 (fun b hb => by show w.heap.size + 2 ≤ b; omega)) ?_
  rintro e z6 ⟨vD, rfl, rD, cz6⟩
  replace rA := rA.after cz6
  replace rD := rD.there
  have Bz6 := Bz5.trans (cz6.mono Bz5.size)
  refine ⟨_, rfl, hKS _ _ sz5 cz6, ?_⟩
  simp only [Act.put, List.setIfInBounds_toArray, List.set_cons_zero, List.set_cons_succ]
  refine wpW_one 8 rfl (by kernel_rfl) (by kernel_rfl) rfl ?_
  intro z7 ez7 sz7
  have Bz7 := Bz6.trans (ez7.mono Bz6.size)
  have lz7 := sz7.2.1.lt
  replace rA := rA.after ez7
  replace rD := rD.after ez7
  refine wp_callR 29 #[.int .i64 (ks.length : Int)] (by simp [go_sem]) _ (putLen_any (ks.length : Int) (by omega) (by omega) z7 sz7.2.2) ?_
  rintro e z8 ⟨rfl, cz8⟩
  replace rA := rA.after cz8
  replace rD := rD.after cz8
  have Bz8 := Bz7.trans (cz8.mono Bz7.size)
  refine ⟨_, rfl, hKS _ _ sz7 cz8, ?_⟩
  simp only [Act.put, List.setIfInBounds_toArray, List.set_cons_zero, List.set_cons_succ]
  refine wpW_one 9 rfl (by kernel_rfl) (by kernel_rfl) rfl ?_
  intro z9 ez9 sz9
  have Bz9 := Bz8.trans (ez9.mono Bz8.size)
  have lz9 := sz9.2.1.lt
  replace rA := rA.after ez9
  replace rD := rD.after ez9
  refine wp_callR 28 #[.string ⟨(numL (ks.length : Int)).toArray⟩] (by simp [go_sem]) _ (atomI_any (fun b => w.heap.size + 2 ≤ b) ⟨(numL (ks.length : Int)).toArray⟩ (by have := numL_len (ks.length : Int) (by omega); simp [ByteArray.size]; omega) z9 (fun b hb => by show w.heap.size + 2 ≤ b; omega)) ?_
  rintro e z10 ⟨vE, rfl, rE, cz10⟩
  replace rA := rA.after cz10
  replace rD := rD.after cz10
  replace rE := rE.there
  have Bz10 := Bz9.trans (cz10.mono Bz9.size)
  refine ⟨_, rfl, hKS _ _ sz9 cz10, ?_⟩
  simp only [Act.put, List.setIfInBounds_toArray, List.set_cons_zero, List.set_cons_succ]
  refine wpW_one 10 rfl (by kernel_rfl) (by kernel_rfl) rfl ?_
  intro z11 ez11 sz11
  have Bz11 := Bz10.trans (ez11.mono Bz10.size)
  have lz11 := sz11.2.1.lt
  replace rA := rA.after ez11
  replace rD := rD.after ez11
  replace rE := rE.after ez11
  refine wp_of_run (.slice (some ⟨z11.heap.size, 0, none⟩) 3 3) (z11.alloc (.cells #[.bool vA.l, .bool vA.h, .slice vA.a1 vA.n1 vA.c1, .slice vA.a2 vA.n2 vA.c2, .slice vA.a3 vA.n3 vA.c3, .bool vD.l, .bool vD.h, .slice vD.a1 vD.n1 vD.c1, .slice vD.a2 vD.n2 vD.c2, .slice vD.a3 vD.n3 vD.c3, .bool vE.l, .bool vE.h, .slice vE.a1 vE.n1 vE.c1, .slice vE.a2 vE.n2 vE.c2, .slice vE.a3 vE.n3 vE.c3] 33)) (by simp [go_sem, SV.val]) ?_
  have c4x : Below z11.heap.size z11 (z11.alloc (.cells #[.bool vA.l, .bool vA.h, .slice vA.a1 vA.n1 vA.c1, .slice vA.a2 vA.n2 vA.c2, .slice vA.a3 vA.n3 vA.c3, .bool vD.l, .bool vD.h, .slice vD.a1 vD.n1 vD.c1, .slice vD.a2 vD.n2 vD.c2, .slice vD.a3 vD.n3 vD.c3, .bool vE.l, .bool vE.h, .slice vE.a1 vE.n1 vE.c1, .slice vE.a2 vE.n2 vE.c2, .slice vE.a3 vE.n3 vE.c3] 33)) := (Below.refl _ _).alloc (Nat.le_refl _) _
  have o4 : OwnG (z11.alloc (.cells #[.bool vA.l, .bool vA.h, .slice vA.a1 vA.n1 vA.c1, .slice vA.a2 vA.n2 vA.c2, .slice vA.a3 vA.n3 vA.c3, .bool vD.l, .bool vD.h, .slice vD.a1 vD.n1 vD.c1, .slice vD.a2 vD.n2 vD.c2, .slice vD.a3 vD.n3 vD.c3, .bool vE.l, .bool vE.h, .slice vE.a1 vE.n1 vE.c1, .slice vE.a2 vE.n2 vE.c2, .slice vE.a3 vE.n3 vE.c3] 33)) (w.heap.size + 2) 5 (.slice (some ⟨z11.heap.size, 0, none⟩) 3 3) 3 (newsK (fun i => if i = 0 then vA else if i = 1 then vD else vE) 3) := by
    have := OwnG.new z11 (w.heap.size + 2) 5 (by omega) #[.bool vA.l, .bool vA.h, .slice vA.a1 vA.n1 vA.c1, .slice vA.a2 vA.n2 vA.c2, .slice vA.a3 vA.n3 vA.c3, .bool vD.l, .bool vD.h, .slice vD.a1 vD.n1 vD.c1, .slice vD.a2 vD.n2 vD.c2, .slice vD.a3 vD.n3 vD.c3, .bool vE.l, .bool vE.h, .slice vE.a1 vE.n1 vE.c1, .slice vE.a2 vE.n2 vE.c2, .slice vE.a3 vE.n3 vE.c3] 33 3 3 (Nat.le_refl _) (by unfold maxLen; omega) rfl
    exact this
  refine ⟨hKS _ _ sz11 c4x, ?_⟩
  simp only [Act.put, List.setIfInBounds_toArray, List.set_cons_zero, List.set_cons_succ]
  refine wpW_free 11 hKS rfl (by kernel_rfl) (by kernel_rfl) (by kernel_rfl) (by kernel_rfl) rfl (fun _ _ _ _ h => h) (.slice (some ⟨z11.heap.size, 0, none⟩) 3 3) (fun w' => by simp [go_sem]) ?_
  simp only [Act.put, List.setIfInBounds_toArray, List.set_cons_zero, List.set_cons_succ]
  refine wpW_done (by kernel_rfl) ?_
  intro z99 b5 s5
  have O := Lib.hid (o4.after b5)
  have hsz0 := ez1.size
  have hsz1 := cz2.size
  have hsz2 := ez3.size
  have hsz3 := cz4.size
  have hsz4 := ez5.size
  have hsz5 := cz6.size
  have hsz6 := ez7.size
  have hsz7 := cz8.size
  have hsz8 := ez9.size
  have hsz9 := cz10.size
  have hsz10 := ez11.size
  have KD : Hid (∀ i (hi : i < (at1 knL :: at1 (numL vk) :: at1 (numL (ks.length : Int)) :: Sj.valueL (ks.take 0)).length), RdI (okO (fun b => w.heap.size + 2 ≤ b) (.slice (some ⟨z11.heap.size, 0, none⟩) 3 3)) z99 ((fun i => if i = 0 then vA else if i = 1 then vD else vE) i) (at1 knL :: at1 (numL vk) :: at1 (numL (ks.length : Int)) :: Sj.valueL (ks.take 0))[i]) := Lib.hid (fun i hi => by
    have hA := ((rA.after c4x).after b5)
    have hD := ((rD.after c4x).after b5)
    have hE := ((rE.after c4x).after b5)
    have hi2 : i < 3 := by simpa [Sj.valueL] using hi
    match i, hi2 with
    | 0, _ => exact hA.mono (fun b hb => ⟨hb.1, fun e => by simp [Value.ownBlock] at e; have := hb.2; omega⟩)
    | 1, _ => exact hD.mono (fun b hb => ⟨hb.1, fun e => by simp [Value.ownBlock] at e; have := hb.2; omega⟩)
    | 2, _ => exact hE.mono (fun b hb => ⟨hb.1, fun e => by simp [Value.ownBlock] at e; have := hb.2; omega⟩))
  have X5 := Lib.hid s5.1
  have Y5 := Lib.hid s5.2.1
  have B7 := Bz11.trans (c4x.mono Bz11.size)
  have B8 := B7.trans (b5.mono B7.size)
  clear hKS rA rD rE c4x o4 b5 s5 B X Y B7 ez1 Bz1 sz1 lz1 cz2 Bz2 ez3 Bz3 sz3 lz3 cz4 Bz4 ez5 Bz5 sz5 lz5 cz6 Bz6 ez7 Bz7 sz7 lz7 cz8 Bz8 ez9 Bz9 sz9 lz9 cz10 Bz10 ez11 Bz11 sz11 lz11 hsz0 hsz1 hsz2 hsz3 hsz4 hsz5 hsz6 hsz7 hsz8 hsz9 hsz10
  have q5 := X5.out.cell 5 rfl
  unfold SV.val
  generalize (Value.slice (some ⟨z11.heap.size, 0, none⟩) 3 3) = acc0 at *
  go_wp2_with fail
  go_loopw [3, 28] (fun acc i wr => ∃ (k n : Nat) (K : Nat → SV), k ≤ ks.length ∧ i = .int .i64 k ∧ n = k + 3 ∧ OwnG wr (w.heap.size + 2) 5 acc n (newsK K n) ∧ Hid (∀ i (hi : i < (at1 knL :: at1 (numL vk) :: at1 (numL (ks.length : Int)) :: Sj.valueL (ks.take k)).length), RdI (okO (fun b => w.heap.size + 2 ≤ b) acc) wr (K i) (at1 knL :: at1 (numL vk) :: at1 (numL (ks.length : Int)) :: Sj.valueL (ks.take k))[i]) ∧ w.heap.size + 2 ≤ wr.heap.size ∧ Below w.heap.size w wr ∧ Box wr (w.heap.size + 1) 33 #[.bool false, .bool false, .slice none 0 0, .slice none 0 0, .slice none 0 0]) (fun _ i _ => ks.length - (intOf i).toNat)
  case atStart => exact ⟨0, 3, (fun i => if i = 0 then vA else if i = 1 then vD else vE), Nat.zero_le _, rfl, rfl, O.out, KD, by have := Y5.out.lt; omega, B8, Y5.out⟩
  case round =>
    obtain ⟨k, n, KK, hkl, rfl, hnk, ho, hme, hzl, hb, hy⟩ := hrel
    clear q5
    have HNK := Lib.hid hnk
    have hnb : n ≤ 20 := by omega
    clear hnk
    by_cases hlt : k < ks.length
    case pos =>
      obtain ⟨b, o, rfl, hld⟩ := (HR.out.after hb).range hlt
      have HL := Lib.hid hld
      clear hld
      have IH2 := Lib.hid (IH.out _ (List.getElem_mem hlt) (K k))
      have HRK := Lib.hid ((HK.out k hlt).after hb)
      obtain ⟨v1, hv1⟩ : ∃ v1, v1 = K k := ⟨_, rfl⟩
      rw [← hv1] at HL IH2 HRK
      clear hv1
      obtain ⟨ekd, es, ea1, en1, ec1, ea2, en2, ec2, ek, ea3, en3, ec3⟩ := v1
      have hL1 := HL.out
      go_upto_region 6 with (refine wpList_load_jv rfl _ rfl b _ rfl _ hL1 ?_; simp only [JV.val])
      have hA : Below wr.heap.size wr (wr.alloc (.cells #[.int .u8 ekd, .bool es, .slice ea1 en1 ec1, .slice ea2 en2 ec2, .int .i64 ek, .slice ea3 en3 ec3] 28)) := (Below.refl _ _).alloc (Nat.le_refl _) _
      have Y1 := Lib.hid (Box.new wr 28 #[.int .u8 ekd, .bool es, .slice ea1 en1 ec1, .slice ea2 en2 ec2, .int .i64 ek, .slice ea3 en3 ec3])
      change Code.wp _ _ _ _ (wr.alloc (.cells #[.int .u8 ekd, .bool es, .slice ea1 en1 ec1, .slice ea2 en2 ec2, .int .i64 ek, .slice ea3 en3 ec3] 28))
      generalize (wr.alloc (.cells #[.int .u8 ekd, .bool es, .slice ea1 en1 ec1, .slice ea2 en2 ec2, .int .i64 ek, .slice ea3 en3 ec3] 28)) = z1 at *
      have O1 := Lib.hid (ho.after hA)
      have M1 := Lib.hid (fun i hi => (hme.out i hi).after hA)
      have b1 := hb.trans (hA.mono hb.size)
      have IH3 := Lib.hid (IH2.out z1 (HRK.out.after hA) (HT.out.after b1))
      have hlt1 := hA.size
      have hyl := Y1.out.lt
      have hy1 := hy.after hA
      have hOl := Lib.hid ho.lt
      generalize wr.heap.size = y1 at *
      clear hA hL1 HL IH2 HRK ho hme hy
      go_wp2_with (refine wpList_load_box rfl 28 _ rfl Y1.out (by rfl) Tryd.underlying28 rfl (by kernel_rfl) ?_)
      refine IH3.out.mono ?_
      rintro e w1 ⟨⟨tl, th, ta1, tn1, tc1, ta2, tn2, tc2, ta3, tn3, tc3⟩, rfl, rt, hb4⟩
      unfold SV.val
      clear Y1 IH3
      have ca : Below w1.heap.size w1 (w1.alloc (.cells #[.bool tl, .bool th, .slice ta1 tn1 tc1, .slice ta2 tn2 tc2, .slice ta3 tn3 tc3] 33)) := (Below.refl _ _).alloc (Nat.le_refl _) _
      have O2 := Lib.hid ((O1.out.after hb4).after ca)
      have M2 := Lib.hid (fun i hi => ((M1.out i hi).after hb4).after ca)
      have hOl2 := Lib.hid O1.out.lt
      have RV := Lib.hid ((rt.mono (ok' := okO (fun b => w.heap.size + 2 ≤ b) _) (fun b' hb' => ⟨by show w.heap.size + 2 ≤ b'; have : z1.heap.size ≤ b' := hb'; omega, fun e => by have := hOl2.out b' e; have : z1.heap.size ≤ b' := hb'; omega⟩)).after ca)
      have SR := Lib.hid (src1 w1 ⟨tl, th, ta1, tn1, tc1, ta2, tn2, tc2, ta3, tn3, tc3⟩)
      have b2 := (b1.trans (hb4.mono b1.size))
      have b3 := b2.trans (ca.mono b2.size)
      have hy2 := Lib.hid ((hy1.after hb4).after ca)
      have hzz := ca.size
      have hzw := hb4.size
      clear O1 M1 hb4 ca hy1 rt
      go_wp2_with (refine wpList_append_K rfl _ _ rfl rfl O2.out rfl SR.out (by omega) (by simp; omega) ?_; intro v3 w3 ho3 hg3 hw3; rw [newsK_add] at ho3)
      go_roundw
      case rel => exact ⟨k + 1, n + 1, _, by omega, by go_num, by have := HNK.out; omega, ho3, Lib.hid (by
          have hL : (at1 knL :: at1 (numL vk) :: at1 (numL (ks.length : Int)) :: Sj.valueL (ks.take (k + 1))) = (at1 knL :: at1 (numL vk) :: at1 (numL (ks.length : Int)) :: Sj.valueL (ks.take k)) ++ [ks[k].value] := by rw [valueL_map, valueL_map, List.take_succ_eq_append_getElem hlt, List.map_append]; rfl
          rw [hL]
          exact rows_more (by have := HNK.out; simp [valueL_map]; omega) M2.out RV.out hg3 hw3), (by have := hg3.size; omega), own_below5 w.heap.size (by omega) (by omega) O2.out hg3 b3, hy2.out.grown hg3 (fun k hk => by have := hOl.out k hk; omega)⟩
      case measure => simp [intOf]; omega
    case neg =>
      have hkk : k = ks.length := by omega
      have hln : ks.take k = ks := List.take_of_length_le (by omega)
      rw [hln] at hme
      obtain ⟨ra, rc, rfl, hrow, hin⟩ := ho.row
      have RW := Lib.hid hrow
      have HL := Lib.hid (show n = (at1 knL :: at1 (numL vk) :: at1 (numL (ks.length : Int)) :: Sj.valueL ks).length by have := HNK.out; simp [valueL_map]; omega)
      clear hrow ho hln hkk
      go_wp2_with fail
      refine (listI_any (fun b => w.heap.size + 2 ≤ b) ra n rc KK (at1 knL :: at1 (numL vk) :: at1 (numL (ks.length : Int)) :: Sj.valueL ks) wr RW.out (by omega) HL.out (fun i hi => (hme.out i hi).mono (fun b h => h.1)) (fun b hb' => by show w.heap.size + 2 ≤ b; omega)).mono ?_
      rintro e w5 ⟨⟨tl, th, ta1, tn1, tc1, ta2, tn2, tc2, ta3, tn3, tc3⟩, rfl, r5, b5⟩
      have hy5 := Lib.hid (hy.after b5)
      have bb := hb.trans (b5.mono hb.size)
      unfold SV.val
      go_wp2_with (refine wpList_store_box (cells := #[.bool tl, .bool th, .slice ta1 tn1 tc1, .slice ta2 tn2 tc2, .slice ta3 tn3 tc3]) rfl 33 _ _ rfl hy5.out (by rfl) (by rfl) rfl (by kernel_rfl) (by simp [Value.oneCell']) ?_; intro u9 X9 st9)
      have B9 := st9.below w.heap.size w (by omega) bb
      have R9 : RdI (fun b => w.heap.size ≤ b) u9 ⟨tl, th, ta1, tn1, tc1, ta2, tn2, tc2, ta3, tn3, tc3⟩ (li (at1 knL :: at1 (numL vk) :: at1 (numL (ks.length : Int)) :: Sj.valueL ks)) := (r5.keep (w' := u9) (fun b hb => st9.other b (by have := hb; omega))).mono (fun b hb => by show w.heap.size ≤ b; have := hb; omega)
      exact bodyPost_ret (v := .agg #[.bool tl, .bool th, .slice ta1 tn1 tc1, .slice ta2 tn2 tc2, .slice ta3 tn3 tc3]) (box_result rfl _ _ (by rfl) X9 Tryd.underlying33 rfl (by kernel_rfl)) rfl ⟨⟨tl, th, ta1, tn1, tc1, ta2, tn2, tc2, ta3, tn3, tc3⟩, rfl, R9, B9⟩

end Go.Proofs.YthmigigclmogiaaDoor

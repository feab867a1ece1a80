/- The principals in a subject: what the law's keys and the program's Keys yield. -/
import Derived.Test.YthmigigclmogiaaDoorSj6
namespace Go.Proofs.YthmigigclmogiaaDoor
open Go.RowKit
set_option linter.unusedSimpArgs false
set_option linter.unusedVariables false

/-- all that a subject's reading says, with the blocks -/
theorem RdJ.all {ok : Nat → Prop} {w : World} {v : JV} {kd : Nat} {s : Bool} {da : List UInt8} {ns : List (List UInt8)} {k : Int} {ks : List Sj} (h : RdJ ok w v (.mk kd s da ns k ks)) :
    v.kd = kd ∧ v.s = s ∧ Sl w v.a1 v.n1 v.c1 da ∧ InB ok v.a1 v.n1 ∧ v.n3 = ks.length ∧ ∃ K, RowJ w v.a3 v.n3 v.c3 K ∧ ∀ i (hi : i < ks.length), RdJ ok w (K i) ks[i] := by
  cases h with
  | mk v da ns ks Z K h1 h2 h3 h4 h5 h6 h7 h8 h9 h10 => exact ⟨rfl, rfl, h1, h2, h6, K, h4, h7⟩
/-- what yields principals: a row of the call's own -/
def KeysP (ok : Nat → Prop) (ks : List (Bool × List UInt8)) (w : World) (e : Ending) (w' : World) : Prop :=
  ∃ v E, e = .returned v ∧ OwnG w' w.heap.size 2 v ks.length (cellsE E) ∧ ME (okO ok v) w' E ks ∧ Below w.heap.size w w'
theorem keysP_mk {ok : Nat → Prop} {ks : List (Bool × List UInt8)} {w w' : World} {B n : Nat} {v : Value} {E : List (Bool × S3)} (hB : w.heap.size ≤ B) (hn : n = ks.length) (ho : OwnG w' B 2 v n (cellsE E)) (hm : ME (okO ok v) w' E ks) (hb : Below w.heap.size w w') :
    KeysP ok ks w (.returned v) w' := ⟨v, E, rfl, hn ▸ ho.le hB, hm, hb⟩
theorem one_key {kd : Nat} (s : Bool) (da : List UInt8) (h : kd = 1 ∨ kd = 2) : (if kd = 1 ∨ kd = 2 then [(s, da)] else []) = [(s, da)] := if_pos h
theorem keys_def (kd : Nat) (s : Bool) (da : List UInt8) (ns : List (List UInt8)) (k : Int) (ks : List Sj) : (Sj.mk kd s da ns k ks).keys = (if kd = 1 ∨ kd = 2 then [(s, da)] else []) ++ Sj.keysL ks := by simp only [Sj.keys]
/-- a row of one principal, made -/
theorem own_oneE (w : World) (B : Nat) (hB : B ≤ w.heap.size) (s : Bool) (e : S3) : OwnG (w.alloc (.cells #[.bool s, .slice e.a e.n e.c] 24)) B 2 (.slice (some ⟨w.heap.size, 0, none⟩) 1 1) 1 (cellsE [(s, e)]) :=
  OwnG.new w B 2 hB #[.bool s, .slice e.a e.n e.c] 24 1 1 (Nat.le_refl _) (by unfold maxLen; omega) rfl
/-- the principals of a part, put behind -/
theorem keys_step {ok ok2 : Nat → Prop} {w1 w3 : World} {v v2 v3 : Value} {E E2 : List (Bool × S3)} {pre : List (Bool × List UInt8)} {ks : List Sj} {k : Nat} (hk : k < ks.length) (h1 : ME (okO ok v) w1 E (pre ++ Sj.keysL (ks.take k))) (h2 : ME (okO ok2 v2) w1 E2 ks[k].keys)
    (hok : ∀ b, ok2 b → ok b) (hne : ∀ b, ok2 b → v.ownBlock ≠ some b) (hg : w1.grownBy w3 v.ownBlock) (hw : ∀ k, v3.ownBlock = some k → v.ownBlock = some k ∨ w1.heap.size ≤ k) : ME (okO ok v3) w3 (E ++ E2) (pre ++ Sj.keysL (ks.take (k + 1))) := by
  rw [Sj.keysL_snoc ks k hk, ← List.append_assoc]
  exact ((h1.grew (v := v) (fun b h _ => h.2) hg hw).mono (fun b h => ⟨h.1.1, h.2⟩)).append ((h2.grew (v := v) (fun b h _ => hne b h.1) hg hw).mono (fun b h => ⟨hok b h.1.1, h.2⟩))
set_option maxHeartbeats 32000000 in
set_option maxRecDepth 100000 in
theorem lawKeys_any (s : Sj) : ∀ (v : JV) (m : Nat) (w : World) (B0 : Nat), B0 ≤ w.heap.size → RdJ (fun b => b < B0) w v s → s.great m = false → Calls Tryd.prog 11 #[v.val] w (KeysP (fun b => b < B0) s.keys w) := by
  induction s using Sj.ind with
  | h kd sb da ns kk ks ih =>
  intro v m w B0 hB0 hr hg
  have IH := Lib.hid ih
  clear ih
  obtain ⟨hkd, hsb, hs1, hi1, hn, K, hrow, hk⟩ := hr.all
  obtain ⟨vkd, vs, a1, n1, c1, a2, n2, c2, vk, a3, n3, c3⟩ := v
  dsimp only at hkd hsb hs1 hi1 hn hrow
  obtain rfl : vkd = kd := hkd
  obtain rfl : vs = sb := hsb
  subst hn
  have hmax := keys_max hg
  obtain ⟨g1, g2, g3, g4, g5, g6⟩ := greatJ_no hg
  have HG := Lib.hid (greatL_no g6)
  have hKD := Lib.hid (keys_def vkd vs da ns kk ks)
  have HS := Lib.hid hs1
  have HI := Lib.hid hi1
  have HR := Lib.hid hrow
  have HK := Lib.hid hk
  have hn1 := hs1.1
  have hn1b : n1 ≤ 200 := by omega
  have hnc1 := Nat.le_trans hs1.2.1 hs1.2.2.1
  have hnc3 := Nat.le_trans hrow.1 hrow.2.1
  unfold maxLen at hnc1 hnc3
  have HN1 := Lib.hid hn1
  clear hs1 hi1 hrow hk hr hn1 g3 g4 g5 g6 hg
  rw [hKD.out] at hmax ⊢
  clear hKD
  by_cases hkd : vkd = 1 ∨ vkd = 2
  case pos =>
    skip
    rcases hkd with rfl | rfl
    · skip
      have hE := Lib.hid (one_key (kd := (1 : Nat)) vs da (by omega))
      rw [hE.out] at hmax ⊢
      have X := Lib.hid ((Box.new w 28 #[.int .u8 (1 : Nat), .bool vs, .slice a1 n1 c1, .slice a2 n2 c2, .int .i64 vk, .slice a3 ks.length c3]).alloc (.cells #[] 24))
      have B : Below w.heap.size w ((w.alloc (.cells #[.int .u8 (1 : Nat), .bool vs, .slice a1 n1 c1, .slice a2 n2 c2, .int .i64 vk, .slice a3 ks.length c3] 28)).alloc (.cells #[] 24)) := ((Below.refl _ _).alloc (Nat.le_refl _) _).alloc (by simp) _
      have O : OwnG ((w.alloc (.cells #[.int .u8 (1 : Nat), .bool vs, .slice a1 n1 c1, .slice a2 n2 c2, .int .i64 vk, .slice a3 ks.length c3] 28)).alloc (.cells #[] 24)) (w.heap.size + 1) 2 (.slice (some ⟨w.heap.size + 1, 0, none⟩) 0 0) 0 [] := by
        have := OwnG.new (w.alloc (.cells #[.int .u8 (1 : Nat), .bool vs, .slice a1 n1 c1, .slice a2 n2 c2, .int .i64 vk, .slice a3 ks.length c3] 28)) (w.heap.size + 1) 2 (by simp) #[] 24 0 0 (Nat.le_refl _) (Nat.zero_le _) rfl
        simpa using this
      have hss : w.heap.size + 2 ≤ (((w.alloc (.cells #[.int .u8 (1 : Nat), .bool vs, .slice a1 n1 c1, .slice a2 n2 c2, .int .i64 vk, .slice a3 ks.length c3] 28)).alloc (.cells #[] 24))).heap.size := by simp
      show Calls _ _ #[.agg #[.int .u8 (1 : Nat), .bool vs, .slice a1 n1 c1, .slice a2 n2 c2, .int .i64 vk, .slice a3 ks.length c3]] _ _
      go_enter Tryd.func11, Tryd.ntmps11
      go_upto_region 2 with fail
      change Code.wp _ _ _ _ ((w.alloc (.cells #[.int .u8 (1 : Nat), .bool vs, .slice a1 n1 c1, .slice a2 n2 c2, .int .i64 vk, .slice a3 ks.length c3] 28)).alloc (.cells #[] 24))
      generalize ((w.alloc (.cells #[.int .u8 (1 : Nat), .bool vs, .slice a1 n1 c1, .slice a2 n2 c2, .int .i64 vk, .slice a3 ks.length c3] 28)).alloc (.cells #[] 24)) = x0 at *
      have q0 := X.out.cell 0 rfl
      go_wp2_with first | (refine wpList_load_midG 24 _ rfl w.heap.size 1 rfl [.bool vs, .slice a1 n1 c1] _ (Box.mid X.out 1 _ (mid2 rfl rfl)) Tryd.underlying24 rfl (by kernel_rfl) rfl ?_) | (refine wpList_append_E2 rfl _ _ rfl rfl (O.after ((Below.refl _ _).alloc (Nat.le_refl _) _)) rfl (OwnG.srcE (own_oneE x0 (w.heap.size + 1) (by omega) vs ⟨a1, n1, c1⟩)) (by omega) (by simp; omega) ?_; intro v3 w3 ho3 hg3 hw3)
      have A1 : Below x0.heap.size x0 (x0.alloc (.cells #[.bool vs, .slice a1 n1 c1] 24)) := (Below.refl _ _).alloc (Nat.le_refl _) _
      have O1 := O.after A1
      have ME0 : Hid (ME (okO (fun b => b < B0) v3) w3 [(vs, ⟨a1, n1, c1⟩)] ([(vs, da)] ++ Sj.keysL (ks.take 0))) := Lib.hid (by
        rw [List.take_zero]
        exact (ME.grew (ok := fun b => b < B0) (.cons vs ⟨a1, n1, c1⟩ da [] [] (HS.out.after (B.trans (A1.mono B.size))) HI.out .nil) (fun b h _ e => by have h : b < B0 := h; have := O1.lt b e; omega) hg3 hw3))
      replace X := Lib.hid ((X.out.after A1).grown hg3 (fun k hk => by have := O1.lt k hk; omega))
      have B3 := own_below w.heap.size (by omega) (by simp; omega) O1 hg3 (B.trans (A1.mono B.size))
      clear B
      have B := B3
      have hz3 := hg3.size
      have hz4 := A1.size
      clear A1 O1 hg3 hw3 O q0
      replace ho3 : OwnG w3 (w.heap.size + 1) 2 v3 1 (cellsE [(vs, ⟨a1, n1, c1⟩)]) := ho3
      go_loopw [3, 4] (fun acc i wr => ∃ (k n : Nat) (E : List (Bool × S3)), k ≤ ks.length ∧ i = .int .i64 k ∧ OwnG wr (w.heap.size + 1) 2 acc n (cellsE E) ∧ Hid (ME (okO (fun b => b < B0) acc) wr E ([(vs, da)] ++ Sj.keysL (ks.take k))) ∧ Hid (n = ([(vs, da)] ++ Sj.keysL (ks.take k)).length) ∧ w.heap.size + 1 ≤ wr.heap.size ∧ Below w.heap.size w wr ∧ Box wr w.heap.size 28 #[.int .u8 (1 : Nat), .bool vs, .slice a1 n1 c1, .slice a2 n2 c2, .int .i64 vk, .slice a3 ks.length c3]) (fun _ i _ => ks.length - (intOf i).toNat)
      case atStart => exact ⟨0, 1, [(vs, ⟨a1, n1, c1⟩)], Nat.zero_le _, rfl, ho3, Lib.hid (by rw [List.take_zero]; exact ME0.out), Lib.hid rfl, by omega, B, X.out⟩
      case round =>
        obtain ⟨k, n, E, hkl, rfl, ho, hme, hnl, hzl, hb, hx⟩ := hrel
        have q5 := hx.cell 5 rfl
        by_cases hlt : k < ks.length
        case pos =>
          obtain ⟨b, o, rfl, hld⟩ := (HR.out.after hb).range hlt
          have HL := Lib.hid hld
          clear hld
          have hkm := HG.out _ (List.getElem_mem hlt)
          have hfit : n + ks[k].keys.length ≤ 62748517 := by
            have h1 := keysL_take ks (k + 1)
            rw [Sj.keysL_snoc ks k hlt] at h1
            have h2 := hnl.out
            simp only [List.length_append] at h1 h2 hmax
            omega
          have IH3 := Lib.hid (IH.out _ (List.getElem_mem hlt) (K k) (m + 1) wr B0 (by have := hb.size; omega) ((HK.out k hlt).after hb) hkm)
          have O1 := ho
          have M1 := hme.out
          have b1 := hb
          go_wp2_with (refine wpList_load_jv rfl _ rfl b _ rfl _ HL.out ?_)
          refine IH3.out.mono ?_
          rintro e w1 ⟨v2, E2, rfl, ho2, hm2, hb1⟩
          have hOlt := O1.lt
          have O2 := Lib.hid (O1.after hb1)
          have M2 := Lib.hid (M1.after hb1)
          have b2 := b1.trans (hb1.mono b1.size)
          have hM2 := Lib.hid hm2
          have hS2 := Lib.hid (OwnG.srcE ho2)
          have hsz1 := hb1.size
          have hsz2 := b1.size
          have hOl := Lib.hid hOlt
          have hss : w.heap.size + 1 ≤ w1.heap.size := by omega
          have hx1 := Lib.hid (hx.after hb1)
          clear ho2 hm2 hb1 O1 M1 hOlt ho hme IH3
          go_wp2_with (refine wpList_append_E2 rfl _ _ rfl rfl O2.out rfl hS2.out (by omega) (by omega) ?_; intro v3 w3 ho3 hg3 hw3; rw [← cellsE_append] at ho3)
          go_roundw
          case rel =>
            refine ⟨k + 1, n + ks[k].keys.length, E ++ E2, by omega, by go_num, ho3, Lib.hid (keys_step (ok := (fun b => b < B0)) (ok2 := (fun b => b < B0)) hlt M2.out hM2.out (fun b h => h) (fun b h e => by have h : b < B0 := h; have := hOl.out b e; omega) hg3 hw3), Lib.hid (by rw [Sj.keysL_snoc ks k hlt, ← List.append_assoc, List.length_append, ← hnl.out]), (by have := hg3.size; omega), own_below w.heap.size (by omega) (by omega) O2.out hg3 b2, hx1.out.grown hg3 (fun k hk => by have := hOl.out k hk; omega)⟩
          case measure => simp [intOf]; omega
        case neg =>
          have hkk : k = ks.length := by omega
          subst hkk
          rw [List.take_length] at hme hnl
          clear hlt
          go_wp2_with fail
          go_ret
          exact keysP_mk (Nat.le_succ _) hnl.out ho hme.out hb
    · skip
      have hE := Lib.hid (one_key (kd := (2 : Nat)) vs da (by omega))
      rw [hE.out] at hmax ⊢
      have X := Lib.hid ((Box.new w 28 #[.int .u8 (2 : Nat), .bool vs, .slice a1 n1 c1, .slice a2 n2 c2, .int .i64 vk, .slice a3 ks.length c3]).alloc (.cells #[] 24))
      have B : Below w.heap.size w ((w.alloc (.cells #[.int .u8 (2 : Nat), .bool vs, .slice a1 n1 c1, .slice a2 n2 c2, .int .i64 vk, .slice a3 ks.length c3] 28)).alloc (.cells #[] 24)) := ((Below.refl _ _).alloc (Nat.le_refl _) _).alloc (by simp) _
      have O : OwnG ((w.alloc (.cells #[.int .u8 (2 : Nat), .bool vs, .slice a1 n1 c1, .slice a2 n2 c2, .int .i64 vk, .slice a3 ks.length c3] 28)).alloc (.cells #[] 24)) (w.heap.size + 1) 2 (.slice (some ⟨w.heap.size + 1, 0, none⟩) 0 0) 0 [] := by
        have := OwnG.new (w.alloc (.cells #[.int .u8 (2 : Nat), .bool vs, .slice a1 n1 c1, .slice a2 n2 c2, .int .i64 vk, .slice a3 ks.length c3] 28)) (w.heap.size + 1) 2 (by simp) #[] 24 0 0 (Nat.le_refl _) (Nat.zero_le _) rfl
        simpa using this
      have hss : w.heap.size + 2 ≤ (((w.alloc (.cells #[.int .u8 (2 : Nat), .bool vs, .slice a1 n1 c1, .slice a2 n2 c2, .int .i64 vk, .slice a3 ks.length c3] 28)).alloc (.cells #[] 24))).heap.size := by simp
      show Calls _ _ #[.agg #[.int .u8 (2 : Nat), .bool vs, .slice a1 n1 c1, .slice a2 n2 c2, .int .i64 vk, .slice a3 ks.length c3]] _ _
      go_enter Tryd.func11, Tryd.ntmps11
      go_upto_region 2 with fail
      change Code.wp _ _ _ _ ((w.alloc (.cells #[.int .u8 (2 : Nat), .bool vs, .slice a1 n1 c1, .slice a2 n2 c2, .int .i64 vk, .slice a3 ks.length c3] 28)).alloc (.cells #[] 24))
      generalize ((w.alloc (.cells #[.int .u8 (2 : Nat), .bool vs, .slice a1 n1 c1, .slice a2 n2 c2, .int .i64 vk, .slice a3 ks.length c3] 28)).alloc (.cells #[] 24)) = x0 at *
      have q0 := X.out.cell 0 rfl
      go_wp2_with first | (refine wpList_load_midG 24 _ rfl w.heap.size 1 rfl [.bool vs, .slice a1 n1 c1] _ (Box.mid X.out 1 _ (mid2 rfl rfl)) Tryd.underlying24 rfl (by kernel_rfl) rfl ?_) | (refine wpList_append_E2 rfl _ _ rfl rfl (O.after ((Below.refl _ _).alloc (Nat.le_refl _) _)) rfl (OwnG.srcE (own_oneE x0 (w.heap.size + 1) (by omega) vs ⟨a1, n1, c1⟩)) (by omega) (by simp; omega) ?_; intro v3 w3 ho3 hg3 hw3)
      have A1 : Below x0.heap.size x0 (x0.alloc (.cells #[.bool vs, .slice a1 n1 c1] 24)) := (Below.refl _ _).alloc (Nat.le_refl _) _
      have O1 := O.after A1
      have ME0 : Hid (ME (okO (fun b => b < B0) v3) w3 [(vs, ⟨a1, n1, c1⟩)] ([(vs, da)] ++ Sj.keysL (ks.take 0))) := Lib.hid (by
        rw [List.take_zero]
        exact (ME.grew (ok := fun b => b < B0) (.cons vs ⟨a1, n1, c1⟩ da [] [] (HS.out.after (B.trans (A1.mono B.size))) HI.out .nil) (fun b h _ e => by have h : b < B0 := h; have := O1.lt b e; omega) hg3 hw3))
      replace X := Lib.hid ((X.out.after A1).grown hg3 (fun k hk => by have := O1.lt k hk; omega))
      have B3 := own_below w.heap.size (by omega) (by simp; omega) O1 hg3 (B.trans (A1.mono B.size))
      clear B
      have B := B3
      have hz3 := hg3.size
      have hz4 := A1.size
      clear A1 O1 hg3 hw3 O q0
      replace ho3 : OwnG w3 (w.heap.size + 1) 2 v3 1 (cellsE [(vs, ⟨a1, n1, c1⟩)]) := ho3
      go_loopw [3, 4] (fun acc i wr => ∃ (k n : Nat) (E : List (Bool × S3)), k ≤ ks.length ∧ i = .int .i64 k ∧ OwnG wr (w.heap.size + 1) 2 acc n (cellsE E) ∧ Hid (ME (okO (fun b => b < B0) acc) wr E ([(vs, da)] ++ Sj.keysL (ks.take k))) ∧ Hid (n = ([(vs, da)] ++ Sj.keysL (ks.take k)).length) ∧ w.heap.size + 1 ≤ wr.heap.size ∧ Below w.heap.size w wr ∧ Box wr w.heap.size 28 #[.int .u8 (2 : Nat), .bool vs, .slice a1 n1 c1, .slice a2 n2 c2, .int .i64 vk, .slice a3 ks.length c3]) (fun _ i _ => ks.length - (intOf i).toNat)
      case atStart => exact ⟨0, 1, [(vs, ⟨a1, n1, c1⟩)], Nat.zero_le _, rfl, ho3, Lib.hid (by rw [List.take_zero]; exact ME0.out), Lib.hid rfl, by omega, B, X.out⟩
      case round =>
        obtain ⟨k, n, E, hkl, rfl, ho, hme, hnl, hzl, hb, hx⟩ := hrel
        have q5 := hx.cell 5 rfl
        by_cases hlt : k < ks.length
        case pos =>
          obtain ⟨b, o, rfl, hld⟩ := (HR.out.after hb).range hlt
          have HL := Lib.hid hld
          clear hld
          have hkm := HG.out _ (List.getElem_mem hlt)
          have hfit : n + ks[k].keys.length ≤ 62748517 := by
            have h1 := keysL_take ks (k + 1)
            rw [Sj.keysL_snoc ks k hlt] at h1
            have h2 := hnl.out
            simp only [List.length_append] at h1 h2 hmax
            omega
          have IH3 := Lib.hid (IH.out _ (List.getElem_mem hlt) (K k) (m + 1) wr B0 (by have := hb.size; omega) ((HK.out k hlt).after hb) hkm)
          have O1 := ho
          have M1 := hme.out
          have b1 := hb
          go_wp2_with (refine wpList_load_jv rfl _ rfl b _ rfl _ HL.out ?_)
          refine IH3.out.mono ?_
          rintro e w1 ⟨v2, E2, rfl, ho2, hm2, hb1⟩
          have hOlt := O1.lt
          have O2 := Lib.hid (O1.after hb1)
          have M2 := Lib.hid (M1.after hb1)
          have b2 := b1.trans (hb1.mono b1.size)
          have hM2 := Lib.hid hm2
          have hS2 := Lib.hid (OwnG.srcE ho2)
          have hsz1 := hb1.size
          have hsz2 := b1.size
          have hOl := Lib.hid hOlt
          have hss : w.heap.size + 1 ≤ w1.heap.size := by omega
          have hx1 := Lib.hid (hx.after hb1)
          clear ho2 hm2 hb1 O1 M1 hOlt ho hme IH3
          go_wp2_with (refine wpList_append_E2 rfl _ _ rfl rfl O2.out rfl hS2.out (by omega) (by omega) ?_; intro v3 w3 ho3 hg3 hw3; rw [← cellsE_append] at ho3)
          go_roundw
          case rel =>
            refine ⟨k + 1, n + ks[k].keys.length, E ++ E2, by omega, by go_num, ho3, Lib.hid (keys_step (ok := (fun b => b < B0)) (ok2 := (fun b => b < B0)) hlt M2.out hM2.out (fun b h => h) (fun b h e => by have h : b < B0 := h; have := hOl.out b e; omega) hg3 hw3), Lib.hid (by rw [Sj.keysL_snoc ks k hlt, ← List.append_assoc, List.length_append, ← hnl.out]), (by have := hg3.size; omega), own_below w.heap.size (by omega) (by omega) O2.out hg3 b2, hx1.out.grown hg3 (fun k hk => by have := hOl.out k hk; omega)⟩
          case measure => simp [intOf]; omega
        case neg =>
          have hkk : k = ks.length := by omega
          subst hkk
          rw [List.take_length] at hme hnl
          clear hlt
          go_wp2_with fail
          go_ret
          exact keysP_mk (Nat.le_succ _) hnl.out ho hme.out hb
  case neg =>
    rw [if_neg hkd] at hmax ⊢
    have X := Lib.hid ((Box.new w 28 #[.int .u8 vkd, .bool vs, .slice a1 n1 c1, .slice a2 n2 c2, .int .i64 vk, .slice a3 ks.length c3]).alloc (.cells #[] 24))
    have B : Below w.heap.size w ((w.alloc (.cells #[.int .u8 vkd, .bool vs, .slice a1 n1 c1, .slice a2 n2 c2, .int .i64 vk, .slice a3 ks.length c3] 28)).alloc (.cells #[] 24)) := ((Below.refl _ _).alloc (Nat.le_refl _) _).alloc (by simp) _
    have O : OwnG ((w.alloc (.cells #[.int .u8 vkd, .bool vs, .slice a1 n1 c1, .slice a2 n2 c2, .int .i64 vk, .slice a3 ks.length c3] 28)).alloc (.cells #[] 24)) (w.heap.size + 1) 2 (.slice (some ⟨w.heap.size + 1, 0, none⟩) 0 0) 0 [] := by
      have := OwnG.new (w.alloc (.cells #[.int .u8 vkd, .bool vs, .slice a1 n1 c1, .slice a2 n2 c2, .int .i64 vk, .slice a3 ks.length c3] 28)) (w.heap.size + 1) 2 (by simp) #[] 24 0 0 (Nat.le_refl _) (Nat.zero_le _) rfl
      simpa using this
    have hss : w.heap.size + 2 ≤ (((w.alloc (.cells #[.int .u8 vkd, .bool vs, .slice a1 n1 c1, .slice a2 n2 c2, .int .i64 vk, .slice a3 ks.length c3] 28)).alloc (.cells #[] 24))).heap.size := by simp
    show Calls _ _ #[.agg #[.int .u8 vkd, .bool vs, .slice a1 n1 c1, .slice a2 n2 c2, .int .i64 vk, .slice a3 ks.length c3]] _ _
    go_enter Tryd.func11, Tryd.ntmps11
    go_upto_region 2 with fail
    change Code.wp _ _ _ _ ((w.alloc (.cells #[.int .u8 vkd, .bool vs, .slice a1 n1 c1, .slice a2 n2 c2, .int .i64 vk, .slice a3 ks.length c3] 28)).alloc (.cells #[] 24))
    generalize ((w.alloc (.cells #[.int .u8 vkd, .bool vs, .slice a1 n1 c1, .slice a2 n2 c2, .int .i64 vk, .slice a3 ks.length c3] 28)).alloc (.cells #[] 24)) = x0 at *
    have e1 : ((vkd : Int) == 1) = false := by simp; omega
    have e2 : ((vkd : Int) == 2) = false := by simp; omega
    have ME0 : Hid (ME (okO (fun b => b < B0) (.slice (some ⟨w.heap.size + 1, 0, none⟩) 0 0)) x0 [] ([] ++ Sj.keysL (ks.take 0))) := Lib.hid .nil
    have q0 := X.out.cell 0 rfl
    go_wp2_with fail
    clear q0
    go_loopw [3, 4] (fun acc i wr => ∃ (k n : Nat) (E : List (Bool × S3)), k ≤ ks.length ∧ i = .int .i64 k ∧ OwnG wr (w.heap.size + 1) 2 acc n (cellsE E) ∧ Hid (ME (okO (fun b => b < B0) acc) wr E ([] ++ Sj.keysL (ks.take k))) ∧ Hid (n = ([] ++ Sj.keysL (ks.take k)).length) ∧ w.heap.size + 1 ≤ wr.heap.size ∧ Below w.heap.size w wr ∧ Box wr w.heap.size 28 #[.int .u8 vkd, .bool vs, .slice a1 n1 c1, .slice a2 n2 c2, .int .i64 vk, .slice a3 ks.length c3]) (fun _ i _ => ks.length - (intOf i).toNat)
    case atStart => exact ⟨0, 0, [], Nat.zero_le _, rfl, O, Lib.hid (by rw [List.take_zero]; exact ME0.out), Lib.hid rfl, by omega, B, X.out⟩
    case round =>
      obtain ⟨k, n, E, hkl, rfl, ho, hme, hnl, hzl, hb, hx⟩ := hrel
      have q5 := hx.cell 5 rfl
      by_cases hlt : k < ks.length
      case pos =>
        obtain ⟨b, o, rfl, hld⟩ := (HR.out.after hb).range hlt
        have HL := Lib.hid hld
        clear hld
        have hkm := HG.out _ (List.getElem_mem hlt)
        have hfit : n + ks[k].keys.length ≤ 62748517 := by
          have h1 := keysL_take ks (k + 1)
          rw [Sj.keysL_snoc ks k hlt] at h1
          have h2 := hnl.out
          simp only [List.length_append] at h1 h2 hmax
          omega
        have IH3 := Lib.hid (IH.out _ (List.getElem_mem hlt) (K k) (m + 1) wr B0 (by have := hb.size; omega) ((HK.out k hlt).after hb) hkm)
        have O1 := ho
        have M1 := hme.out
        have b1 := hb
        go_wp2_with (refine wpList_load_jv rfl _ rfl b _ rfl _ HL.out ?_)
        refine IH3.out.mono ?_
        rintro e w1 ⟨v2, E2, rfl, ho2, hm2, hb1⟩
        have hOlt := O1.lt
        have O2 := Lib.hid (O1.after hb1)
        have M2 := Lib.hid (M1.after hb1)
        have b2 := b1.trans (hb1.mono b1.size)
        have hM2 := Lib.hid hm2
        have hS2 := Lib.hid (OwnG.srcE ho2)
        have hsz1 := hb1.size
        have hsz2 := b1.size
        have hOl := Lib.hid hOlt
        have hss : w.heap.size + 1 ≤ w1.heap.size := by omega
        have hx1 := Lib.hid (hx.after hb1)
        clear ho2 hm2 hb1 O1 M1 hOlt ho hme IH3
        go_wp2_with (refine wpList_append_E2 rfl _ _ rfl rfl O2.out rfl hS2.out (by omega) (by omega) ?_; intro v3 w3 ho3 hg3 hw3; rw [← cellsE_append] at ho3)
        go_roundw
        case rel =>
          refine ⟨k + 1, n + ks[k].keys.length, E ++ E2, by omega, by go_num, ho3, Lib.hid (keys_step (ok := (fun b => b < B0)) (ok2 := (fun b => b < B0)) hlt M2.out hM2.out (fun b h => h) (fun b h e => by have h : b < B0 := h; have := hOl.out b e; omega) hg3 hw3), Lib.hid (by rw [Sj.keysL_snoc ks k hlt, ← List.append_assoc, List.length_append, ← hnl.out]), (by have := hg3.size; omega), own_below w.heap.size (by omega) (by omega) O2.out hg3 b2, hx1.out.grown hg3 (fun k hk => by have := hOl.out k hk; omega)⟩
        case measure => simp [intOf]; omega
      case neg =>
        have hkk : k = ks.length := by omega
        subst hkk
        rw [List.take_length] at hme hnl
        clear hlt
        go_wp2_with fail
        go_ret
        exact keysP_mk (Nat.le_succ _) hnl.out ho hme.out hb

set_option maxHeartbeats 32000000 in
set_option maxRecDepth 100000 in
theorem keysJ_any (s : Sj) : ∀ (v : JV) (m : Nat) (w : World), RdJ (fun _ => True) w v s → s.great m = false → Calls Tryd.prog 10 #[v.val] w (KeysP (fun b => w.heap.size ≤ b) s.keys w) := by
  induction s using Sj.ind with
  | h kd sb da ns kk ks ih =>
  intro v m w hr hg
  have IH := Lib.hid ih
  clear ih
  obtain ⟨hkd, hsb, hs1, hi1, hn, K, hrow, hk⟩ := hr.all
  obtain ⟨vkd, vs, a1, n1, c1, a2, n2, c2, vk, a3, n3, c3⟩ := v
  dsimp only at hkd hsb hs1 hi1 hn hrow
  obtain rfl : vkd = kd := hkd
  obtain rfl : vs = sb := hsb
  subst hn
  have hmax := keys_max hg
  obtain ⟨g1, g2, g3, g4, g5, g6⟩ := greatJ_no hg
  have HG := Lib.hid (greatL_no g6)
  have hKD := Lib.hid (keys_def vkd vs da ns kk ks)
  have HS := Lib.hid hs1
  have HI := Lib.hid hi1
  have HR := Lib.hid hrow
  have HK := Lib.hid hk
  have hn1 := hs1.1
  have hn1b : n1 ≤ 200 := by omega
  have hnc1 := Nat.le_trans hs1.2.1 hs1.2.2.1
  have hnc3 := Nat.le_trans hrow.1 hrow.2.1
  unfold maxLen at hnc1 hnc3
  have HN1 := Lib.hid hn1
  clear hs1 hi1 hrow hk hr hn1 g3 g4 g5 g6 hg
  rw [hKD.out] at hmax ⊢
  clear hKD
  by_cases hkd : vkd = 1 ∨ vkd = 2
  case pos =>
    rcases hkd with rfl | rfl
    · skip
      have hE := Lib.hid (one_key (kd := (1 : Nat)) vs da (by omega))
      rw [hE.out] at hmax ⊢
      have X := Lib.hid (Box.new w 28 #[.int .u8 (1 : Nat), .bool vs, .slice a1 n1 c1, .slice a2 n2 c2, .int .i64 vk, .slice a3 ks.length c3])
      have B : Below w.heap.size w (w.alloc (.cells #[.int .u8 (1 : Nat), .bool vs, .slice a1 n1 c1, .slice a2 n2 c2, .int .i64 vk, .slice a3 ks.length c3] 28)) := (Below.refl _ _).alloc (Nat.le_refl _) _
      have hss : w.heap.size + 1 ≤ ((w.alloc (.cells #[.int .u8 (1 : Nat), .bool vs, .slice a1 n1 c1, .slice a2 n2 c2, .int .i64 vk, .slice a3 ks.length c3] 28))).heap.size := by simp
      show Calls _ _ #[.agg #[.int .u8 (1 : Nat), .bool vs, .slice a1 n1 c1, .slice a2 n2 c2, .int .i64 vk, .slice a3 ks.length c3]] _ _
      go_enter Tryd.func10, Tryd.ntmps10
      go_upto_region 1 with fail
      change Code.wp _ _ _ _ (w.alloc (.cells #[.int .u8 (1 : Nat), .bool vs, .slice a1 n1 c1, .slice a2 n2 c2, .int .i64 vk, .slice a3 ks.length c3] 28))
      generalize (w.alloc (.cells #[.int .u8 (1 : Nat), .bool vs, .slice a1 n1 c1, .slice a2 n2 c2, .int .i64 vk, .slice a3 ks.length c3] 28)) = x0 at *
      have q0 := X.out.cell 0 rfl
      go_upto_region 3 with fail
      clear q0
      have hKS : Keeps (fun w' => Box w' w.heap.size 28 #[.int .u8 (1 : Nat), .bool vs, .slice a1 n1 c1, .slice a2 n2 c2, .int .i64 vk, .slice a3 ks.length c3] ∧ Sl w' a1 n1 c1 da) := fun _ _ h b => ⟨h.1.after b, h.2.after b⟩
      refine wp_region_W (w := x0) [10] (fun w' => Box w' w.heap.size 28 #[.int .u8 (1 : Nat), .bool vs, .slice a1 n1 c1, .slice a2 n2 c2, .int .i64 vk, .slice a3 ks.length c3] ∧ Sl w' a1 n1 c1 da) rfl (hKS _ _ ⟨X.out, HS.out.after B⟩ (Below.refl _ _).drew) ?_
      refine wpW_val 0 hKS rfl (by kernel_rfl) (by kernel_rfl) (by kernel_rfl) (by kernel_rfl) rfl (fun _ _ _ _ h => h) (.slice none 0 0) (fun w' h => by simp [go_sem]) ?_
      simp only [Act.put, List.setIfInBounds_toArray, List.set_cons_zero, List.set_cons_succ]
      refine wpW_val 1 hKS rfl (by kernel_rfl) (by kernel_rfl) (by kernel_rfl) (by kernel_rfl) rfl (fun _ _ _ _ h => h) (.pointer (some ⟨w.heap.size, 1, none⟩)) (fun w' h => by simp [go_sem]) ?_
      simp only [Act.put, List.setIfInBounds_toArray, List.set_cons_zero, List.set_cons_succ]
      refine wpW_val 2 hKS rfl (by kernel_rfl) (by kernel_rfl) (by kernel_rfl) (by kernel_rfl) rfl (fun _ _ _ _ h => h) (.pointer (some ⟨w.heap.size, 1, none⟩)) (fun w' h => by simp [go_sem]) ?_
      simp only [Act.put, List.setIfInBounds_toArray, List.set_cons_zero, List.set_cons_succ]
      refine wpW_val 3 hKS rfl (by kernel_rfl) (by kernel_rfl) (by kernel_rfl) (by kernel_rfl) rfl (fun _ _ _ _ h => h) (.bool vs) (fun w' h => by simp [go_sem, h.1.cell 1 rfl]) ?_
      simp only [Act.put, List.setIfInBounds_toArray, List.set_cons_zero, List.set_cons_succ]
      refine wpW_val 4 hKS rfl (by kernel_rfl) (by kernel_rfl) (by kernel_rfl) (by kernel_rfl) rfl (fun _ _ _ _ h => h) (.pointer (some ⟨w.heap.size, 1, none⟩)) (fun w' h => by simp [go_sem]) ?_
      simp only [Act.put, List.setIfInBounds_toArray, List.set_cons_zero, List.set_cons_succ]
      refine wpW_val 5 hKS rfl (by kernel_rfl) (by kernel_rfl) (by kernel_rfl) (by kernel_rfl) rfl (fun _ _ _ _ h => h) (.pointer (some ⟨w.heap.size, 2, none⟩)) (fun w' h => by simp [go_sem]) ?_
      simp only [Act.put, List.setIfInBounds_toArray, List.set_cons_zero, List.set_cons_succ]
      refine wpW_val 6 hKS rfl (by kernel_rfl) (by kernel_rfl) (by kernel_rfl) (by kernel_rfl) rfl (fun _ _ _ _ h => h) (.slice a1 n1 c1) (fun w' h => by simp [go_sem, h.1.cell 2 rfl]) ?_
      simp only [Act.put, List.setIfInBounds_toArray, List.set_cons_zero, List.set_cons_succ]
      refine wpW_one 7 rfl (by kernel_rfl) (by kernel_rfl) rfl ?_
      intro w3 b3 s3
      replace b3 : Below x0.heap.size x0 w3 := (Below.refl _ x0).drew.trans b3
      refine wp_callR 23 #[.slice a1 n1 c1] (by simp [go_sem]) _ (bclone_any a1 n1 c1 da w3 s3.2 (by omega)) ?_
      rintro e w4 ⟨v4, rfl, ho4, hb4⟩
      obtain ⟨p1, q1, rfl, hsl4⟩ := ho4.sl
      refine ⟨_, rfl, hKS _ _ s3 hb4, ?_⟩
      simp only [Act.put, List.setIfInBounds_toArray, List.set_cons_zero, List.set_cons_succ]
      refine wpW_free 8 hKS rfl (by kernel_rfl) (by kernel_rfl) (by kernel_rfl) (by kernel_rfl) rfl (fun _ _ _ _ h => h) (.agg #[.bool vs, .slice p1 da.length q1]) (fun w' => by simp [go_sem]) ?_
      simp only [Act.put, List.setIfInBounds_toArray, List.set_cons_zero, List.set_cons_succ]
      refine wpW_one 9 rfl (by kernel_rfl) (by kernel_rfl) rfl ?_
      intro w5 b5 s5
      refine wp_of_run (.slice (some ⟨w5.heap.size, 0, none⟩) 1 1) (w5.alloc (.cells #[.bool vs, .slice p1 da.length q1] 24)) (by simp [go_sem]) ?_
      have b6 : Below w5.heap.size w5 (w5.alloc (.cells #[.bool vs, .slice p1 da.length q1] 24)) := (Below.refl _ _).alloc (Nat.le_refl _) _
      have hz3 := b3.size
      have hz4 := hb4.size
      have hz5 := b5.size
      have hz6 := b6.size
      have o6 := own_oneE w5 (w.heap.size + 1) (by omega) vs ⟨p1, da.length, q1⟩
      refine ⟨hKS _ _ s5 b6, ?_⟩
      simp only [Act.put, List.setIfInBounds_toArray, List.set_cons_zero, List.set_cons_succ]
      refine wpW_write 10 rfl (by kernel_rfl) (by kernel_rfl) rfl ?_
      intro w9 b9 s9
      have hz9 := b9.size
      have o9 := o6.after b9
      have n9 := OwnG.nil w9 (w.heap.size + 1) 2
      have b49 : Below w4.heap.size w4 w9 := b5.trans ((b6.mono b5.size).trans (b9.mono (Nat.le_trans b5.size b6.size)))
      have b09 : Below x0.heap.size x0 w9 := (b3.trans (hb4.mono hz3)).trans (b49.mono (Nat.le_trans hz3 hz4))
      have hi4 : InB (fun b => w.heap.size ≤ b) p1 da.length := .inr fun b o s e => by subst e; have := ho4.own b rfl; show w.heap.size ≤ b; omega
      have m9 : ME (fun b => w.heap.size ≤ b) w9 [(vs, ⟨p1, da.length, q1⟩)] [(vs, da)] := .cons vs ⟨p1, da.length, q1⟩ da [] [] (hsl4.after b49) hi4 .nil
      refine wp_append_E2 (v := .slice none 0 0) _ _ rfl rfl n9 rfl (OwnG.srcE o9) (by omega) (by omega) ?_
      intro v10 w10 ho10 hg10 hw10
      simp only [Act.put, List.setIfInBounds_toArray, List.set_cons_zero, List.set_cons_succ]
      refine wpU_val 11 keeps_true rfl (by kernel_rfl) (by kernel_rfl) (by kernel_rfl) rfl (fun _ _ _ _ h => h) v10 (fun w' h => by simp [go_sem]) ?_
      simp only [Act.put, List.setIfInBounds_toArray, List.set_cons_zero, List.set_cons_succ]
      refine wpU_done (by kernel_rfl) ?_
      intro w12 b12 _
      have hz10 := hg10.size
      have hz12 := b12.size
      replace ho10 : OwnG w10 (w.heap.size + 1) 2 v10 1 (cellsE [(vs, ⟨p1, da.length, q1⟩)]) := ho10
      have O12 := ho10.after b12
      have M12 := ((m9.grew (v := .slice none 0 0) (v' := v10) (fun b h _ e => by simp [Value.ownBlock] at e) hg10 hw10)).after b12
      have ME0 : Hid (ME (okO (fun b => w.heap.size ≤ b) v10) w12 [(vs, ⟨p1, da.length, q1⟩)] ([(vs, da)] ++ Sj.keysL (ks.take 0))) := Lib.hid (by rw [List.take_zero]; exact M12)
      replace X := Lib.hid (((X.out.after b09).grown hg10 (fun k hk => by simp [Value.ownBlock] at hk)).after b12)
      have B3 := own_below w.heap.size (by omega) (by omega) n9 hg10 (B.trans (b09.mono B.size))
      replace B := B3.trans (b12.mono B3.size)
      clear hKS b3 s3 ho4 hsl4 hb4 b5 s5 b6 o6 b9 s9 o9 n9 b49 b09 hi4 m9 ho10 hg10 hw10 b12 M12 B3
      have q5 := X.out.cell 5 rfl
      go_wp2_with fail
      clear q5
      go_loopw [3, 28] (fun acc i wr => ∃ (k n : Nat) (E : List (Bool × S3)), k ≤ ks.length ∧ i = .int .i64 k ∧ OwnG wr (w.heap.size + 1) 2 acc n (cellsE E) ∧ Hid (ME (okO (fun b => w.heap.size ≤ b) acc) wr E ([(vs, da)] ++ Sj.keysL (ks.take k))) ∧ Hid (n = ([(vs, da)] ++ Sj.keysL (ks.take k)).length) ∧ w.heap.size + 1 ≤ wr.heap.size ∧ Below w.heap.size w wr) (fun _ i _ => ks.length - (intOf i).toNat)
      case atStart => exact ⟨0, 1, [(vs, ⟨p1, da.length, q1⟩)], Nat.zero_le _, rfl, O12, Lib.hid (by rw [List.take_zero]; exact ME0.out), Lib.hid rfl, by omega, B⟩
      case round =>
        obtain ⟨k, n, E, hkl, rfl, ho, hme, hnl, hzl, hb⟩ := hrel
        by_cases hlt : k < ks.length
        case pos =>
          obtain ⟨b, o, rfl, hld⟩ := (HR.out.after hb).range hlt
          have HL := Lib.hid hld
          clear hld
          have hkm := HG.out _ (List.getElem_mem hlt)
          have hfit : n + ks[k].keys.length ≤ 62748517 := by
            have h1 := keysL_take ks (k + 1)
            rw [Sj.keysL_snoc ks k hlt] at h1
            have h2 := hnl.out
            simp only [List.length_append] at h1 h2 hmax
            omega
          have IH2 := Lib.hid (IH.out _ (List.getElem_mem hlt) (K k) (m + 1))
          obtain ⟨v1, hv1⟩ : ∃ v1, v1 = K k := ⟨_, rfl⟩
          have HRK := Lib.hid ((HK.out k hlt).after hb)
          rw [← hv1] at HL IH2 HRK
          clear hv1
          obtain ⟨ekd, es, ea1, en1, ec1, ea2, en2, ec2, ek, ea3, en3, ec3⟩ := v1
          have hL1 := HL.out
          go_upto_region 7 with (refine wpList_load_jv rfl _ rfl b _ rfl _ hL1 ?_; simp only [JV.val])
          have hA : Below wr.heap.size wr (wr.alloc (.cells #[.int .u8 ekd, .bool es, .slice ea1 en1 ec1, .slice ea2 en2 ec2, .int .i64 ek, .slice ea3 en3 ec3] 28)) := (Below.refl _ _).alloc (Nat.le_refl _) _
          have Y1 := Lib.hid (Box.new wr 28 #[.int .u8 ekd, .bool es, .slice ea1 en1 ec1, .slice ea2 en2 ec2, .int .i64 ek, .slice ea3 en3 ec3])
          change Code.wp _ _ _ _ (wr.alloc (.cells #[.int .u8 ekd, .bool es, .slice ea1 en1 ec1, .slice ea2 en2 ec2, .int .i64 ek, .slice ea3 en3 ec3] 28))
          generalize (wr.alloc (.cells #[.int .u8 ekd, .bool es, .slice ea1 en1 ec1, .slice ea2 en2 ec2, .int .i64 ek, .slice ea3 en3 ec3] 28)) = z1 at *
          have O1 := ho.after hA
          have M1 := hme.out.after hA
          have b1 := hb.trans (hA.mono hb.size)
          have IH3 := Lib.hid (IH2.out z1 (HRK.out.after hA) hkm)
          have hlt1 := hA.size
          have hyl := Y1.out.lt
          generalize wr.heap.size = y1 at *
          clear hA hL1 HL IH2 HRK ho hme
          go_wp2_with (refine wpList_load_box rfl 28 _ rfl Y1.out (by rfl) Tryd.underlying28 rfl (by kernel_rfl) ?_)
          refine IH3.out.mono ?_
          rintro e w1 ⟨v2, E2, rfl, ho2, hm2, hb1⟩
          have hOlt := O1.lt
          have O2 := Lib.hid (O1.after hb1)
          have M2 := Lib.hid (M1.after hb1)
          have b2 := b1.trans (hb1.mono b1.size)
          have hM2 := Lib.hid hm2
          have hS2 := Lib.hid (OwnG.srcE ho2)
          have hsz1 := hb1.size
          have hsz2 := b1.size
          have hOl := Lib.hid hOlt
          have hss : w.heap.size + 1 ≤ w1.heap.size := by omega
          clear ho2 hm2 hb1 O1 M1 hOlt 
          go_wp2_with (refine wpList_append_E2 rfl _ _ rfl rfl O2.out rfl hS2.out (by omega) (by omega) ?_; intro v3 w3 ho3 hg3 hw3; rw [← cellsE_append] at ho3)
          go_roundw
          case rel =>
            refine ⟨k + 1, n + ks[k].keys.length, E ++ E2, by omega, by go_num, ho3, Lib.hid (keys_step (ok := (fun b => w.heap.size ≤ b)) (ok2 := (fun b => z1.heap.size ≤ b)) hlt M2.out hM2.out (fun b h => by show w.heap.size ≤ b; have h : z1.heap.size ≤ b := h; omega) (fun b h e => by have h : z1.heap.size ≤ b := h; have := hOl.out b e; omega) hg3 hw3), Lib.hid (by rw [Sj.keysL_snoc ks k hlt, ← List.append_assoc, List.length_append, ← hnl.out]), (by have := hg3.size; omega), own_below w.heap.size (by omega) (by omega) O2.out hg3 b2⟩
          case measure => simp [intOf]; omega
        case neg =>
          have hkk : k = ks.length := by omega
          subst hkk
          rw [List.take_length] at hme hnl
          clear hlt
          go_wp2_with fail
          go_ret
          exact keysP_mk (Nat.le_succ _) hnl.out ho hme.out hb
    · skip
      have hE := Lib.hid (one_key (kd := (2 : Nat)) vs da (by omega))
      rw [hE.out] at hmax ⊢
      have X := Lib.hid (Box.new w 28 #[.int .u8 (2 : Nat), .bool vs, .slice a1 n1 c1, .slice a2 n2 c2, .int .i64 vk, .slice a3 ks.length c3])
      have B : Below w.heap.size w (w.alloc (.cells #[.int .u8 (2 : Nat), .bool vs, .slice a1 n1 c1, .slice a2 n2 c2, .int .i64 vk, .slice a3 ks.length c3] 28)) := (Below.refl _ _).alloc (Nat.le_refl _) _
      have hss : w.heap.size + 1 ≤ ((w.alloc (.cells #[.int .u8 (2 : Nat), .bool vs, .slice a1 n1 c1, .slice a2 n2 c2, .int .i64 vk, .slice a3 ks.length c3] 28))).heap.size := by simp
      show Calls _ _ #[.agg #[.int .u8 (2 : Nat), .bool vs, .slice a1 n1 c1, .slice a2 n2 c2, .int .i64 vk, .slice a3 ks.length c3]] _ _
      go_enter Tryd.func10, Tryd.ntmps10
      go_upto_region 1 with fail
      change Code.wp _ _ _ _ (w.alloc (.cells #[.int .u8 (2 : Nat), .bool vs, .slice a1 n1 c1, .slice a2 n2 c2, .int .i64 vk, .slice a3 ks.length c3] 28))
      generalize (w.alloc (.cells #[.int .u8 (2 : Nat), .bool vs, .slice a1 n1 c1, .slice a2 n2 c2, .int .i64 vk, .slice a3 ks.length c3] 28)) = x0 at *
      have q0 := X.out.cell 0 rfl
      go_upto_region 3 with fail
      clear q0
      have hKS : Keeps (fun w' => Box w' w.heap.size 28 #[.int .u8 (2 : Nat), .bool vs, .slice a1 n1 c1, .slice a2 n2 c2, .int .i64 vk, .slice a3 ks.length c3] ∧ Sl w' a1 n1 c1 da) := fun _ _ h b => ⟨h.1.after b, h.2.after b⟩
      refine wp_region_W (w := x0) [10] (fun w' => Box w' w.heap.size 28 #[.int .u8 (2 : Nat), .bool vs, .slice a1 n1 c1, .slice a2 n2 c2, .int .i64 vk, .slice a3 ks.length c3] ∧ Sl w' a1 n1 c1 da) rfl (hKS _ _ ⟨X.out, HS.out.after B⟩ (Below.refl _ _).drew) ?_
      refine wpW_val 0 hKS rfl (by kernel_rfl) (by kernel_rfl) (by kernel_rfl) (by kernel_rfl) rfl (fun _ _ _ _ h => h) (.slice none 0 0) (fun w' h => by simp [go_sem]) ?_
      simp only [Act.put, List.setIfInBounds_toArray, List.set_cons_zero, List.set_cons_succ]
      refine wpW_val 1 hKS rfl (by kernel_rfl) (by kernel_rfl) (by kernel_rfl) (by kernel_rfl) rfl (fun _ _ _ _ h => h) (.pointer (some ⟨w.heap.size, 1, none⟩)) (fun w' h => by simp [go_sem]) ?_
      simp only [Act.put, List.setIfInBounds_toArray, List.set_cons_zero, List.set_cons_succ]
      refine wpW_val 2 hKS rfl (by kernel_rfl) (by kernel_rfl) (by kernel_rfl) (by kernel_rfl) rfl (fun _ _ _ _ h => h) (.pointer (some ⟨w.heap.size, 1, none⟩)) (fun w' h => by simp [go_sem]) ?_
      simp only [Act.put, List.setIfInBounds_toArray, List.set_cons_zero, List.set_cons_succ]
      refine wpW_val 3 hKS rfl (by kernel_rfl) (by kernel_rfl) (by kernel_rfl) (by kernel_rfl) rfl (fun _ _ _ _ h => h) (.bool vs) (fun w' h => by simp [go_sem, h.1.cell 1 rfl]) ?_
      simp only [Act.put, List.setIfInBounds_toArray, List.set_cons_zero, List.set_cons_succ]
      refine wpW_val 4 hKS rfl (by kernel_rfl) (by kernel_rfl) (by kernel_rfl) (by kernel_rfl) rfl (fun _ _ _ _ h => h) (.pointer (some ⟨w.heap.size, 1, none⟩)) (fun w' h => by simp [go_sem]) ?_
      simp only [Act.put, List.setIfInBounds_toArray, List.set_cons_zero, List.set_cons_succ]
      refine wpW_val 5 hKS rfl (by kernel_rfl) (by kernel_rfl) (by kernel_rfl) (by kernel_rfl) rfl (fun _ _ _ _ h => h) (.pointer (some ⟨w.heap.size, 2, none⟩)) (fun w' h => by simp [go_sem]) ?_
      simp only [Act.put, List.setIfInBounds_toArray, List.set_cons_zero, List.set_cons_succ]
      refine wpW_val 6 hKS rfl (by kernel_rfl) (by kernel_rfl) (by kernel_rfl) (by kernel_rfl) rfl (fun _ _ _ _ h => h) (.slice a1 n1 c1) (fun w' h => by simp [go_sem, h.1.cell 2 rfl]) ?_
      simp only [Act.put, List.setIfInBounds_toArray, List.set_cons_zero, List.set_cons_succ]
      refine wpW_one 7 rfl (by kernel_rfl) (by kernel_rfl) rfl ?_
      intro w3 b3 s3
      replace b3 : Below x0.heap.size x0 w3 := (Below.refl _ x0).drew.trans b3
      refine wp_callR 23 #[.slice a1 n1 c1] (by simp [go_sem]) _ (bclone_any a1 n1 c1 da w3 s3.2 (by omega)) ?_
      rintro e w4 ⟨v4, rfl, ho4, hb4⟩
      obtain ⟨p1, q1, rfl, hsl4⟩ := ho4.sl
      refine ⟨_, rfl, hKS _ _ s3 hb4, ?_⟩
      simp only [Act.put, List.setIfInBounds_toArray, List.set_cons_zero, List.set_cons_succ]
      refine wpW_free 8 hKS rfl (by kernel_rfl) (by kernel_rfl) (by kernel_rfl) (by kernel_rfl) rfl (fun _ _ _ _ h => h) (.agg #[.bool vs, .slice p1 da.length q1]) (fun w' => by simp [go_sem]) ?_
      simp only [Act.put, List.setIfInBounds_toArray, List.set_cons_zero, List.set_cons_succ]
      refine wpW_one 9 rfl (by kernel_rfl) (by kernel_rfl) rfl ?_
      intro w5 b5 s5
      refine wp_of_run (.slice (some ⟨w5.heap.size, 0, none⟩) 1 1) (w5.alloc (.cells #[.bool vs, .slice p1 da.length q1] 24)) (by simp [go_sem]) ?_
      have b6 : Below w5.heap.size w5 (w5.alloc (.cells #[.bool vs, .slice p1 da.length q1] 24)) := (Below.refl _ _).alloc (Nat.le_refl _) _
      have hz3 := b3.size
      have hz4 := hb4.size
      have hz5 := b5.size
      have hz6 := b6.size
      have o6 := own_oneE w5 (w.heap.size + 1) (by omega) vs ⟨p1, da.length, q1⟩
      refine ⟨hKS _ _ s5 b6, ?_⟩
      simp only [Act.put, List.setIfInBounds_toArray, List.set_cons_zero, List.set_cons_succ]
      refine wpW_write 10 rfl (by kernel_rfl) (by kernel_rfl) rfl ?_
      intro w9 b9 s9
      have hz9 := b9.size
      have o9 := o6.after b9
      have n9 := OwnG.nil w9 (w.heap.size + 1) 2
      have b49 : Below w4.heap.size w4 w9 := b5.trans ((b6.mono b5.size).trans (b9.mono (Nat.le_trans b5.size b6.size)))
      have b09 : Below x0.heap.size x0 w9 := (b3.trans (hb4.mono hz3)).trans (b49.mono (Nat.le_trans hz3 hz4))
      have hi4 : InB (fun b => w.heap.size ≤ b) p1 da.length := .inr fun b o s e => by subst e; have := ho4.own b rfl; show w.heap.size ≤ b; omega
      have m9 : ME (fun b => w.heap.size ≤ b) w9 [(vs, ⟨p1, da.length, q1⟩)] [(vs, da)] := .cons vs ⟨p1, da.length, q1⟩ da [] [] (hsl4.after b49) hi4 .nil
      refine wp_append_E2 (v := .slice none 0 0) _ _ rfl rfl n9 rfl (OwnG.srcE o9) (by omega) (by omega) ?_
      intro v10 w10 ho10 hg10 hw10
      simp only [Act.put, List.setIfInBounds_toArray, List.set_cons_zero, List.set_cons_succ]
      refine wpU_val 11 keeps_true rfl (by kernel_rfl) (by kernel_rfl) (by kernel_rfl) rfl (fun _ _ _ _ h => h) v10 (fun w' h => by simp [go_sem]) ?_
      simp only [Act.put, List.setIfInBounds_toArray, List.set_cons_zero, List.set_cons_succ]
      refine wpU_done (by kernel_rfl) ?_
      intro w12 b12 _
      have hz10 := hg10.size
      have hz12 := b12.size
      replace ho10 : OwnG w10 (w.heap.size + 1) 2 v10 1 (cellsE [(vs, ⟨p1, da.length, q1⟩)]) := ho10
      have O12 := ho10.after b12
      have M12 := ((m9.grew (v := .slice none 0 0) (v' := v10) (fun b h _ e => by simp [Value.ownBlock] at e) hg10 hw10)).after b12
      have ME0 : Hid (ME (okO (fun b => w.heap.size ≤ b) v10) w12 [(vs, ⟨p1, da.length, q1⟩)] ([(vs, da)] ++ Sj.keysL (ks.take 0))) := Lib.hid (by rw [List.take_zero]; exact M12)
      replace X := Lib.hid (((X.out.after b09).grown hg10 (fun k hk => by simp [Value.ownBlock] at hk)).after b12)
      have B3 := own_below w.heap.size (by omega) (by omega) n9 hg10 (B.trans (b09.mono B.size))
      replace B := B3.trans (b12.mono B3.size)
      clear hKS b3 s3 ho4 hsl4 hb4 b5 s5 b6 o6 b9 s9 o9 n9 b49 b09 hi4 m9 ho10 hg10 hw10 b12 M12 B3
      have q5 := X.out.cell 5 rfl
      go_wp2_with fail
      clear q5
      go_loopw [3, 28] (fun acc i wr => ∃ (k n : Nat) (E : List (Bool × S3)), k ≤ ks.length ∧ i = .int .i64 k ∧ OwnG wr (w.heap.size + 1) 2 acc n (cellsE E) ∧ Hid (ME (okO (fun b => w.heap.size ≤ b) acc) wr E ([(vs, da)] ++ Sj.keysL (ks.take k))) ∧ Hid (n = ([(vs, da)] ++ Sj.keysL (ks.take k)).length) ∧ w.heap.size + 1 ≤ wr.heap.size ∧ Below w.heap.size w wr) (fun _ i _ => ks.length - (intOf i).toNat)
      case atStart => exact ⟨0, 1, [(vs, ⟨p1, da.length, q1⟩)], Nat.zero_le _, rfl, O12, Lib.hid (by rw [List.take_zero]; exact ME0.out), Lib.hid rfl, by omega, B⟩
      case round =>
        obtain ⟨k, n, E, hkl, rfl, ho, hme, hnl, hzl, hb⟩ := hrel
        by_cases hlt : k < ks.length
        case pos =>
          obtain ⟨b, o, rfl, hld⟩ := (HR.out.after hb).range hlt
          have HL := Lib.hid hld
          clear hld
          have hkm := HG.out _ (List.getElem_mem hlt)
          have hfit : n + ks[k].keys.length ≤ 62748517 := by
            have h1 := keysL_take ks (k + 1)
            rw [Sj.keysL_snoc ks k hlt] at h1
            have h2 := hnl.out
            simp only [List.length_append] at h1 h2 hmax
            omega
          have IH2 := Lib.hid (IH.out _ (List.getElem_mem hlt) (K k) (m + 1))
          obtain ⟨v1, hv1⟩ : ∃ v1, v1 = K k := ⟨_, rfl⟩
          have HRK := Lib.hid ((HK.out k hlt).after hb)
          rw [← hv1] at HL IH2 HRK
          clear hv1
          obtain ⟨ekd, es, ea1, en1, ec1, ea2, en2, ec2, ek, ea3, en3, ec3⟩ := v1
          have hL1 := HL.out
          go_upto_region 7 with (refine wpList_load_jv rfl _ rfl b _ rfl _ hL1 ?_; simp only [JV.val])
          have hA : Below wr.heap.size wr (wr.alloc (.cells #[.int .u8 ekd, .bool es, .slice ea1 en1 ec1, .slice ea2 en2 ec2, .int .i64 ek, .slice ea3 en3 ec3] 28)) := (Below.refl _ _).alloc (Nat.le_refl _) _
          have Y1 := Lib.hid (Box.new wr 28 #[.int .u8 ekd, .bool es, .slice ea1 en1 ec1, .slice ea2 en2 ec2, .int .i64 ek, .slice ea3 en3 ec3])
          change Code.wp _ _ _ _ (wr.alloc (.cells #[.int .u8 ekd, .bool es, .slice ea1 en1 ec1, .slice ea2 en2 ec2, .int .i64 ek, .slice ea3 en3 ec3] 28))
          generalize (wr.alloc (.cells #[.int .u8 ekd, .bool es, .slice ea1 en1 ec1, .slice ea2 en2 ec2, .int .i64 ek, .slice ea3 en3 ec3] 28)) = z1 at *
          have O1 := ho.after hA
          have M1 := hme.out.after hA
          have b1 := hb.trans (hA.mono hb.size)
          have IH3 := Lib.hid (IH2.out z1 (HRK.out.after hA) hkm)
          have hlt1 := hA.size
          have hyl := Y1.out.lt
          generalize wr.heap.size = y1 at *
          clear hA hL1 HL IH2 HRK ho hme
          go_wp2_with (refine wpList_load_box rfl 28 _ rfl Y1.out (by rfl) Tryd.underlying28 rfl (by kernel_rfl) ?_)
          refine IH3.out.mono ?_
          rintro e w1 ⟨v2, E2, rfl, ho2, hm2, hb1⟩
          have hOlt := O1.lt
          have O2 := Lib.hid (O1.after hb1)
          have M2 := Lib.hid (M1.after hb1)
          have b2 := b1.trans (hb1.mono b1.size)
          have hM2 := Lib.hid hm2
          have hS2 := Lib.hid (OwnG.srcE ho2)
          have hsz1 := hb1.size
          have hsz2 := b1.size
          have hOl := Lib.hid hOlt
          have hss : w.heap.size + 1 ≤ w1.heap.size := by omega
          clear ho2 hm2 hb1 O1 M1 hOlt 
          go_wp2_with (refine wpList_append_E2 rfl _ _ rfl rfl O2.out rfl hS2.out (by omega) (by omega) ?_; intro v3 w3 ho3 hg3 hw3; rw [← cellsE_append] at ho3)
          go_roundw
          case rel =>
            refine ⟨k + 1, n + ks[k].keys.length, E ++ E2, by omega, by go_num, ho3, Lib.hid (keys_step (ok := (fun b => w.heap.size ≤ b)) (ok2 := (fun b => z1.heap.size ≤ b)) hlt M2.out hM2.out (fun b h => by show w.heap.size ≤ b; have h : z1.heap.size ≤ b := h; omega) (fun b h e => by have h : z1.heap.size ≤ b := h; have := hOl.out b e; omega) hg3 hw3), Lib.hid (by rw [Sj.keysL_snoc ks k hlt, ← List.append_assoc, List.length_append, ← hnl.out]), (by have := hg3.size; omega), own_below w.heap.size (by omega) (by omega) O2.out hg3 b2⟩
          case measure => simp [intOf]; omega
        case neg =>
          have hkk : k = ks.length := by omega
          subst hkk
          rw [List.take_length] at hme hnl
          clear hlt
          go_wp2_with fail
          go_ret
          exact keysP_mk (Nat.le_succ _) hnl.out ho hme.out hb
  case neg =>
    rw [if_neg hkd] at hmax ⊢
    have X := Lib.hid (Box.new w 28 #[.int .u8 vkd, .bool vs, .slice a1 n1 c1, .slice a2 n2 c2, .int .i64 vk, .slice a3 ks.length c3])
    have B : Below w.heap.size w (w.alloc (.cells #[.int .u8 vkd, .bool vs, .slice a1 n1 c1, .slice a2 n2 c2, .int .i64 vk, .slice a3 ks.length c3] 28)) := (Below.refl _ _).alloc (Nat.le_refl _) _
    have hss : w.heap.size + 1 ≤ ((w.alloc (.cells #[.int .u8 vkd, .bool vs, .slice a1 n1 c1, .slice a2 n2 c2, .int .i64 vk, .slice a3 ks.length c3] 28))).heap.size := by simp
    show Calls _ _ #[.agg #[.int .u8 vkd, .bool vs, .slice a1 n1 c1, .slice a2 n2 c2, .int .i64 vk, .slice a3 ks.length c3]] _ _
    go_enter Tryd.func10, Tryd.ntmps10
    go_upto_region 1 with fail
    change Code.wp _ _ _ _ (w.alloc (.cells #[.int .u8 vkd, .bool vs, .slice a1 n1 c1, .slice a2 n2 c2, .int .i64 vk, .slice a3 ks.length c3] 28))
    generalize (w.alloc (.cells #[.int .u8 vkd, .bool vs, .slice a1 n1 c1, .slice a2 n2 c2, .int .i64 vk, .slice a3 ks.length c3] 28)) = x0 at *
    have q0 := X.out.cell 0 rfl
    have e1 : ((vkd : Int) == 1) = false := by simp; omega
    have e2 : ((vkd : Int) == 2) = false := by simp; omega
    have ME0 : Hid (ME (okO (fun b => w.heap.size ≤ b) (.slice none 0 0)) x0 [] ([] ++ Sj.keysL (ks.take 0))) := Lib.hid .nil
    have O := OwnG.nil x0 (w.heap.size + 1) 2
    have q5 := X.out.cell 5 rfl
    go_wp2_with fail
    clear q0 q5
    go_loopw [3, 28] (fun acc i wr => ∃ (k n : Nat) (E : List (Bool × S3)), k ≤ ks.length ∧ i = .int .i64 k ∧ OwnG wr (w.heap.size + 1) 2 acc n (cellsE E) ∧ Hid (ME (okO (fun b => w.heap.size ≤ b) acc) wr E ([] ++ Sj.keysL (ks.take k))) ∧ Hid (n = ([] ++ Sj.keysL (ks.take k)).length) ∧ w.heap.size + 1 ≤ wr.heap.size ∧ Below w.heap.size w wr) (fun _ i _ => ks.length - (intOf i).toNat)
    case atStart => exact ⟨0, 0, [], Nat.zero_le _, rfl, O, Lib.hid (by rw [List.take_zero]; exact ME0.out), Lib.hid rfl, by omega, B⟩
    case round =>
      obtain ⟨k, n, E, hkl, rfl, ho, hme, hnl, hzl, hb⟩ := hrel
      by_cases hlt : k < ks.length
      case pos =>
        obtain ⟨b, o, rfl, hld⟩ := (HR.out.after hb).range hlt
        have HL := Lib.hid hld
        clear hld
        have hkm := HG.out _ (List.getElem_mem hlt)
        have hfit : n + ks[k].keys.length ≤ 62748517 := by
          have h1 := keysL_take ks (k + 1)
          rw [Sj.keysL_snoc ks k hlt] at h1
          have h2 := hnl.out
          simp only [List.length_append] at h1 h2 hmax
          omega
        have IH2 := Lib.hid (IH.out _ (List.getElem_mem hlt) (K k) (m + 1))
        obtain ⟨v1, hv1⟩ : ∃ v1, v1 = K k := ⟨_, rfl⟩
        have HRK := Lib.hid ((HK.out k hlt).after hb)
        rw [← hv1] at HL IH2 HRK
        clear hv1
        obtain ⟨ekd, es, ea1, en1, ec1, ea2, en2, ec2, ek, ea3, en3, ec3⟩ := v1
        have hL1 := HL.out
        go_upto_region 7 with (refine wpList_load_jv rfl _ rfl b _ rfl _ hL1 ?_; simp only [JV.val])
        have hA : Below wr.heap.size wr (wr.alloc (.cells #[.int .u8 ekd, .bool es, .slice ea1 en1 ec1, .slice ea2 en2 ec2, .int .i64 ek, .slice ea3 en3 ec3] 28)) := (Below.refl _ _).alloc (Nat.le_refl _) _
        have Y1 := Lib.hid (Box.new wr 28 #[.int .u8 ekd, .bool es, .slice ea1 en1 ec1, .slice ea2 en2 ec2, .int .i64 ek, .slice ea3 en3 ec3])
        change Code.wp _ _ _ _ (wr.alloc (.cells #[.int .u8 ekd, .bool es, .slice ea1 en1 ec1, .slice ea2 en2 ec2, .int .i64 ek, .slice ea3 en3 ec3] 28))
        generalize (wr.alloc (.cells #[.int .u8 ekd, .bool es, .slice ea1 en1 ec1, .slice ea2 en2 ec2, .int .i64 ek, .slice ea3 en3 ec3] 28)) = z1 at *
        have O1 := ho.after hA
        have M1 := hme.out.after hA
        have b1 := hb.trans (hA.mono hb.size)
        have IH3 := Lib.hid (IH2.out z1 (HRK.out.after hA) hkm)
        have hlt1 := hA.size
        have hyl := Y1.out.lt
        generalize wr.heap.size = y1 at *
        clear hA hL1 HL IH2 HRK ho hme
        go_wp2_with (refine wpList_load_box rfl 28 _ rfl Y1.out (by rfl) Tryd.underlying28 rfl (by kernel_rfl) ?_)
        refine IH3.out.mono ?_
        rintro e w1 ⟨v2, E2, rfl, ho2, hm2, hb1⟩
        have hOlt := O1.lt
        have O2 := Lib.hid (O1.after hb1)
        have M2 := Lib.hid (M1.after hb1)
        have b2 := b1.trans (hb1.mono b1.size)
        have hM2 := Lib.hid hm2
        have hS2 := Lib.hid (OwnG.srcE ho2)
        have hsz1 := hb1.size
        have hsz2 := b1.size
        have hOl := Lib.hid hOlt
        have hss : w.heap.size + 1 ≤ w1.heap.size := by omega
        clear ho2 hm2 hb1 O1 M1 hOlt 
        go_wp2_with (refine wpList_append_E2 rfl _ _ rfl rfl O2.out rfl hS2.out (by omega) (by omega) ?_; intro v3 w3 ho3 hg3 hw3; rw [← cellsE_append] at ho3)
        go_roundw
        case rel =>
          refine ⟨k + 1, n + ks[k].keys.length, E ++ E2, by omega, by go_num, ho3, Lib.hid (keys_step (ok := (fun b => w.heap.size ≤ b)) (ok2 := (fun b => z1.heap.size ≤ b)) hlt M2.out hM2.out (fun b h => by show w.heap.size ≤ b; have h : z1.heap.size ≤ b := h; omega) (fun b h e => by have h : z1.heap.size ≤ b := h; have := hOl.out b e; omega) hg3 hw3), Lib.hid (by rw [Sj.keysL_snoc ks k hlt, ← List.append_assoc, List.length_append, ← hnl.out]), (by have := hg3.size; omega), own_below w.heap.size (by omega) (by omega) O2.out hg3 b2⟩
        case measure => simp [intOf]; omega
      case neg =>
        have hkk : k = ks.length := by omega
        subst hkk
        rw [List.take_length] at hme hnl
        clear hlt
        go_wp2_with fail
        go_ret
        exact keysP_mk (Nat.le_succ _) hnl.out ho hme.out hb

end Go.Proofs.YthmigigclmogiaaDoor

/- The walk of CrlTurns. -/
import Derived.Test.YticjhogofoffmaaDoorCrA
namespace Go.Proofs.YticjhogofoffmaaDoor
open Go.RowKit
set_option linter.unusedSimpArgs false
set_option linter.unusedVariables false

/-- a slice is stored in a cell -/
theorem wp_store_slice {P : Program} {Q : Exit → Act → World → Prop} {o : Oper} {a : Act} {w : World} {K : Act → World → Prop} (ty : TypeId) (x y : Operand) (ho : o.op = .store ty x y)
    {b off : Nat} {p : Option Addr} {n c : Nat} (hx : a.eval x = .pointer (some ⟨b, off, none⟩)) (hy : a.eval y = .slice p n c) {u : Value} (hc : w.cell? ⟨b, off, none⟩ = some u) (hf : w.frozen? ⟨b, off, none⟩ = false) (hz : ∀ w, (sizeOf ty).run P w = .ok 1 w)
    (h : K (a.put o.dst undef) (w.setCell ⟨b, off, none⟩ (.slice p n c))) : o.wp P a w K Q := by
  unfold Oper.wp execOp
  simp only [ho, hx, hy]
  simp [go_sem, hz, hc, hf]
  exact h
theorem one_src {w : World} {g : Nat} {Z : Nat → S3} {k : Nat} (h : Box w g 22 #[.slice (Z k).a (Z k).n (Z k).c]) : Src Tryd.prog 1 25 (.slice (some ⟨g, 0, none⟩) 1 1) 1 (vZ Z k 1) w := by
  refine Src.ofSlice _ Tryd.underlying25 ⟨g, 0, none⟩ 1 1 _ (by rw [vZ_len]) (fun j u hu => ?_) (fun u hu => ?_)
  · have hj : j < 1 := by rw [← vZ_len Z k 1]; exact (List.getElem?_eq_some_iff.1 hu).1
    obtain rfl : j = 0 := by omega
    rw [vZ_get Z k 1 0 (by omega)] at hu
    obtain rfl := Option.some.inj hu
    rw [Addr.add_mid]
    exact h.cell 0 rfl
  · obtain ⟨i, _, rfl⟩ := List.mem_map.1 hu
    rfl

set_option maxHeartbeats 8000000 in
set_option maxRecDepth 100000 in
theorem CrlTurns_walk (s : Bool) (ka : Option Addr) (kn kc : Nat) (kl : List UInt8) (a : Option Addr) (n c : Nat) (Z : Nat → S3) (ls : List (List UInt8)) (p : Bool) (f : Int) (q : Bool) (u : Int) (tt : Int) (a2 : Option Addr) (n2 c2 : Nat) (l2 : List UInt8) (t : Int) (w : World) (ht : Tab w) (hk : Sl w ka kn kc kl) (hr : RowS w a n c Z ls) (hv0 : (Lit.int .u8 tt).wf = true) (hs2 : Sl w a2 n2 c2 l2) (hwt : (Lit.int .i64 t).wf = true) :
    Calls Tryd.prog 4 #[.agg #[.bool s, .slice ka kn kc, .slice a n c, .bool p, .int .i64 f, .bool q, .int .i64 u], .int .u8 tt, .slice a2 n2 c2, .int .i64 t] w fun e w' => e = .returned (.bool true) ∧ Below w.heap.size w w' := by
  have hv : 0 ≤ tt ∧ tt < 256 := by simp [Lit.wf, IntKind.min, IntKind.max, IntKind.bits, IntKind.signed] at hv0; omega
  clear hv0
  have B0 : Below w.heap.size w (w.alloc (.cells #[.bool s, .slice ka kn kc, .slice a n c, .bool p, .int .i64 f, .bool q, .int .i64 u] 29)) := (Below.refl _ _).alloc (Nat.le_refl _) _
  have K : Box (w.alloc (.cells #[.bool s, .slice ka kn kc, .slice a n c, .bool p, .int .i64 f, .bool q, .int .i64 u] 29)) w.heap.size 29 #[.bool s, .slice ka kn kc, .slice a n c, .bool p, .int .i64 f, .bool q, .int .i64 u] := Box.new _ _ _
  have HR := Lib.hid (hr.after B0)
  have HS := Lib.hid (hs2.after B0)
  have HT := Lib.hid (ht.after B0)
  have CG := Lib.hid (great_crl s ka kn kc kl a n c Z ls p f q u (w.alloc (.cells #[.bool s, .slice ka kn kc, .slice a n c, .bool p, .int .i64 f, .bool q, .int .i64 u] 29)) (hk.after B0) (hr.after B0))
  have hle : n ≤ c := hr.1
  have hcm : c ≤ maxLen := hr.2.1
  have hle2 : n2 ≤ c2 := hs2.2.1
  have hm2 : c2 ≤ maxLen := hs2.2.2.1
  unfold maxLen at hm2 hcm
  clear hr hk hs2 ht
  obtain ⟨z, hz⟩ : ∃ z, z = greatC kn n ls := ⟨_, rfl⟩
  rw [← hz] at CG
  have HZ := Lib.hid hz
  clear hz
  go_enter Tryd.func4, Tryd.ntmps4
  go_upto_region 1 with fail
  change Code.wp _ _ _ _ (w.alloc (.cells #[.bool s, .slice ka kn kc, .slice a n c, .bool p, .int .i64 f, .bool q, .int .i64 u] 29))
  replace K := Lib.hid K
  generalize (w.alloc (.cells #[.bool s, .slice ka kn kc, .slice a n c, .bool p, .int .i64 f, .bool q, .int .i64 u] 29)) = w0 at *
  go_wp2_with (refine wpList_load_box rfl 29 _ rfl K.out (by rfl) Tryd.underlying29 rfl (by kernel_rfl) ?_)
  refine CG.out.mono ?_
  rintro e w1 ⟨rfl, hb1⟩
  have B1 := B0.trans (hb1.mono B0.size)
  have CA := Lib.hid (awake_any w1 (HT.out.after hb1))
  have K1 := Lib.hid (K.out.after hb1)
  have HR1 := Lib.hid (HR.out.after hb1)
  have HS1 := Lib.hid (HS.out.after hb1)
  have HT1 := Lib.hid (HT.out.after hb1)
  have k2 := K1.out.cell 2 rfl
  clear CG K HR HS HT B0 hb1
  cases z with
  | true =>
    go_wp2_with fail
    refine CA.out.mono ?_
    rintro e w2 ⟨rfl, hb2⟩
    go_wp2_with fail
    go_ret
    exact ⟨rfl, B1.trans (hb2.mono B1.size)⟩
  | false =>
    by_cases h2 : 200 < n2
    · go_wp2_with fail
      refine CA.out.mono ?_
      rintro e w2 ⟨rfl, hb2⟩
      go_wp2_with fail
      go_ret
      exact ⟨rfl, B1.trans (hb2.mono B1.size)⟩
    by_cases h3 : n = 0
    · subst h3
      go_wp2_with fail
      refine CA.out.mono ?_
      rintro e w2 ⟨rfl, hb2⟩
      go_wp2_with fail
      go_ret
      exact ⟨rfl, B1.trans (hb2.mono B1.size)⟩
    clear CA
    have hn40 : n ≤ 40 := by
      have h := HZ.out
      unfold greatC at h
      simp at h
      omega
    obtain ⟨k, hk⟩ : ∃ k : Nat, k = tt.toNat % n := ⟨_, rfl⟩
    have hkn : k < n := by rw [hk]; exact Nat.mod_lt _ (by omega)
    have hrem : Int.tmod tt n = k := by rw [hk]; obtain ⟨m, rfl⟩ := Int.eq_ofNat_of_zero_le hv.1; rfl
    have HH := Lib.hid hk
    clear hk
    have hn0 : ((n : Int) == 0) = false := by simp; omega
    obtain ⟨b, o, rfl, hcl⟩ := HR1.out.cell hkn
    go_upto_region 5 with (first | (refine wpList_load_box rfl 29 _ rfl K1.out (by rfl) Tryd.underlying29 rfl (by kernel_rfl) ?_) | (refine wpList_store_box (cells := #[.bool s, .slice ka kn kc, .slice (some ⟨b, o, none⟩) n c, .bool p, .int .i64 f, .bool q, .int .i64 u]) rfl 29 _ _ rfl (Box.new _ _ _) (by rfl) (by rfl) rfl (by kernel_rfl) (by simp [Value.oneCell']) ?_; intro u9 X9 st9))
    have b19 : Below w1.heap.size w1 u9 := st9.below w1.heap.size w1 (Nat.le_refl _) ((Below.refl _ _).alloc (Nat.le_refl _) _)
    have HRy := Lib.hid (fun wz h => HR1.out.after (w' := wz) h)
    have HKy := Lib.hid (fun wz h => K1.out.after (w' := wz) h)
    have HSy := Lib.hid (fun wz h => HS1.out.after (w' := wz) h)
    have HTy := Lib.hid (fun wz h => HT1.out.after (w' := wz) h)
    have HBy := Lib.hid b19
    have hwy : w.heap.size ≤ w1.heap.size := B1.size
    have YQ := Lib.hid X9
    have KQ := Lib.hid (K1.out.after b19)
    have HRQ := Lib.hid (HR1.out.after b19)
    have HSQ := Lib.hid (HS1.out.after b19)
    have HTQ := Lib.hid (HT1.out.after b19)
    have hbl : b < u9.heap.size := by have := cell_lt hcl; have := b19.size; omega
    replace hcl := (World.cell?_of_block (a := ⟨b, o + k, none⟩) (b19.block b (cell_lt hcl))).trans hcl
    clear st9 X9 b19 K1 HR1 HS1 HT1 k2 HSQ HTQ
    generalize w1.heap.size = y at *
    have hk0 : (0 : Int) ≤ k := by omega
    have hk1 : (k : Int) < n := by omega
    have hk2 : (k : Int) ≤ n := by omega
    have hkc : (n : Int) ≤ c := by omega
    have hkc2 : (k : Int) ≤ c := by omega
    have hKS : Keeps (fun w' => Below u9.heap.size u9 w') := fun w1 w2 h b => h.trans (b.mono h.size)
    refine wp_region_W (w := u9) [19] (fun w' => Below u9.heap.size u9 w') rfl (hKS _ _ (Below.refl _ _) (Below.refl _ _).drew) ?_
    refine wpW_val 1 hKS rfl (by kernel_rfl) (by kernel_rfl) (by kernel_rfl) (by kernel_rfl) rfl (fun _ _ _ _ h => h) (.pointer (some ⟨w.heap.size, 2, none⟩)) (fun w' h => by simp [go_sem]) ?_
    simp only [Act.put, List.setIfInBounds_toArray, List.set_cons_zero, List.set_cons_succ]
    refine wpW_val 2 hKS rfl (by kernel_rfl) (by kernel_rfl) (by kernel_rfl) (by kernel_rfl) rfl (fun _ _ _ _ h => h) (.slice (some ⟨b, o, none⟩) n c) (fun w' h => by have := (KQ.out.after h).cell 2 rfl; simp [go_sem, this]) ?_
    simp only [Act.put, List.setIfInBounds_toArray, List.set_cons_zero, List.set_cons_succ]
    refine wpW_val 3 hKS rfl (by kernel_rfl) (by kernel_rfl) (by kernel_rfl) (by kernel_rfl) rfl (fun _ _ _ _ h => h) (.int .i64 k) (fun w' h => by simp [go_sem]) ?_
    simp only [Act.put, List.setIfInBounds_toArray, List.set_cons_zero, List.set_cons_succ]
    refine wpW_val 4 hKS rfl (by kernel_rfl) (by kernel_rfl) (by kernel_rfl) (by kernel_rfl) rfl (fun _ _ _ _ h => h) (.slice (some ⟨b, o + k, none⟩) (n - k) (c - k)) (fun w' h => by simp [go_sem, hk0, hk1, hk2, hkc, hkc2]; omega) ?_
    simp only [Act.put, List.setIfInBounds_toArray, List.set_cons_zero, List.set_cons_succ]
    refine wpW_val 6 hKS rfl (by kernel_rfl) (by kernel_rfl) (by kernel_rfl) (by kernel_rfl) rfl (fun _ _ _ _ h => h) (.pointer (some ⟨w.heap.size, 2, none⟩)) (fun w' h => by simp [go_sem]) ?_
    simp only [Act.put, List.setIfInBounds_toArray, List.set_cons_zero, List.set_cons_succ]
    refine wpW_val 7 hKS rfl (by kernel_rfl) (by kernel_rfl) (by kernel_rfl) (by kernel_rfl) rfl (fun _ _ _ _ h => h) (.slice (some ⟨b, o, none⟩) n c) (fun w' h => by have := (KQ.out.after h).cell 2 rfl; simp [go_sem, this]) ?_
    simp only [Act.put, List.setIfInBounds_toArray, List.set_cons_zero, List.set_cons_succ]
    refine wpW_val 8 hKS rfl (by kernel_rfl) (by kernel_rfl) (by kernel_rfl) (by kernel_rfl) rfl (fun _ _ _ _ h => h) (.int .i64 k) (fun w' h => by simp [go_sem]) ?_
    simp only [Act.put, List.setIfInBounds_toArray, List.set_cons_zero, List.set_cons_succ]
    refine wpW_val 9 hKS rfl (by kernel_rfl) (by kernel_rfl) (by kernel_rfl) (by kernel_rfl) rfl (fun _ _ _ _ h => h) (.slice (some ⟨b, o, none⟩) k c) (fun w' h => by simp [go_sem, hk0, hk1, hk2, hkc, hkc2]) ?_
    simp only [Act.put, List.setIfInBounds_toArray, List.set_cons_zero, List.set_cons_succ]
    refine wpW_val 11 hKS rfl (by kernel_rfl) (by kernel_rfl) (by kernel_rfl) (by kernel_rfl) rfl (fun _ _ _ _ h => h) (.pointer (some ⟨w.heap.size, 2, none⟩)) (fun w' h => by simp [go_sem]) ?_
    simp only [Act.put, List.setIfInBounds_toArray, List.set_cons_zero, List.set_cons_succ]
    refine wpW_val 12 hKS rfl (by kernel_rfl) (by kernel_rfl) (by kernel_rfl) (by kernel_rfl) rfl (fun _ _ _ _ h => h) (.slice (some ⟨b, o, none⟩) n c) (fun w' h => by have := (KQ.out.after h).cell 2 rfl; simp [go_sem, this]) ?_
    simp only [Act.put, List.setIfInBounds_toArray, List.set_cons_zero, List.set_cons_succ]
    refine wpW_val 13 hKS rfl (by kernel_rfl) (by kernel_rfl) (by kernel_rfl) (by kernel_rfl) rfl (fun _ _ _ _ h => h) (.int .i64 k) (fun w' h => by simp [go_sem]) ?_
    simp only [Act.put, List.setIfInBounds_toArray, List.set_cons_zero, List.set_cons_succ]
    refine wpW_val 14 hKS rfl (by kernel_rfl) (by kernel_rfl) (by kernel_rfl) (by kernel_rfl) rfl (fun _ _ _ _ h => h) (.pointer (some ⟨b, o + k, none⟩)) (fun w' h => by simp [go_sem, hk0, hk1, hk2, hkc, hkc2]) ?_
    simp only [Act.put, List.setIfInBounds_toArray, List.set_cons_zero, List.set_cons_succ]
    refine wpW_val 15 hKS rfl (by kernel_rfl) (by kernel_rfl) (by kernel_rfl) (by kernel_rfl) rfl (fun _ _ _ _ h => h) (.slice (Z k).a (Z k).n (Z k).c) (fun w' h => by have := (World.cell?_of_block (a := ⟨b, o + k, none⟩) (h.block b hbl)).trans hcl; simp [go_sem, this]) ?_
    simp only [Act.put, List.setIfInBounds_toArray, List.set_cons_zero, List.set_cons_succ]
    refine wpW_two 0 16 rfl rfl (by kernel_rfl) rfl rfl rfl rfl ?_ ?_
    · intro z11 b11 s11
      refine wp_of_run (.slice (some ⟨z11.heap.size, 0, none⟩) 0 0) (z11.alloc (.cells #[] 22)) (by simp [go_sem]) ?_
      have c12 : Below z11.heap.size z11 (z11.alloc (.cells #[] 22)) := (Below.refl _ _).alloc (Nat.le_refl _) _
      have rO : OwnG (z11.alloc (.cells #[] 22)) u9.heap.size 1 (.slice (some ⟨z11.heap.size, 0, none⟩) 0 0) 0 [] := OwnG.new z11 u9.heap.size 1 s11.size #[] 22 0 0 (Nat.le_refl _) (Nat.zero_le _) rfl
      refine ⟨hKS _ _ s11 c12, ?_⟩
      simp only [Act.put, List.setIfInBounds_toArray, List.set_cons_zero, List.set_cons_succ]
      generalize (z11.alloc (.cells #[] 22)) = y12 at *
      refine wpW_two 5 16 rfl rfl (by kernel_rfl) rfl rfl rfl rfl ?_ ?_
      · intro z13 b13 s13
        replace rO := rO.after b13
        refine wp_append_Z _ _ rfl rfl rO rfl ((HRQ.out.after s13).src k (n - k) (c - k) (by omega)) (by omega) s13.size ?_
        intro v14 w14 rP hg hw
        have c14 : Below u9.heap.size u9 w14 := s13.grown hg s13.size (fun x hx => (rO.lt x hx).1)
        clear rO hg hw
        have rO := rP
        clear rP
        refine ⟨c14, ?_⟩
        simp only [Act.put, List.setIfInBounds_toArray, List.set_cons_zero, List.set_cons_succ]
        refine wpW_two 10 16 rfl rfl (by kernel_rfl) rfl rfl rfl rfl ?_ ?_
        · intro z15 b15 s15
          replace rO := rO.after b15
          refine wp_append_Z _ _ rfl rfl rO rfl ((HRQ.out.after s15).src 0 k c (by omega)) (by omega) s15.size ?_
          intro v16 w16 rP hg hw
          have c16 : Below u9.heap.size u9 w16 := s15.grown hg s15.size (fun x hx => (rO.lt x hx).1)
          clear rO hg hw
          have rO := rP
          clear rP
          refine ⟨c16, ?_⟩
          simp only [Act.put, List.setIfInBounds_toArray, List.set_cons_zero, List.set_cons_succ]
          refine wpW_one 16 rfl (by kernel_rfl) rfl rfl ?_
          intro z17 b17 s17
          replace rO := rO.after b17
          refine wp_of_run (.slice (some ⟨z17.heap.size, 0, none⟩) 1 1) (z17.alloc (.cells #[.slice (Z k).a (Z k).n (Z k).c] 22)) (by simp [go_sem]) ?_
          have c18 : Below z17.heap.size z17 (z17.alloc (.cells #[.slice (Z k).a (Z k).n (Z k).c] 22)) := (Below.refl _ _).alloc (Nat.le_refl _) _
          have rG : Box (z17.alloc (.cells #[.slice (Z k).a (Z k).n (Z k).c] 22)) z17.heap.size 22 #[.slice (Z k).a (Z k).n (Z k).c] := Box.new _ _ _
          have rN : ∀ x, Value.ownBlock v16 = some x → x ≠ z17.heap.size := fun x hx e => by have := (rO.lt x hx).2; omega
          replace rO := rO.after c18
          refine ⟨hKS _ _ s17 c18, ?_⟩
          simp only [Act.put, List.setIfInBounds_toArray, List.set_cons_zero, List.set_cons_succ]
          generalize (z17.alloc (.cells #[.slice (Z k).a (Z k).n (Z k).c] 22)) = y18 at *
          refine wpW_one 17 rfl (by kernel_rfl) rfl rfl ?_
          intro z19 b19 s19
          replace rO := rO.after b19
          replace rG := rG.after b19
          refine wp_append_Z _ _ rfl rfl rO rfl (one_src rG) (by omega) s19.size ?_
          intro vE w20 rP hg hw
          have c20 : Below u9.heap.size u9 w20 := s19.grown hg s19.size (fun x hx => (rO.lt x hx).1)
          clear rO rG rN hg hw
          refine ⟨c20, ?_⟩
          simp only [Act.put, List.setIfInBounds_toArray, List.set_cons_zero, List.set_cons_succ]
          refine wpW_val 18 hKS rfl (by kernel_rfl) (by kernel_rfl) (by kernel_rfl) (by kernel_rfl) rfl (fun _ _ _ _ h => h) (.pointer (some ⟨y, 2, none⟩)) (fun w' h => by simp [go_sem]) ?_
          simp only [Act.put, List.setIfInBounds_toArray, List.set_cons_zero, List.set_cons_succ]
          refine wpW_write 19 rfl (by kernel_rfl) (by kernel_rfl) rfl ?_
          intro zE bE sE
          have rQ := rP.after bE
          obtain ⟨aT, cT, rfl, hT⟩ := RowS.turned (HRQ.out.after sE) k hkn rQ
          have YE := YQ.out.after sE
          have hyE := YQ.out.lt
          refine wp_store_slice 25 _ _ rfl (b := y) (off := 2) rfl rfl (YE.cell 2 rfl) (YE.frozen 2) (fun _ => by rfl) ?_
          have YZ := YE.set 2 (.slice aT (0 + (n - k) + k + 1) cT)
          have stE := (Stored.refl zE y).setCell 2 (.slice aT (0 + (n - k) + k + 1) cT)
          generalize zE.setCell ⟨y, 2, none⟩ (.slice aT (0 + (n - k) + k + 1) cT) = wz at *
          have dz := stE.below y w1 (Nat.le_refl _) (HBy.out.trans (sE.mono (by omega)))
          have rW := OwnG.keep rQ (by have := stE.size; omega) (fun g hg => stE.other g (by have := (rQ.lt g hg).1; omega))
          obtain ⟨aU, cU, eU, hU⟩ := RowS.turned (HRy.out wz dz) k hkn rW
          cases eU
          simp only [List.setIfInBounds_toArray, List.set_cons_zero, List.set_cons_succ] at YZ
          simp only [Act.put, List.setIfInBounds_toArray, List.set_cons_zero, List.set_cons_succ]
          refine wpU_done rfl (fun w9 b9 _ => ?_)
          have D := dz.trans (b9.mono (by have := YZ.lt; omega))
          have K9 := HKy.out w9 D
          have R9 := HRy.out w9 D
          have S9 := HSy.out w9 D
          have T9 := Lib.hid (HTy.out w9 D)
          have Y9 := YZ.after b9
          have RT9 := hU.after b9
          have B9 := B1.trans (D.mono hwy)
          have hkb := K9.lt
          have hyb := Y9.lt
          obtain ⟨b', o', e', hc9⟩ := R9.cell hkn
          cases e'
          have hb9 := cell_lt hc9
          have hkl : k < ls.length := by have := R9.2.2.2.1; omega
          have HZ9 := Lib.hid (R9.2.2.2.2.2 k hkl)
          have G9 := Lib.hid K9
          have eT : canB (lT ls k) l2 p f q u t = canB ls l2 p f q u t := by unfold canB; rw [lT_any _ _ _ hkl]
          have eK : canB ls (ls[k]'hkl) p f q u t = winIn p f q u t := by unfold canB; rw [any_at _ ls k hkl (by simp)]; simp
          have ET := Lib.hid eT
          have EK := Lib.hid eK
          replace R9 := Lib.hid R9
          replace S9 := Lib.hid S9
          replace RT9 := Lib.hid RT9
          clear eT eK D dz b9 rW rQ rP hT hU stE sE bE YE hyE YZ
          go_upto_region 6 with fail
          refine wp_region_made w9.heap.size w9 rfl (by kernel_rfl) (Below.refl _ _) ?_
          refine wpQ_load_box rfl 29 _ rfl K9 (by rfl) hkb Tryd.underlying29 rfl (by kernel_rfl) ?_
          simp only [Act.put, List.setIfInBounds_toArray, List.set_cons_zero, List.set_cons_succ]
          refine wpQ_run rfl (.slice a2 n2 c2) (fun w' hw => by simp [go_sem]) ?_
          simp only [Act.put, List.setIfInBounds_toArray, List.set_cons_zero, List.set_cons_succ]
          refine wpQ_run rfl (.int .i64 t) (fun w' hw => by simp [go_sem]) ?_
          simp only [Act.put, List.setIfInBounds_toArray, List.set_cons_zero, List.set_cons_succ]
          refine wpQ_callB rfl 9 #[.agg #[.bool s, .slice ka kn kc, .slice (some ⟨b, o, none⟩) n c, .bool p, .int .i64 f, .bool q, .int .i64 u], .slice a2 n2 c2, .int .i64 t] (fun w' => by simp [go_sem]) (.bool (canB ls l2 p f q u t)) (Nat.le_refl _) (fun w' hw => cancels_any s ka kn kc _ n c Z ls p f q u a2 n2 c2 l2 t w' (R9.out.after hw) (S9.out.after hw)) ?_
          simp only [Act.put, List.setIfInBounds_toArray, List.set_cons_zero, List.set_cons_succ]
          refine wpQ_load_box rfl 29 _ rfl Y9 (by rfl) hyb Tryd.underlying29 rfl (by kernel_rfl) ?_
          simp only [Act.put, List.setIfInBounds_toArray, List.set_cons_zero, List.set_cons_succ]
          refine wpQ_run rfl (.slice a2 n2 c2) (fun w' hw => by simp [go_sem]) ?_
          simp only [Act.put, List.setIfInBounds_toArray, List.set_cons_zero, List.set_cons_succ]
          refine wpQ_run rfl (.int .i64 t) (fun w' hw => by simp [go_sem]) ?_
          simp only [Act.put, List.setIfInBounds_toArray, List.set_cons_zero, List.set_cons_succ]
          refine wpQ_callB rfl 9 #[.agg #[.bool s, .slice ka kn kc, .slice aT (0 + (n - k) + k + 1) cT, .bool p, .int .i64 f, .bool q, .int .i64 u], .slice a2 n2 c2, .int .i64 t] (fun w' => by simp [go_sem]) (.bool (canB ls l2 p f q u t)) (Nat.le_refl _) (fun w' hw => ET.out ▸ cancels_any s ka kn kc aT _ cT _ (lT ls k) p f q u a2 n2 c2 l2 t w' (RT9.out.after hw) (S9.out.after hw)) ?_
          simp only [Act.put, List.setIfInBounds_toArray, List.set_cons_zero, List.set_cons_succ]
          refine wpQ_run rfl (.bool true) (fun w' hw => by simp [go_sem]) ?_
          simp only [Act.put, List.setIfInBounds_toArray, List.set_cons_zero, List.set_cons_succ]
          refine wpQ_run rfl (.bool true) (fun w' hw => by simp [go_sem]) ?_
          simp only [Act.put, List.setIfInBounds_toArray, List.set_cons_zero, List.set_cons_succ]
          refine wpQ_load_box rfl 29 _ rfl K9 (by rfl) hkb Tryd.underlying29 rfl (by kernel_rfl) ?_
          simp only [Act.put, List.setIfInBounds_toArray, List.set_cons_zero, List.set_cons_succ]
          refine wpQ_run rfl (.pointer (some ⟨w.heap.size, 2, none⟩)) (fun w' hw => by simp [go_sem]) ?_
          simp only [Act.put, List.setIfInBounds_toArray, List.set_cons_zero, List.set_cons_succ]
          refine wpQ_run rfl (.slice (some ⟨b, o, none⟩) n c) (fun w' hw => by have := (G9.out.after hw).cell 2 rfl; simp [go_sem, this]) ?_
          simp only [Act.put, List.setIfInBounds_toArray, List.set_cons_zero, List.set_cons_succ]
          refine wpQ_run rfl (.int .i64 k) (fun w' hw => by simp [go_sem]) ?_
          simp only [Act.put, List.setIfInBounds_toArray, List.set_cons_zero, List.set_cons_succ]
          refine wpQ_run rfl (.pointer (some ⟨b, o + k, none⟩)) (fun w' hw => by simp [go_sem, hk0, hk1]) ?_
          simp only [Act.put, List.setIfInBounds_toArray, List.set_cons_zero, List.set_cons_succ]
          refine wpQ_run rfl (.slice (Z k).a (Z k).n (Z k).c) (fun w' hw => by have := (World.cell?_of_block (a := ⟨b, o + k, none⟩) (hw.block b hb9)).trans hc9; simp [go_sem, this]) ?_
          simp only [Act.put, List.setIfInBounds_toArray, List.set_cons_zero, List.set_cons_succ]
          refine wpQ_run rfl (.int .i64 t) (fun w' hw => by simp [go_sem]) ?_
          simp only [Act.put, List.setIfInBounds_toArray, List.set_cons_zero, List.set_cons_succ]
          refine wpQ_callB rfl 9 #[.agg #[.bool s, .slice ka kn kc, .slice (some ⟨b, o, none⟩) n c, .bool p, .int .i64 f, .bool q, .int .i64 u], .slice (Z k).a (Z k).n (Z k).c, .int .i64 t] (fun w' => by simp [go_sem]) (.bool (winIn p f q u t)) (Nat.le_refl _) (fun w' hw => EK.out ▸ cancels_any s ka kn kc _ n c Z ls p f q u _ _ _ _ t w' (R9.out.after hw) (HZ9.out.after hw)) ?_
          simp only [Act.put, List.setIfInBounds_toArray, List.set_cons_zero, List.set_cons_succ]
          refine wpQ_run rfl (.pointer (some ⟨w.heap.size, 3, none⟩)) (fun w' hw => by simp [go_sem]) ?_
          simp only [Act.put, List.setIfInBounds_toArray, List.set_cons_zero, List.set_cons_succ]
          refine wpQ_load_mid rfl 27 _ rfl w.heap.size 3 rfl [.bool p, .int .i64 f, .bool q, .int .i64 u] _ (Box.mid G9.out 3 _ (mid4 rfl rfl rfl rfl)) hkb Tryd.underlying27 rfl (by kernel_rfl) ?_
          simp only [Act.put, List.setIfInBounds_toArray, List.set_cons_zero, List.set_cons_succ]
          refine wpQ_run rfl (.int .i64 t) (fun w' hw => by simp [go_sem]) ?_
          simp only [Act.put, List.setIfInBounds_toArray, List.set_cons_zero, List.set_cons_succ]
          refine wpQ_callB rfl 11 #[.agg #[.bool p, .int .i64 f, .bool q, .int .i64 u], .int .i64 t] (fun w' => by simp [go_sem]) (.bool (winIn p f q u t)) (Nat.le_refl _) (fun w' hw => refIn_any p f q u t w') ?_
          simp only [Act.put, List.setIfInBounds_toArray, List.set_cons_zero, List.set_cons_succ]
          refine wpQ_run rfl (.bool true) (fun w' hw => by simp [go_sem]) ?_
          simp only [Act.put, List.setIfInBounds_toArray, List.set_cons_zero, List.set_cons_succ]
          refine wpQ_run rfl (.bool true) (fun w' hw => by simp [go_sem]) ?_
          simp only [Act.put, List.setIfInBounds_toArray, List.set_cons_zero, List.set_cons_succ]
          refine wpQ_run rfl (.bool true) (fun w' hw => by simp [go_sem]) ?_
          simp only [Act.put, List.setIfInBounds_toArray, List.set_cons_zero, List.set_cons_succ]
          refine wpQ_callB rfl 8 #[] (fun w' => by simp [go_sem]) (.bool true) (Nat.le_refl _) (fun w' hw => awake_any w' (T9.out.after hw)) ?_
          simp only [Act.put, List.setIfInBounds_toArray, List.set_cons_zero, List.set_cons_succ]
          refine wpQ_run rfl (.bool true) (fun w' hw => by simp [go_sem]) ?_
          simp only [Act.put, List.setIfInBounds_toArray, List.set_cons_zero, List.set_cons_succ]
          refine wpQ_run rfl (.bool true) (fun w' hw => by simp [go_sem]) ?_
          simp only [Act.put, List.setIfInBounds_toArray, List.set_cons_zero, List.set_cons_succ]
          intro wL bL
          go_wp2_with fail
          go_ret
          exact ⟨rfl, B9.trans (bL.mono B9.size)⟩
        · intro z15 b15 s15
          replace rO := rO.after b15
          refine wp_of_run (.slice (some ⟨z15.heap.size, 0, none⟩) 1 1) (z15.alloc (.cells #[.slice (Z k).a (Z k).n (Z k).c] 22)) (by simp [go_sem]) ?_
          have c21 : Below z15.heap.size z15 (z15.alloc (.cells #[.slice (Z k).a (Z k).n (Z k).c] 22)) := (Below.refl _ _).alloc (Nat.le_refl _) _
          have rG : Box (z15.alloc (.cells #[.slice (Z k).a (Z k).n (Z k).c] 22)) z15.heap.size 22 #[.slice (Z k).a (Z k).n (Z k).c] := Box.new _ _ _
          have rN : ∀ x, Value.ownBlock v14 = some x → x ≠ z15.heap.size := fun x hx e => by have := (rO.lt x hx).2; omega
          replace rO := rO.after c21
          refine ⟨hKS _ _ s15 c21, ?_⟩
          simp only [Act.put, List.setIfInBounds_toArray, List.set_cons_zero, List.set_cons_succ]
          generalize (z15.alloc (.cells #[.slice (Z k).a (Z k).n (Z k).c] 22)) = y21 at *
          refine wpW_one 10 rfl (by kernel_rfl) rfl rfl ?_
          intro z22 b22 s22
          replace rO := rO.after b22
          replace rG := rG.after b22
          refine wp_append_Z _ _ rfl rfl rO rfl ((HRQ.out.after s22).src 0 k c (by omega)) (by omega) s22.size ?_
          intro v23 w23 rP hg hw
          have c23 : Below u9.heap.size u9 w23 := s22.grown hg s22.size (fun x hx => (rO.lt x hx).1)
          have rM : ∀ x, v23.ownBlock = some x → x ≠ z15.heap.size := fun x hx => (hw x hx).elim (fun h => rN x h) (fun h e => by have := rG.lt; omega)
          replace rG : Box w23 z15.heap.size 22 #[.slice (Z k).a (Z k).n (Z k).c] := (hg.block _ rG.lt (fun e => rN _ e.symm rfl)).trans rG
          clear rN
          have rN := rM
          clear rM
          clear rO hg hw
          have rO := rP
          clear rP
          refine ⟨c23, ?_⟩
          simp only [Act.put, List.setIfInBounds_toArray, List.set_cons_zero, List.set_cons_succ]
          refine wpW_one 17 rfl (by kernel_rfl) rfl rfl ?_
          intro z24 b24 s24
          replace rO := rO.after b24
          replace rG := rG.after b24
          refine wp_append_Z _ _ rfl rfl rO rfl (one_src rG) (by omega) s24.size ?_
          intro vE w25 rP hg hw
          have c25 : Below u9.heap.size u9 w25 := s24.grown hg s24.size (fun x hx => (rO.lt x hx).1)
          clear rO rG rN hg hw
          refine ⟨c25, ?_⟩
          simp only [Act.put, List.setIfInBounds_toArray, List.set_cons_zero, List.set_cons_succ]
          refine wpW_val 18 hKS rfl (by kernel_rfl) (by kernel_rfl) (by kernel_rfl) (by kernel_rfl) rfl (fun _ _ _ _ h => h) (.pointer (some ⟨y, 2, none⟩)) (fun w' h => by simp [go_sem]) ?_
          simp only [Act.put, List.setIfInBounds_toArray, List.set_cons_zero, List.set_cons_succ]
          refine wpW_write 19 rfl (by kernel_rfl) (by kernel_rfl) rfl ?_
          intro zE bE sE
          have rQ := rP.after bE
          obtain ⟨aT, cT, rfl, hT⟩ := RowS.turned (HRQ.out.after sE) k hkn rQ
          have YE := YQ.out.after sE
          have hyE := YQ.out.lt
          refine wp_store_slice 25 _ _ rfl (b := y) (off := 2) rfl rfl (YE.cell 2 rfl) (YE.frozen 2) (fun _ => by rfl) ?_
          have YZ := YE.set 2 (.slice aT (0 + (n - k) + k + 1) cT)
          have stE := (Stored.refl zE y).setCell 2 (.slice aT (0 + (n - k) + k + 1) cT)
          generalize zE.setCell ⟨y, 2, none⟩ (.slice aT (0 + (n - k) + k + 1) cT) = wz at *
          have dz := stE.below y w1 (Nat.le_refl _) (HBy.out.trans (sE.mono (by omega)))
          have rW := OwnG.keep rQ (by have := stE.size; omega) (fun g hg => stE.other g (by have := (rQ.lt g hg).1; omega))
          obtain ⟨aU, cU, eU, hU⟩ := RowS.turned (HRy.out wz dz) k hkn rW
          cases eU
          simp only [List.setIfInBounds_toArray, List.set_cons_zero, List.set_cons_succ] at YZ
          simp only [Act.put, List.setIfInBounds_toArray, List.set_cons_zero, List.set_cons_succ]
          refine wpU_done rfl (fun w9 b9 _ => ?_)
          have D := dz.trans (b9.mono (by have := YZ.lt; omega))
          have K9 := HKy.out w9 D
          have R9 := HRy.out w9 D
          have S9 := HSy.out w9 D
          have T9 := Lib.hid (HTy.out w9 D)
          have Y9 := YZ.after b9
          have RT9 := hU.after b9
          have B9 := B1.trans (D.mono hwy)
          have hkb := K9.lt
          have hyb := Y9.lt
          obtain ⟨b', o', e', hc9⟩ := R9.cell hkn
          cases e'
          have hb9 := cell_lt hc9
          have hkl : k < ls.length := by have := R9.2.2.2.1; omega
          have HZ9 := Lib.hid (R9.2.2.2.2.2 k hkl)
          have G9 := Lib.hid K9
          have eT : canB (lT ls k) l2 p f q u t = canB ls l2 p f q u t := by unfold canB; rw [lT_any _ _ _ hkl]
          have eK : canB ls (ls[k]'hkl) p f q u t = winIn p f q u t := by unfold canB; rw [any_at _ ls k hkl (by simp)]; simp
          have ET := Lib.hid eT
          have EK := Lib.hid eK
          replace R9 := Lib.hid R9
          replace S9 := Lib.hid S9
          replace RT9 := Lib.hid RT9
          clear eT eK D dz b9 rW rQ rP hT hU stE sE bE YE hyE YZ
          go_upto_region 6 with fail
          refine wp_region_made w9.heap.size w9 rfl (by kernel_rfl) (Below.refl _ _) ?_
          refine wpQ_load_box rfl 29 _ rfl K9 (by rfl) hkb Tryd.underlying29 rfl (by kernel_rfl) ?_
          simp only [Act.put, List.setIfInBounds_toArray, List.set_cons_zero, List.set_cons_succ]
          refine wpQ_run rfl (.slice a2 n2 c2) (fun w' hw => by simp [go_sem]) ?_
          simp only [Act.put, List.setIfInBounds_toArray, List.set_cons_zero, List.set_cons_succ]
          refine wpQ_run rfl (.int .i64 t) (fun w' hw => by simp [go_sem]) ?_
          simp only [Act.put, List.setIfInBounds_toArray, List.set_cons_zero, List.set_cons_succ]
          refine wpQ_callB rfl 9 #[.agg #[.bool s, .slice ka kn kc, .slice (some ⟨b, o, none⟩) n c, .bool p, .int .i64 f, .bool q, .int .i64 u], .slice a2 n2 c2, .int .i64 t] (fun w' => by simp [go_sem]) (.bool (canB ls l2 p f q u t)) (Nat.le_refl _) (fun w' hw => cancels_any s ka kn kc _ n c Z ls p f q u a2 n2 c2 l2 t w' (R9.out.after hw) (S9.out.after hw)) ?_
          simp only [Act.put, List.setIfInBounds_toArray, List.set_cons_zero, List.set_cons_succ]
          refine wpQ_load_box rfl 29 _ rfl Y9 (by rfl) hyb Tryd.underlying29 rfl (by kernel_rfl) ?_
          simp only [Act.put, List.setIfInBounds_toArray, List.set_cons_zero, List.set_cons_succ]
          refine wpQ_run rfl (.slice a2 n2 c2) (fun w' hw => by simp [go_sem]) ?_
          simp only [Act.put, List.setIfInBounds_toArray, List.set_cons_zero, List.set_cons_succ]
          refine wpQ_run rfl (.int .i64 t) (fun w' hw => by simp [go_sem]) ?_
          simp only [Act.put, List.setIfInBounds_toArray, List.set_cons_zero, List.set_cons_succ]
          refine wpQ_callB rfl 9 #[.agg #[.bool s, .slice ka kn kc, .slice aT (0 + (n - k) + k + 1) cT, .bool p, .int .i64 f, .bool q, .int .i64 u], .slice a2 n2 c2, .int .i64 t] (fun w' => by simp [go_sem]) (.bool (canB ls l2 p f q u t)) (Nat.le_refl _) (fun w' hw => ET.out ▸ cancels_any s ka kn kc aT _ cT _ (lT ls k) p f q u a2 n2 c2 l2 t w' (RT9.out.after hw) (S9.out.after hw)) ?_
          simp only [Act.put, List.setIfInBounds_toArray, List.set_cons_zero, List.set_cons_succ]
          refine wpQ_run rfl (.bool true) (fun w' hw => by simp [go_sem]) ?_
          simp only [Act.put, List.setIfInBounds_toArray, List.set_cons_zero, List.set_cons_succ]
          refine wpQ_run rfl (.bool true) (fun w' hw => by simp [go_sem]) ?_
          simp only [Act.put, List.setIfInBounds_toArray, List.set_cons_zero, List.set_cons_succ]
          refine wpQ_load_box rfl 29 _ rfl K9 (by rfl) hkb Tryd.underlying29 rfl (by kernel_rfl) ?_
          simp only [Act.put, List.setIfInBounds_toArray, List.set_cons_zero, List.set_cons_succ]
          refine wpQ_run rfl (.pointer (some ⟨w.heap.size, 2, none⟩)) (fun w' hw => by simp [go_sem]) ?_
          simp only [Act.put, List.setIfInBounds_toArray, List.set_cons_zero, List.set_cons_succ]
          refine wpQ_run rfl (.slice (some ⟨b, o, none⟩) n c) (fun w' hw => by have := (G9.out.after hw).cell 2 rfl; simp [go_sem, this]) ?_
          simp only [Act.put, List.setIfInBounds_toArray, List.set_cons_zero, List.set_cons_succ]
          refine wpQ_run rfl (.int .i64 k) (fun w' hw => by simp [go_sem]) ?_
          simp only [Act.put, List.setIfInBounds_toArray, List.set_cons_zero, List.set_cons_succ]
          refine wpQ_run rfl (.pointer (some ⟨b, o + k, none⟩)) (fun w' hw => by simp [go_sem, hk0, hk1]) ?_
          simp only [Act.put, List.setIfInBounds_toArray, List.set_cons_zero, List.set_cons_succ]
          refine wpQ_run rfl (.slice (Z k).a (Z k).n (Z k).c) (fun w' hw => by have := (World.cell?_of_block (a := ⟨b, o + k, none⟩) (hw.block b hb9)).trans hc9; simp [go_sem, this]) ?_
          simp only [Act.put, List.setIfInBounds_toArray, List.set_cons_zero, List.set_cons_succ]
          refine wpQ_run rfl (.int .i64 t) (fun w' hw => by simp [go_sem]) ?_
          simp only [Act.put, List.setIfInBounds_toArray, List.set_cons_zero, List.set_cons_succ]
          refine wpQ_callB rfl 9 #[.agg #[.bool s, .slice ka kn kc, .slice (some ⟨b, o, none⟩) n c, .bool p, .int .i64 f, .bool q, .int .i64 u], .slice (Z k).a (Z k).n (Z k).c, .int .i64 t] (fun w' => by simp [go_sem]) (.bool (winIn p f q u t)) (Nat.le_refl _) (fun w' hw => EK.out ▸ cancels_any s ka kn kc _ n c Z ls p f q u _ _ _ _ t w' (R9.out.after hw) (HZ9.out.after hw)) ?_
          simp only [Act.put, List.setIfInBounds_toArray, List.set_cons_zero, List.set_cons_succ]
          refine wpQ_run rfl (.pointer (some ⟨w.heap.size, 3, none⟩)) (fun w' hw => by simp [go_sem]) ?_
          simp only [Act.put, List.setIfInBounds_toArray, List.set_cons_zero, List.set_cons_succ]
          refine wpQ_load_mid rfl 27 _ rfl w.heap.size 3 rfl [.bool p, .int .i64 f, .bool q, .int .i64 u] _ (Box.mid G9.out 3 _ (mid4 rfl rfl rfl rfl)) hkb Tryd.underlying27 rfl (by kernel_rfl) ?_
          simp only [Act.put, List.setIfInBounds_toArray, List.set_cons_zero, List.set_cons_succ]
          refine wpQ_run rfl (.int .i64 t) (fun w' hw => by simp [go_sem]) ?_
          simp only [Act.put, List.setIfInBounds_toArray, List.set_cons_zero, List.set_cons_succ]
          refine wpQ_callB rfl 11 #[.agg #[.bool p, .int .i64 f, .bool q, .int .i64 u], .int .i64 t] (fun w' => by simp [go_sem]) (.bool (winIn p f q u t)) (Nat.le_refl _) (fun w' hw => refIn_any p f q u t w') ?_
          simp only [Act.put, List.setIfInBounds_toArray, List.set_cons_zero, List.set_cons_succ]
          refine wpQ_run rfl (.bool true) (fun w' hw => by simp [go_sem]) ?_
          simp only [Act.put, List.setIfInBounds_toArray, List.set_cons_zero, List.set_cons_succ]
          refine wpQ_run rfl (.bool true) (fun w' hw => by simp [go_sem]) ?_
          simp only [Act.put, List.setIfInBounds_toArray, List.set_cons_zero, List.set_cons_succ]
          refine wpQ_run rfl (.bool true) (fun w' hw => by simp [go_sem]) ?_
          simp only [Act.put, List.setIfInBounds_toArray, List.set_cons_zero, List.set_cons_succ]
          refine wpQ_callB rfl 8 #[] (fun w' => by simp [go_sem]) (.bool true) (Nat.le_refl _) (fun w' hw => awake_any w' (T9.out.after hw)) ?_
          simp only [Act.put, List.setIfInBounds_toArray, List.set_cons_zero, List.set_cons_succ]
          refine wpQ_run rfl (.bool true) (fun w' hw => by simp [go_sem]) ?_
          simp only [Act.put, List.setIfInBounds_toArray, List.set_cons_zero, List.set_cons_succ]
          refine wpQ_run rfl (.bool true) (fun w' hw => by simp [go_sem]) ?_
          simp only [Act.put, List.setIfInBounds_toArray, List.set_cons_zero, List.set_cons_succ]
          intro wL bL
          go_wp2_with fail
          go_ret
          exact ⟨rfl, B9.trans (bL.mono B9.size)⟩
      · intro z13 b13 s13
        replace rO := rO.after b13
        refine wp_of_run (.slice (some ⟨z13.heap.size, 0, none⟩) 1 1) (z13.alloc (.cells #[.slice (Z k).a (Z k).n (Z k).c] 22)) (by simp [go_sem]) ?_
        have c26 : Below z13.heap.size z13 (z13.alloc (.cells #[.slice (Z k).a (Z k).n (Z k).c] 22)) := (Below.refl _ _).alloc (Nat.le_refl _) _
        have rG : Box (z13.alloc (.cells #[.slice (Z k).a (Z k).n (Z k).c] 22)) z13.heap.size 22 #[.slice (Z k).a (Z k).n (Z k).c] := Box.new _ _ _
        have rN : ∀ x, Value.ownBlock (.slice (some ⟨z11.heap.size, 0, none⟩) 0 0) = some x → x ≠ z13.heap.size := fun x hx e => by have := (rO.lt x hx).2; omega
        replace rO := rO.after c26
        refine ⟨hKS _ _ s13 c26, ?_⟩
        simp only [Act.put, List.setIfInBounds_toArray, List.set_cons_zero, List.set_cons_succ]
        generalize (z13.alloc (.cells #[.slice (Z k).a (Z k).n (Z k).c] 22)) = y26 at *
        refine wpW_one 5 rfl (by kernel_rfl) rfl rfl ?_
        intro z27 b27 s27
        replace rO := rO.after b27
        replace rG := rG.after b27
        refine wp_append_Z _ _ rfl rfl rO rfl ((HRQ.out.after s27).src k (n - k) (c - k) (by omega)) (by omega) s27.size ?_
        intro v28 w28 rP hg hw
        have c28 : Below u9.heap.size u9 w28 := s27.grown hg s27.size (fun x hx => (rO.lt x hx).1)
        have rM : ∀ x, v28.ownBlock = some x → x ≠ z13.heap.size := fun x hx => (hw x hx).elim (fun h => rN x h) (fun h e => by have := rG.lt; omega)
        replace rG : Box w28 z13.heap.size 22 #[.slice (Z k).a (Z k).n (Z k).c] := (hg.block _ rG.lt (fun e => rN _ e.symm rfl)).trans rG
        clear rN
        have rN := rM
        clear rM
        clear rO hg hw
        have rO := rP
        clear rP
        refine ⟨c28, ?_⟩
        simp only [Act.put, List.setIfInBounds_toArray, List.set_cons_zero, List.set_cons_succ]
        refine wpW_one 10 rfl (by kernel_rfl) rfl rfl ?_
        intro z29 b29 s29
        replace rO := rO.after b29
        replace rG := rG.after b29
        refine wp_append_Z _ _ rfl rfl rO rfl ((HRQ.out.after s29).src 0 k c (by omega)) (by omega) s29.size ?_
        intro v30 w30 rP hg hw
        have c30 : Below u9.heap.size u9 w30 := s29.grown hg s29.size (fun x hx => (rO.lt x hx).1)
        have rM : ∀ x, v30.ownBlock = some x → x ≠ z13.heap.size := fun x hx => (hw x hx).elim (fun h => rN x h) (fun h e => by have := rG.lt; omega)
        replace rG : Box w30 z13.heap.size 22 #[.slice (Z k).a (Z k).n (Z k).c] := (hg.block _ rG.lt (fun e => rN _ e.symm rfl)).trans rG
        clear rN
        have rN := rM
        clear rM
        clear rO hg hw
        have rO := rP
        clear rP
        refine ⟨c30, ?_⟩
        simp only [Act.put, List.setIfInBounds_toArray, List.set_cons_zero, List.set_cons_succ]
        refine wpW_one 17 rfl (by kernel_rfl) rfl rfl ?_
        intro z31 b31 s31
        replace rO := rO.after b31
        replace rG := rG.after b31
        refine wp_append_Z _ _ rfl rfl rO rfl (one_src rG) (by omega) s31.size ?_
        intro vE w32 rP hg hw
        have c32 : Below u9.heap.size u9 w32 := s31.grown hg s31.size (fun x hx => (rO.lt x hx).1)
        clear rO rG rN hg hw
        refine ⟨c32, ?_⟩
        simp only [Act.put, List.setIfInBounds_toArray, List.set_cons_zero, List.set_cons_succ]
        refine wpW_val 18 hKS rfl (by kernel_rfl) (by kernel_rfl) (by kernel_rfl) (by kernel_rfl) rfl (fun _ _ _ _ h => h) (.pointer (some ⟨y, 2, none⟩)) (fun w' h => by simp [go_sem]) ?_
        simp only [Act.put, List.setIfInBounds_toArray, List.set_cons_zero, List.set_cons_succ]
        refine wpW_write 19 rfl (by kernel_rfl) (by kernel_rfl) rfl ?_
        intro zE bE sE
        have rQ := rP.after bE
        obtain ⟨aT, cT, rfl, hT⟩ := RowS.turned (HRQ.out.after sE) k hkn rQ
        have YE := YQ.out.after sE
        have hyE := YQ.out.lt
        refine wp_store_slice 25 _ _ rfl (b := y) (off := 2) rfl rfl (YE.cell 2 rfl) (YE.frozen 2) (fun _ => by rfl) ?_
        have YZ := YE.set 2 (.slice aT (0 + (n - k) + k + 1) cT)
        have stE := (Stored.refl zE y).setCell 2 (.slice aT (0 + (n - k) + k + 1) cT)
        generalize zE.setCell ⟨y, 2, none⟩ (.slice aT (0 + (n - k) + k + 1) cT) = wz at *
        have dz := stE.below y w1 (Nat.le_refl _) (HBy.out.trans (sE.mono (by omega)))
        have rW := OwnG.keep rQ (by have := stE.size; omega) (fun g hg => stE.other g (by have := (rQ.lt g hg).1; omega))
        obtain ⟨aU, cU, eU, hU⟩ := RowS.turned (HRy.out wz dz) k hkn rW
        cases eU
        simp only [List.setIfInBounds_toArray, List.set_cons_zero, List.set_cons_succ] at YZ
        simp only [Act.put, List.setIfInBounds_toArray, List.set_cons_zero, List.set_cons_succ]
        refine wpU_done rfl (fun w9 b9 _ => ?_)
        have D := dz.trans (b9.mono (by have := YZ.lt; omega))
        have K9 := HKy.out w9 D
        have R9 := HRy.out w9 D
        have S9 := HSy.out w9 D
        have T9 := Lib.hid (HTy.out w9 D)
        have Y9 := YZ.after b9
        have RT9 := hU.after b9
        have B9 := B1.trans (D.mono hwy)
        have hkb := K9.lt
        have hyb := Y9.lt
        obtain ⟨b', o', e', hc9⟩ := R9.cell hkn
        cases e'
        have hb9 := cell_lt hc9
        have hkl : k < ls.length := by have := R9.2.2.2.1; omega
        have HZ9 := Lib.hid (R9.2.2.2.2.2 k hkl)
        have G9 := Lib.hid K9
        have eT : canB (lT ls k) l2 p f q u t = canB ls l2 p f q u t := by unfold canB; rw [lT_any _ _ _ hkl]
        have eK : canB ls (ls[k]'hkl) p f q u t = winIn p f q u t := by unfold canB; rw [any_at _ ls k hkl (by simp)]; simp
        have ET := Lib.hid eT
        have EK := Lib.hid eK
        replace R9 := Lib.hid R9
        replace S9 := Lib.hid S9
        replace RT9 := Lib.hid RT9
        clear eT eK D dz b9 rW rQ rP hT hU stE sE bE YE hyE YZ
        go_upto_region 6 with fail
        refine wp_region_made w9.heap.size w9 rfl (by kernel_rfl) (Below.refl _ _) ?_
        refine wpQ_load_box rfl 29 _ rfl K9 (by rfl) hkb Tryd.underlying29 rfl (by kernel_rfl) ?_
        simp only [Act.put, List.setIfInBounds_toArray, List.set_cons_zero, List.set_cons_succ]
        refine wpQ_run rfl (.slice a2 n2 c2) (fun w' hw => by simp [go_sem]) ?_
        simp only [Act.put, List.setIfInBounds_toArray, List.set_cons_zero, List.set_cons_succ]
        refine wpQ_run rfl (.int .i64 t) (fun w' hw => by simp [go_sem]) ?_
        simp only [Act.put, List.setIfInBounds_toArray, List.set_cons_zero, List.set_cons_succ]
        refine wpQ_callB rfl 9 #[.agg #[.bool s, .slice ka kn kc, .slice (some ⟨b, o, none⟩) n c, .bool p, .int .i64 f, .bool q, .int .i64 u], .slice a2 n2 c2, .int .i64 t] (fun w' => by simp [go_sem]) (.bool (canB ls l2 p f q u t)) (Nat.le_refl _) (fun w' hw => cancels_any s ka kn kc _ n c Z ls p f q u a2 n2 c2 l2 t w' (R9.out.after hw) (S9.out.after hw)) ?_
        simp only [Act.put, List.setIfInBounds_toArray, List.set_cons_zero, List.set_cons_succ]
        refine wpQ_load_box rfl 29 _ rfl Y9 (by rfl) hyb Tryd.underlying29 rfl (by kernel_rfl) ?_
        simp only [Act.put, List.setIfInBounds_toArray, List.set_cons_zero, List.set_cons_succ]
        refine wpQ_run rfl (.slice a2 n2 c2) (fun w' hw => by simp [go_sem]) ?_
        simp only [Act.put, List.setIfInBounds_toArray, List.set_cons_zero, List.set_cons_succ]
        refine wpQ_run rfl (.int .i64 t) (fun w' hw => by simp [go_sem]) ?_
        simp only [Act.put, List.setIfInBounds_toArray, List.set_cons_zero, List.set_cons_succ]
        refine wpQ_callB rfl 9 #[.agg #[.bool s, .slice ka kn kc, .slice aT (0 + (n - k) + k + 1) cT, .bool p, .int .i64 f, .bool q, .int .i64 u], .slice a2 n2 c2, .int .i64 t] (fun w' => by simp [go_sem]) (.bool (canB ls l2 p f q u t)) (Nat.le_refl _) (fun w' hw => ET.out ▸ cancels_any s ka kn kc aT _ cT _ (lT ls k) p f q u a2 n2 c2 l2 t w' (RT9.out.after hw) (S9.out.after hw)) ?_
        simp only [Act.put, List.setIfInBounds_toArray, List.set_cons_zero, List.set_cons_succ]
        refine wpQ_run rfl (.bool true) (fun w' hw => by simp [go_sem]) ?_
        simp only [Act.put, List.setIfInBounds_toArray, List.set_cons_zero, List.set_cons_succ]
        refine wpQ_run rfl (.bool true) (fun w' hw => by simp [go_sem]) ?_
        simp only [Act.put, List.setIfInBounds_toArray, List.set_cons_zero, List.set_cons_succ]
        refine wpQ_load_box rfl 29 _ rfl K9 (by rfl) hkb Tryd.underlying29 rfl (by kernel_rfl) ?_
        simp only [Act.put, List.setIfInBounds_toArray, List.set_cons_zero, List.set_cons_succ]
        refine wpQ_run rfl (.pointer (some ⟨w.heap.size, 2, none⟩)) (fun w' hw => by simp [go_sem]) ?_
        simp only [Act.put, List.setIfInBounds_toArray, List.set_cons_zero, List.set_cons_succ]
        refine wpQ_run rfl (.slice (some ⟨b, o, none⟩) n c) (fun w' hw => by have := (G9.out.after hw).cell 2 rfl; simp [go_sem, this]) ?_
        simp only [Act.put, List.setIfInBounds_toArray, List.set_cons_zero, List.set_cons_succ]
        refine wpQ_run rfl (.int .i64 k) (fun w' hw => by simp [go_sem]) ?_
        simp only [Act.put, List.setIfInBounds_toArray, List.set_cons_zero, List.set_cons_succ]
        refine wpQ_run rfl (.pointer (some ⟨b, o + k, none⟩)) (fun w' hw => by simp [go_sem, hk0, hk1]) ?_
        simp only [Act.put, List.setIfInBounds_toArray, List.set_cons_zero, List.set_cons_succ]
        refine wpQ_run rfl (.slice (Z k).a (Z k).n (Z k).c) (fun w' hw => by have := (World.cell?_of_block (a := ⟨b, o + k, none⟩) (hw.block b hb9)).trans hc9; simp [go_sem, this]) ?_
        simp only [Act.put, List.setIfInBounds_toArray, List.set_cons_zero, List.set_cons_succ]
        refine wpQ_run rfl (.int .i64 t) (fun w' hw => by simp [go_sem]) ?_
        simp only [Act.put, List.setIfInBounds_toArray, List.set_cons_zero, List.set_cons_succ]
        refine wpQ_callB rfl 9 #[.agg #[.bool s, .slice ka kn kc, .slice (some ⟨b, o, none⟩) n c, .bool p, .int .i64 f, .bool q, .int .i64 u], .slice (Z k).a (Z k).n (Z k).c, .int .i64 t] (fun w' => by simp [go_sem]) (.bool (winIn p f q u t)) (Nat.le_refl _) (fun w' hw => EK.out ▸ cancels_any s ka kn kc _ n c Z ls p f q u _ _ _ _ t w' (R9.out.after hw) (HZ9.out.after hw)) ?_
        simp only [Act.put, List.setIfInBounds_toArray, List.set_cons_zero, List.set_cons_succ]
        refine wpQ_run rfl (.pointer (some ⟨w.heap.size, 3, none⟩)) (fun w' hw => by simp [go_sem]) ?_
        simp only [Act.put, List.setIfInBounds_toArray, List.set_cons_zero, List.set_cons_succ]
        refine wpQ_load_mid rfl 27 _ rfl w.heap.size 3 rfl [.bool p, .int .i64 f, .bool q, .int .i64 u] _ (Box.mid G9.out 3 _ (mid4 rfl rfl rfl rfl)) hkb Tryd.underlying27 rfl (by kernel_rfl) ?_
        simp only [Act.put, List.setIfInBounds_toArray, List.set_cons_zero, List.set_cons_succ]
        refine wpQ_run rfl (.int .i64 t) (fun w' hw => by simp [go_sem]) ?_
        simp only [Act.put, List.setIfInBounds_toArray, List.set_cons_zero, List.set_cons_succ]
        refine wpQ_callB rfl 11 #[.agg #[.bool p, .int .i64 f, .bool q, .int .i64 u], .int .i64 t] (fun w' => by simp [go_sem]) (.bool (winIn p f q u t)) (Nat.le_refl _) (fun w' hw => refIn_any p f q u t w') ?_
        simp only [Act.put, List.setIfInBounds_toArray, List.set_cons_zero, List.set_cons_succ]
        refine wpQ_run rfl (.bool true) (fun w' hw => by simp [go_sem]) ?_
        simp only [Act.put, List.setIfInBounds_toArray, List.set_cons_zero, List.set_cons_succ]
        refine wpQ_run rfl (.bool true) (fun w' hw => by simp [go_sem]) ?_
        simp only [Act.put, List.setIfInBounds_toArray, List.set_cons_zero, List.set_cons_succ]
        refine wpQ_run rfl (.bool true) (fun w' hw => by simp [go_sem]) ?_
        simp only [Act.put, List.setIfInBounds_toArray, List.set_cons_zero, List.set_cons_succ]
        refine wpQ_callB rfl 8 #[] (fun w' => by simp [go_sem]) (.bool true) (Nat.le_refl _) (fun w' hw => awake_any w' (T9.out.after hw)) ?_
        simp only [Act.put, List.setIfInBounds_toArray, List.set_cons_zero, List.set_cons_succ]
        refine wpQ_run rfl (.bool true) (fun w' hw => by simp [go_sem]) ?_
        simp only [Act.put, List.setIfInBounds_toArray, List.set_cons_zero, List.set_cons_succ]
        refine wpQ_run rfl (.bool true) (fun w' hw => by simp [go_sem]) ?_
        simp only [Act.put, List.setIfInBounds_toArray, List.set_cons_zero, List.set_cons_succ]
        intro wL bL
        go_wp2_with fail
        go_ret
        exact ⟨rfl, B9.trans (bL.mono B9.size)⟩
    · intro z11 b11 s11
      refine wp_of_run (.slice (some ⟨z11.heap.size, 0, none⟩) 1 1) (z11.alloc (.cells #[.slice (Z k).a (Z k).n (Z k).c] 22)) (by simp [go_sem]) ?_
      have c33 : Below z11.heap.size z11 (z11.alloc (.cells #[.slice (Z k).a (Z k).n (Z k).c] 22)) := (Below.refl _ _).alloc (Nat.le_refl _) _
      have rG : Box (z11.alloc (.cells #[.slice (Z k).a (Z k).n (Z k).c] 22)) z11.heap.size 22 #[.slice (Z k).a (Z k).n (Z k).c] := Box.new _ _ _
      refine ⟨hKS _ _ s11 c33, ?_⟩
      simp only [Act.put, List.setIfInBounds_toArray, List.set_cons_zero, List.set_cons_succ]
      generalize (z11.alloc (.cells #[.slice (Z k).a (Z k).n (Z k).c] 22)) = y33 at *
      refine wpW_one 0 rfl (by kernel_rfl) rfl rfl ?_
      intro z34 b34 s34
      replace rG := rG.after b34
      refine wp_of_run (.slice (some ⟨z34.heap.size, 0, none⟩) 0 0) (z34.alloc (.cells #[] 22)) (by simp [go_sem]) ?_
      have c35 : Below z34.heap.size z34 (z34.alloc (.cells #[] 22)) := (Below.refl _ _).alloc (Nat.le_refl _) _
      have rO : OwnG (z34.alloc (.cells #[] 22)) u9.heap.size 1 (.slice (some ⟨z34.heap.size, 0, none⟩) 0 0) 0 [] := OwnG.new z34 u9.heap.size 1 s34.size #[] 22 0 0 (Nat.le_refl _) (Nat.zero_le _) rfl
      have hlg := rG.lt
      have rN : ∀ x, Value.ownBlock (.slice (some ⟨z34.heap.size, 0, none⟩) 0 0) = some x → x ≠ z11.heap.size := fun x hx e => by cases hx; have h0 : z34.heap.size = z11.heap.size := e; omega
      replace rG := rG.after c35
      clear hlg
      refine ⟨hKS _ _ s34 c35, ?_⟩
      simp only [Act.put, List.setIfInBounds_toArray, List.set_cons_zero, List.set_cons_succ]
      generalize (z34.alloc (.cells #[] 22)) = y35 at *
      refine wpW_one 5 rfl (by kernel_rfl) rfl rfl ?_
      intro z36 b36 s36
      replace rO := rO.after b36
      replace rG := rG.after b36
      refine wp_append_Z _ _ rfl rfl rO rfl ((HRQ.out.after s36).src k (n - k) (c - k) (by omega)) (by omega) s36.size ?_
      intro v37 w37 rP hg hw
      have c37 : Below u9.heap.size u9 w37 := s36.grown hg s36.size (fun x hx => (rO.lt x hx).1)
      have rM : ∀ x, v37.ownBlock = some x → x ≠ z11.heap.size := fun x hx => (hw x hx).elim (fun h => rN x h) (fun h e => by have := rG.lt; omega)
      replace rG : Box w37 z11.heap.size 22 #[.slice (Z k).a (Z k).n (Z k).c] := (hg.block _ rG.lt (fun e => rN _ e.symm rfl)).trans rG
      clear rN
      have rN := rM
      clear rM
      clear rO hg hw
      have rO := rP
      clear rP
      refine ⟨c37, ?_⟩
      simp only [Act.put, List.setIfInBounds_toArray, List.set_cons_zero, List.set_cons_succ]
      refine wpW_one 10 rfl (by kernel_rfl) rfl rfl ?_
      intro z38 b38 s38
      replace rO := rO.after b38
      replace rG := rG.after b38
      refine wp_append_Z _ _ rfl rfl rO rfl ((HRQ.out.after s38).src 0 k c (by omega)) (by omega) s38.size ?_
      intro v39 w39 rP hg hw
      have c39 : Below u9.heap.size u9 w39 := s38.grown hg s38.size (fun x hx => (rO.lt x hx).1)
      have rM : ∀ x, v39.ownBlock = some x → x ≠ z11.heap.size := fun x hx => (hw x hx).elim (fun h => rN x h) (fun h e => by have := rG.lt; omega)
      replace rG : Box w39 z11.heap.size 22 #[.slice (Z k).a (Z k).n (Z k).c] := (hg.block _ rG.lt (fun e => rN _ e.symm rfl)).trans rG
      clear rN
      have rN := rM
      clear rM
      clear rO hg hw
      have rO := rP
      clear rP
      refine ⟨c39, ?_⟩
      simp only [Act.put, List.setIfInBounds_toArray, List.set_cons_zero, List.set_cons_succ]
      refine wpW_one 17 rfl (by kernel_rfl) rfl rfl ?_
      intro z40 b40 s40
      replace rO := rO.after b40
      replace rG := rG.after b40
      refine wp_append_Z _ _ rfl rfl rO rfl (one_src rG) (by omega) s40.size ?_
      intro vE w41 rP hg hw
      have c41 : Below u9.heap.size u9 w41 := s40.grown hg s40.size (fun x hx => (rO.lt x hx).1)
      clear rO rG rN hg hw
      refine ⟨c41, ?_⟩
      simp only [Act.put, List.setIfInBounds_toArray, List.set_cons_zero, List.set_cons_succ]
      refine wpW_val 18 hKS rfl (by kernel_rfl) (by kernel_rfl) (by kernel_rfl) (by kernel_rfl) rfl (fun _ _ _ _ h => h) (.pointer (some ⟨y, 2, none⟩)) (fun w' h => by simp [go_sem]) ?_
      simp only [Act.put, List.setIfInBounds_toArray, List.set_cons_zero, List.set_cons_succ]
      refine wpW_write 19 rfl (by kernel_rfl) (by kernel_rfl) rfl ?_
      intro zE bE sE
      have rQ := rP.after bE
      obtain ⟨aT, cT, rfl, hT⟩ := RowS.turned (HRQ.out.after sE) k hkn rQ
      have YE := YQ.out.after sE
      have hyE := YQ.out.lt
      refine wp_store_slice 25 _ _ rfl (b := y) (off := 2) rfl rfl (YE.cell 2 rfl) (YE.frozen 2) (fun _ => by rfl) ?_
      have YZ := YE.set 2 (.slice aT (0 + (n - k) + k + 1) cT)
      have stE := (Stored.refl zE y).setCell 2 (.slice aT (0 + (n - k) + k + 1) cT)
      generalize zE.setCell ⟨y, 2, none⟩ (.slice aT (0 + (n - k) + k + 1) cT) = wz at *
      have dz := stE.below y w1 (Nat.le_refl _) (HBy.out.trans (sE.mono (by omega)))
      have rW := OwnG.keep rQ (by have := stE.size; omega) (fun g hg => stE.other g (by have := (rQ.lt g hg).1; omega))
      obtain ⟨aU, cU, eU, hU⟩ := RowS.turned (HRy.out wz dz) k hkn rW
      cases eU
      simp only [List.setIfInBounds_toArray, List.set_cons_zero, List.set_cons_succ] at YZ
      simp only [Act.put, List.setIfInBounds_toArray, List.set_cons_zero, List.set_cons_succ]
      refine wpU_done rfl (fun w9 b9 _ => ?_)
      have D := dz.trans (b9.mono (by have := YZ.lt; omega))
      have K9 := HKy.out w9 D
      have R9 := HRy.out w9 D
      have S9 := HSy.out w9 D
      have T9 := Lib.hid (HTy.out w9 D)
      have Y9 := YZ.after b9
      have RT9 := hU.after b9
      have B9 := B1.trans (D.mono hwy)
      have hkb := K9.lt
      have hyb := Y9.lt
      obtain ⟨b', o', e', hc9⟩ := R9.cell hkn
      cases e'
      have hb9 := cell_lt hc9
      have hkl : k < ls.length := by have := R9.2.2.2.1; omega
      have HZ9 := Lib.hid (R9.2.2.2.2.2 k hkl)
      have G9 := Lib.hid K9
      have eT : canB (lT ls k) l2 p f q u t = canB ls l2 p f q u t := by unfold canB; rw [lT_any _ _ _ hkl]
      have eK : canB ls (ls[k]'hkl) p f q u t = winIn p f q u t := by unfold canB; rw [any_at _ ls k hkl (by simp)]; simp
      have ET := Lib.hid eT
      have EK := Lib.hid eK
      replace R9 := Lib.hid R9
      replace S9 := Lib.hid S9
      replace RT9 := Lib.hid RT9
      clear eT eK D dz b9 rW rQ rP hT hU stE sE bE YE hyE YZ
      go_upto_region 6 with fail
      refine wp_region_made w9.heap.size w9 rfl (by kernel_rfl) (Below.refl _ _) ?_
      refine wpQ_load_box rfl 29 _ rfl K9 (by rfl) hkb Tryd.underlying29 rfl (by kernel_rfl) ?_
      simp only [Act.put, List.setIfInBounds_toArray, List.set_cons_zero, List.set_cons_succ]
      refine wpQ_run rfl (.slice a2 n2 c2) (fun w' hw => by simp [go_sem]) ?_
      simp only [Act.put, List.setIfInBounds_toArray, List.set_cons_zero, List.set_cons_succ]
      refine wpQ_run rfl (.int .i64 t) (fun w' hw => by simp [go_sem]) ?_
      simp only [Act.put, List.setIfInBounds_toArray, List.set_cons_zero, List.set_cons_succ]
      refine wpQ_callB rfl 9 #[.agg #[.bool s, .slice ka kn kc, .slice (some ⟨b, o, none⟩) n c, .bool p, .int .i64 f, .bool q, .int .i64 u], .slice a2 n2 c2, .int .i64 t] (fun w' => by simp [go_sem]) (.bool (canB ls l2 p f q u t)) (Nat.le_refl _) (fun w' hw => cancels_any s ka kn kc _ n c Z ls p f q u a2 n2 c2 l2 t w' (R9.out.after hw) (S9.out.after hw)) ?_
      simp only [Act.put, List.setIfInBounds_toArray, List.set_cons_zero, List.set_cons_succ]
      refine wpQ_load_box rfl 29 _ rfl Y9 (by rfl) hyb Tryd.underlying29 rfl (by kernel_rfl) ?_
      simp only [Act.put, List.setIfInBounds_toArray, List.set_cons_zero, List.set_cons_succ]
      refine wpQ_run rfl (.slice a2 n2 c2) (fun w' hw => by simp [go_sem]) ?_
      simp only [Act.put, List.setIfInBounds_toArray, List.set_cons_zero, List.set_cons_succ]
      refine wpQ_run rfl (.int .i64 t) (fun w' hw => by simp [go_sem]) ?_
      simp only [Act.put, List.setIfInBounds_toArray, List.set_cons_zero, List.set_cons_succ]
      refine wpQ_callB rfl 9 #[.agg #[.bool s, .slice ka kn kc, .slice aT (0 + (n - k) + k + 1) cT, .bool p, .int .i64 f, .bool q, .int .i64 u], .slice a2 n2 c2, .int .i64 t] (fun w' => by simp [go_sem]) (.bool (canB ls l2 p f q u t)) (Nat.le_refl _) (fun w' hw => ET.out ▸ cancels_any s ka kn kc aT _ cT _ (lT ls k) p f q u a2 n2 c2 l2 t w' (RT9.out.after hw) (S9.out.after hw)) ?_
      simp only [Act.put, List.setIfInBounds_toArray, List.set_cons_zero, List.set_cons_succ]
      refine wpQ_run rfl (.bool true) (fun w' hw => by simp [go_sem]) ?_
      simp only [Act.put, List.setIfInBounds_toArray, List.set_cons_zero, List.set_cons_succ]
      refine wpQ_run rfl (.bool true) (fun w' hw => by simp [go_sem]) ?_
      simp only [Act.put, List.setIfInBounds_toArray, List.set_cons_zero, List.set_cons_succ]
      refine wpQ_load_box rfl 29 _ rfl K9 (by rfl) hkb Tryd.underlying29 rfl (by kernel_rfl) ?_
      simp only [Act.put, List.setIfInBounds_toArray, List.set_cons_zero, List.set_cons_succ]
      refine wpQ_run rfl (.pointer (some ⟨w.heap.size, 2, none⟩)) (fun w' hw => by simp [go_sem]) ?_
      simp only [Act.put, List.setIfInBounds_toArray, List.set_cons_zero, List.set_cons_succ]
      refine wpQ_run rfl (.slice (some ⟨b, o, none⟩) n c) (fun w' hw => by have := (G9.out.after hw).cell 2 rfl; simp [go_sem, this]) ?_
      simp only [Act.put, List.setIfInBounds_toArray, List.set_cons_zero, List.set_cons_succ]
      refine wpQ_run rfl (.int .i64 k) (fun w' hw => by simp [go_sem]) ?_
      simp only [Act.put, List.setIfInBounds_toArray, List.set_cons_zero, List.set_cons_succ]
      refine wpQ_run rfl (.pointer (some ⟨b, o + k, none⟩)) (fun w' hw => by simp [go_sem, hk0, hk1]) ?_
      simp only [Act.put, List.setIfInBounds_toArray, List.set_cons_zero, List.set_cons_succ]
      refine wpQ_run rfl (.slice (Z k).a (Z k).n (Z k).c) (fun w' hw => by have := (World.cell?_of_block (a := ⟨b, o + k, none⟩) (hw.block b hb9)).trans hc9; simp [go_sem, this]) ?_
      simp only [Act.put, List.setIfInBounds_toArray, List.set_cons_zero, List.set_cons_succ]
      refine wpQ_run rfl (.int .i64 t) (fun w' hw => by simp [go_sem]) ?_
      simp only [Act.put, List.setIfInBounds_toArray, List.set_cons_zero, List.set_cons_succ]
      refine wpQ_callB rfl 9 #[.agg #[.bool s, .slice ka kn kc, .slice (some ⟨b, o, none⟩) n c, .bool p, .int .i64 f, .bool q, .int .i64 u], .slice (Z k).a (Z k).n (Z k).c, .int .i64 t] (fun w' => by simp [go_sem]) (.bool (winIn p f q u t)) (Nat.le_refl _) (fun w' hw => EK.out ▸ cancels_any s ka kn kc _ n c Z ls p f q u _ _ _ _ t w' (R9.out.after hw) (HZ9.out.after hw)) ?_
      simp only [Act.put, List.setIfInBounds_toArray, List.set_cons_zero, List.set_cons_succ]
      refine wpQ_run rfl (.pointer (some ⟨w.heap.size, 3, none⟩)) (fun w' hw => by simp [go_sem]) ?_
      simp only [Act.put, List.setIfInBounds_toArray, List.set_cons_zero, List.set_cons_succ]
      refine wpQ_load_mid rfl 27 _ rfl w.heap.size 3 rfl [.bool p, .int .i64 f, .bool q, .int .i64 u] _ (Box.mid G9.out 3 _ (mid4 rfl rfl rfl rfl)) hkb Tryd.underlying27 rfl (by kernel_rfl) ?_
      simp only [Act.put, List.setIfInBounds_toArray, List.set_cons_zero, List.set_cons_succ]
      refine wpQ_run rfl (.int .i64 t) (fun w' hw => by simp [go_sem]) ?_
      simp only [Act.put, List.setIfInBounds_toArray, List.set_cons_zero, List.set_cons_succ]
      refine wpQ_callB rfl 11 #[.agg #[.bool p, .int .i64 f, .bool q, .int .i64 u], .int .i64 t] (fun w' => by simp [go_sem]) (.bool (winIn p f q u t)) (Nat.le_refl _) (fun w' hw => refIn_any p f q u t w') ?_
      simp only [Act.put, List.setIfInBounds_toArray, List.set_cons_zero, List.set_cons_succ]
      refine wpQ_run rfl (.bool true) (fun w' hw => by simp [go_sem]) ?_
      simp only [Act.put, List.setIfInBounds_toArray, List.set_cons_zero, List.set_cons_succ]
      refine wpQ_run rfl (.bool true) (fun w' hw => by simp [go_sem]) ?_
      simp only [Act.put, List.setIfInBounds_toArray, List.set_cons_zero, List.set_cons_succ]
      refine wpQ_run rfl (.bool true) (fun w' hw => by simp [go_sem]) ?_
      simp only [Act.put, List.setIfInBounds_toArray, List.set_cons_zero, List.set_cons_succ]
      refine wpQ_callB rfl 8 #[] (fun w' => by simp [go_sem]) (.bool true) (Nat.le_refl _) (fun w' hw => awake_any w' (T9.out.after hw)) ?_
      simp only [Act.put, List.setIfInBounds_toArray, List.set_cons_zero, List.set_cons_succ]
      refine wpQ_run rfl (.bool true) (fun w' hw => by simp [go_sem]) ?_
      simp only [Act.put, List.setIfInBounds_toArray, List.set_cons_zero, List.set_cons_succ]
      refine wpQ_run rfl (.bool true) (fun w' hw => by simp [go_sem]) ?_
      simp only [Act.put, List.setIfInBounds_toArray, List.set_cons_zero, List.set_cons_succ]
      intro wL bL
      go_wp2_with fail
      go_ret
      exact ⟨rfl, B9.trans (bL.mono B9.size)⟩


end Go.Proofs.YticjhogofoffmaaDoor

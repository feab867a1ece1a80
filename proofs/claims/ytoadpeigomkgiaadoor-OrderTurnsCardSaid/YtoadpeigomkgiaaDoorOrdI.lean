/- OrderTurns: the walk. -/
import Derived.Test.YtoadpeigomkgiaaDoorOrdQ
namespace Go.Proofs.YtoadpeigomkgiaaDoor
open Go.RowKit

attribute [local irreducible] wpQuiet

theorem sl_nil (w : World) : Sl w none 0 0 [] := ⟨rfl, Nat.le_refl _, Nat.zero_le _, fun _ => rfl, .inl rfl⟩

set_option maxHeartbeats 20000000 in
set_option maxRecDepth 100000 in
theorem OrderTurns_walk (r : Nat) (rli rlo : Bool) (rla : Option Addr) (rln rlc : Nat) (rll : List UInt8) (rhi rho : Bool) (rha : Option Addr) (rhn rhc : Nat) (rhl : List UInt8) (s : Nat) (sli slo : Bool) (sla : Option Addr) (sln slc : Nat) (sll : List UInt8) (shi sho : Bool) (sha : Option Addr) (shn shc : Nat) (shl : List UInt8) (ba : Option Addr) (bn bc : Nat) (z : List Int) (w : World) (srl : Sl w rla rln rlc rll) (srh : Sl w rha rhn rhc rhl) (ssl : Sl w sla sln slc sll) (ssh : Sl w sha shn shc shl) (wb : IsRow .u8 w ba bn bc z) :
    Calls Tryd.prog 7 #[.agg #[.int .u8 r, .bool rli, .bool rlo, .slice rla rln rlc, .bool rhi, .bool rho, .slice rha rhn rhc], .agg #[.int .u8 s, .bool sli, .bool slo, .slice sla sln slc, .bool shi, .bool sho, .slice sha shn shc], .slice ba bn bc] w fun e w' => e = .returned (.bool true) ∧ Below w.heap.size w w' := by
  obtain ⟨bl, sb⟩ := wb.sl
  clear wb
  have hb0 : Below w.heap.size w ((w.alloc (.cells #[.int .u8 r, .bool rli, .bool rlo, .slice rla rln rlc, .bool rhi, .bool rho, .slice rha rhn rhc] 31)).alloc (.cells #[.int .u8 s, .bool sli, .bool slo, .slice sla sln slc, .bool shi, .bool sho, .slice sha shn shc] 31)) := ((Below.refl _ _).alloc (Nat.le_refl _) _).alloc (by simp) _
  have A : Box ((w.alloc (.cells #[.int .u8 r, .bool rli, .bool rlo, .slice rla rln rlc, .bool rhi, .bool rho, .slice rha rhn rhc] 31)).alloc (.cells #[.int .u8 s, .bool sli, .bool slo, .slice sla sln slc, .bool shi, .bool sho, .slice sha shn shc] 31)) w.heap.size 31 #[.int .u8 r, .bool rli, .bool rlo, .slice rla rln rlc, .bool rhi, .bool rho, .slice rha rhn rhc] := (Box.new _ _ _).alloc _
  have B : Box ((w.alloc (.cells #[.int .u8 r, .bool rli, .bool rlo, .slice rla rln rlc, .bool rhi, .bool rho, .slice rha rhn rhc] 31)).alloc (.cells #[.int .u8 s, .bool sli, .bool slo, .slice sla sln slc, .bool shi, .bool sho, .slice sha shn shc] 31)) (w.heap.size + 1) 31 #[.int .u8 s, .bool sli, .bool slo, .slice sla sln slc, .bool shi, .bool sho, .slice sha shn shc] := box_at (by simp)
  replace srl := srl.after hb0
  replace srh := srh.after hb0
  replace ssl := ssl.after hb0
  replace ssh := ssh.after hb0
  replace sb := sb.after hb0
  cases hG : (decide (200 < rln) || decide (200 < rhn))
  · cases hH : (decide (200 < sln) || decide (200 < shn))
    · have hG' := hG
      have hH' := hH
      rw [Bool.or_eq_false_iff, decide_eq_false_iff_not, decide_eq_false_iff_not] at hG' hH'
      obtain ⟨g1, g2⟩ := hG'
      obtain ⟨g3, g4⟩ := hH'
      have Nrl : rln ≤ 200 := by omega
      have Nrh : rhn ≤ 200 := by omega
      have Nsl : sln ≤ 200 := by omega
      have Nsh : shn ≤ 200 := by omega
      clear g1 g2 g3 g4
      by_cases n2 : bn ≤ 200
      · have Nb := n2
        have m2 : (bn : Int) ≤ 200 := by omega
        clear n2
        obtain ⟨K, hK⟩ : ∃ K, okB ⟨r, ⟨rli, rlo, rll⟩, ⟨rhi, rho, rhl⟩⟩ ⟨s, ⟨sli, slo, sll⟩, ⟨shi, sho, shl⟩⟩ = K := ⟨_, rfl⟩
        have hK2 : okB ⟨s, ⟨sli, slo, sll⟩, ⟨shi, sho, shl⟩⟩ ⟨r, ⟨rli, rlo, rll⟩, ⟨rhi, rho, rhl⟩⟩ = K := by rw [okB_comm]; exact hK
        obtain ⟨I, hI⟩ : ∃ I, inB (meetR ⟨r, ⟨rli, rlo, rll⟩, ⟨rhi, rho, rhl⟩⟩ ⟨s, ⟨sli, slo, sll⟩, ⟨shi, sho, shl⟩⟩) bl = I := ⟨_, rfl⟩
        have hI2 : inB (meetR ⟨s, ⟨sli, slo, sll⟩, ⟨shi, sho, shl⟩⟩ ⟨r, ⟨rli, rlo, rll⟩, ⟨rhi, rho, rhl⟩⟩) bl = I := by rw [in_turn]; exact hI
        obtain ⟨E, hE⟩ : ∃ E, emptyB (meetR ⟨r, ⟨rli, rlo, rll⟩, ⟨rhi, rho, rhl⟩⟩ ⟨s, ⟨sli, slo, sll⟩, ⟨shi, sho, shl⟩⟩) = E := ⟨_, rfl⟩
        have hE2 : emptyB (meetR ⟨s, ⟨sli, slo, sll⟩, ⟨shi, sho, shl⟩⟩ ⟨r, ⟨rli, rlo, rll⟩, ⟨rhi, rho, rhl⟩⟩) = E := by rw [empty_turn]; exact hE
        obtain ⟨M, hM⟩ : ∃ M, mayB ⟨r, ⟨rli, rlo, rll⟩, ⟨rhi, rho, rhl⟩⟩ = M := ⟨_, rfl⟩
        obtain ⟨O, hO⟩ : ∃ O, isO r = O := ⟨_, rfl⟩
        obtain ⟨V, hV⟩ : ∃ V, isV r bl = V := ⟨_, rfl⟩
        have hMa : mayB ⟨r, ⟨false, false, []⟩, ⟨false, false, []⟩⟩ = O := (may_all r).trans hO
        have hQ : inB ⟨r, ⟨false, false, []⟩, ⟨false, false, []⟩⟩ bl = (O && V) := by rw [← hMa, ← hV]; exact all_in r bl
        have hWa : withinB ⟨r, ⟨rli, rlo, rll⟩, ⟨rhi, rho, rhl⟩⟩ ⟨r, ⟨false, false, []⟩, ⟨false, false, []⟩⟩ = M := (all_within _).trans hM
        cases O
        all_goals
          go_enter Tryd.func7, Tryd.ntmps7
          go_wp2_with fail
          refine (great_any _ _ _ _ _ _ _ _ _ _ _ _).mono ?_
          rintro e w1 ⟨rfl, hbw1⟩
          rw [hG]
          replace A := A.after hbw1
          replace B := B.after hbw1
          replace srl := srl.after hbw1
          replace srh := srh.after hbw1
          replace ssl := ssl.after hbw1
          replace ssh := ssh.after hbw1
          replace sb := sb.after hbw1
          have hW_w1 := hb0.trans (hbw1.mono hb0.size)
          have b0 := B.cell 0 rfl
          have b1 := B.cell 1 rfl
          have b2 := B.cell 2 rfl
          have b3 := B.cell 3 rfl
          have b4 := B.cell 4 rfl
          have b5 := B.cell 5 rfl
          have b6 := B.cell 6 rfl
          go_wp2_with fail
          refine (great_any _ _ _ _ _ _ _ _ _ _ _ _).mono ?_
          rintro e w2 ⟨rfl, hbw2⟩
          rw [hH]
          clear b0 b1 b2 b3 b4 b5 b6
          replace A := A.after hbw2
          replace B := B.after hbw2
          replace srl := srl.after hbw2
          replace srh := srh.after hbw2
          replace ssl := ssl.after hbw2
          replace ssh := ssh.after hbw2
          replace sb := sb.after hbw2
          have hW_w2 := hW_w1.trans (hbw2.mono hW_w1.size)
          have a0 := A.cell 0 rfl
          have a1 := A.cell 1 rfl
          have a2 := A.cell 2 rfl
          have a3 := A.cell 3 rfl
          have a4 := A.cell 4 rfl
          have a5 := A.cell 5 rfl
          have a6 := A.cell 6 rfl
          have b0 := B.cell 0 rfl
          have b1 := B.cell 1 rfl
          have b2 := B.cell 2 rfl
          have b3 := B.cell 3 rfl
          have b4 := B.cell 4 rfl
          have b5 := B.cell 5 rfl
          have b6 := B.cell 6 rfl
          go_wp2_with fail
          refine (meet_any _ _ _ _ _ _ _ _ _ _ _ _ _ _ _ _ _ _ _ _ _ _ _ _ _ _ _ srl Nrl srh Nrh ssl Nsl ssh Nsh).mono ?_
          rintro e w3 ⟨⟨x, xli, xlo, xla, xln, xlc, xll, xhi, xho, xha, xhn, xhc, xhl⟩, rfl, hx, ⟨sxl, Nxl, sxh, Nxh⟩, hbw3⟩
          clear a0 a1 a2 a3 a4 a5 a6 b0 b1 b2 b3 b4 b5 b6
          replace A := A.after hbw3
          replace B := B.after hbw3
          replace srl := srl.after hbw3
          replace srh := srh.after hbw3
          replace ssl := ssl.after hbw3
          replace ssh := ssh.after hbw3
          replace sb := sb.after hbw3
          have hW_w3 := hW_w2.trans (hbw3.mono hW_w2.size)
          simp only [RgV.val]
          replace hx : (⟨x, ⟨xli, xlo, xll⟩, ⟨xhi, xho, xhl⟩⟩ : Rg) = _ := hx
          rw [hK]
          go_upto_region 4 with fail
          have f_w4 : Below w3.heap.size w3 (w3.alloc (.cells #[.int .u8 x, .bool xli, .bool xlo, .slice xla xln xlc, .bool xhi, .bool xho, .slice xha xhn xhc] 31)) := (Below.refl _ _).alloc (Nat.le_refl _) _
          replace A := A.after f_w4
          replace B := B.after f_w4
          replace srl := srl.after f_w4
          replace srh := srh.after f_w4
          replace ssl := ssl.after f_w4
          replace ssh := ssh.after f_w4
          replace sb := sb.after f_w4
          replace sxl := sxl.after f_w4
          replace sxh := sxh.after f_w4
          have X := Box.new w3 31 #[.int .u8 x, .bool xli, .bool xlo, .slice xla xln xlc, .bool xhi, .bool xho, .slice xha xhn xhc]
          have hW_w4 := hW_w3.trans (f_w4.mono hW_w3.size)
          generalize hg_w4 : w3.alloc (.cells #[.int .u8 x, .bool xli, .bool xlo, .slice xla xln xlc, .bool xhi, .bool xho, .slice xha xhn xhc] 31) = w4 at *
          clear hg_w4
          have a0 := A.cell 0 rfl
          have a1 := A.cell 1 rfl
          have a2 := A.cell 2 rfl
          have a3 := A.cell 3 rfl
          have a4 := A.cell 4 rfl
          have a5 := A.cell 5 rfl
          have a6 := A.cell 6 rfl
          have b0 := B.cell 0 rfl
          have b1 := B.cell 1 rfl
          have b2 := B.cell 2 rfl
          have b3 := B.cell 3 rfl
          have b4 := B.cell 4 rfl
          have b5 := B.cell 5 rfl
          have b6 := B.cell 6 rfl
          go_wp2_with fail
          refine (meet_any _ _ _ _ _ _ _ _ _ _ _ _ _ _ _ _ _ _ _ _ _ _ _ _ _ _ _ ssl Nsl ssh Nsh srl Nrl srh Nrh).mono ?_
          rintro e w5 ⟨⟨y, yli, ylo, yla, yln, ylc, yll, yhi, yho, yha, yhn, yhc, yhl⟩, rfl, hy, ⟨syl, Nyl, syh, Nyh⟩, hbw5⟩
          clear a0 a1 a2 a3 a4 a5 a6 b0 b1 b2 b3 b4 b5 b6
          replace A := A.after hbw5
          replace B := B.after hbw5
          replace srl := srl.after hbw5
          replace srh := srh.after hbw5
          replace ssl := ssl.after hbw5
          replace ssh := ssh.after hbw5
          replace sb := sb.after hbw5
          replace sxl := sxl.after hbw5
          replace sxh := sxh.after hbw5
          replace X := X.after hbw5
          have hW_w5 := hW_w4.trans (hbw5.mono hW_w4.size)
          simp only [RgV.val]
          replace hy : (⟨y, ⟨yli, ylo, yll⟩, ⟨yhi, yho, yhl⟩⟩ : Rg) = _ := hy
          rw [hK2]
          have hIx : inB ⟨x, ⟨xli, xlo, xll⟩, ⟨xhi, xho, xhl⟩⟩ bl = I := by rw [hx]; exact hI
          have hIy : inB ⟨y, ⟨yli, ylo, yll⟩, ⟨yhi, yho, yhl⟩⟩ bl = I := by rw [hy]; exact hI2
          have hEx : emptyB ⟨x, ⟨xli, xlo, xll⟩, ⟨xhi, xho, xhl⟩⟩ = E := by rw [hx]; exact hE
          have hEy : emptyB ⟨y, ⟨yli, ylo, yll⟩, ⟨yhi, yho, yhl⟩⟩ = E := by rw [hy]; exact hE2
          clear hI hI2 hE hE2
          go_upto_region 5 with fail
          have f_w6 : Below w5.heap.size w5 (w5.alloc (.cells #[.int .u8 y, .bool yli, .bool ylo, .slice yla yln ylc, .bool yhi, .bool yho, .slice yha yhn yhc] 31)) := (Below.refl _ _).alloc (Nat.le_refl _) _
          replace A := A.after f_w6
          replace B := B.after f_w6
          replace srl := srl.after f_w6
          replace srh := srh.after f_w6
          replace ssl := ssl.after f_w6
          replace ssh := ssh.after f_w6
          replace sb := sb.after f_w6
          replace sxl := sxl.after f_w6
          replace sxh := sxh.after f_w6
          replace X := X.after f_w6
          replace syl := syl.after f_w6
          replace syh := syh.after f_w6
          have Y := Box.new w5 31 #[.int .u8 y, .bool yli, .bool ylo, .slice yla yln ylc, .bool yhi, .bool yho, .slice yha yhn yhc]
          have hW_w6 := hW_w5.trans (f_w6.mono hW_w5.size)
          generalize hg_w6 : w5.alloc (.cells #[.int .u8 y, .bool yli, .bool ylo, .slice yla yln ylc, .bool yhi, .bool yho, .slice yha yhn yhc] 31) = w6 at *
          clear hg_w6
          refine wp_region_made w6.heap.size w6 rfl (by kernel_rfl) (Below.refl _ _) ?_
          refine wpQ_run rfl (.bool K) (fun w' hw' => by simp [go_sem]) ?_
          simp only [Act.put, List.setIfInBounds_toArray, List.set_cons_zero, List.set_cons_succ]
          refine wpQ_run rfl (.bool K) (fun w' hw' => by simp [go_sem]) ?_
          simp only [Act.put, List.setIfInBounds_toArray, List.set_cons_zero, List.set_cons_succ]
          refine wpQ_run rfl (.bool false) (fun w' hw' => by simp [go_sem]) ?_
          simp only [Act.put, List.setIfInBounds_toArray, List.set_cons_zero, List.set_cons_succ]
          refine wpQ_run rfl (.bool false) (fun w' hw' => by simp [go_sem]) ?_
          simp only [Act.put, List.setIfInBounds_toArray, List.set_cons_zero, List.set_cons_succ]
          refine wpQ_load_box rfl 31 _ rfl X (by rfl) X.lt Tryd.underlying31 rfl (by kernel_rfl) ?_
          simp only [Act.put, List.setIfInBounds_toArray, List.set_cons_zero, List.set_cons_succ]
          refine wpQ_run rfl (.slice ba bn bc) (fun w' hw' => by simp [go_sem]) ?_
          simp only [Act.put, List.setIfInBounds_toArray, List.set_cons_zero, List.set_cons_succ]
          refine wpQ_callB rfl 16 #[.agg #[.int .u8 x, .bool xli, .bool xlo, .slice xla xln xlc, .bool xhi, .bool xho, .slice xha xhn xhc], .slice ba bn bc] (fun w' => by simp [go_sem]) (.bool I) (Nat.le_refl _) (fun w' h' => hIx ▸ in_any _ _ _ _ _ _ _ _ _ _ _ _ _ _ _ _ _ _ (sxl.after h') Nxl (sxh.after h') Nxh (sb.after h') Nb) ?_
          simp only [Act.put, List.setIfInBounds_toArray, List.set_cons_zero, List.set_cons_succ]
          refine wpQ_load_box rfl 31 _ rfl Y (by rfl) Y.lt Tryd.underlying31 rfl (by kernel_rfl) ?_
          simp only [Act.put, List.setIfInBounds_toArray, List.set_cons_zero, List.set_cons_succ]
          refine wpQ_run rfl (.slice ba bn bc) (fun w' hw' => by simp [go_sem]) ?_
          simp only [Act.put, List.setIfInBounds_toArray, List.set_cons_zero, List.set_cons_succ]
          refine wpQ_callB rfl 16 #[.agg #[.int .u8 y, .bool yli, .bool ylo, .slice yla yln ylc, .bool yhi, .bool yho, .slice yha yhn yhc], .slice ba bn bc] (fun w' => by simp [go_sem]) (.bool I) (Nat.le_refl _) (fun w' h' => hIy ▸ in_any _ _ _ _ _ _ _ _ _ _ _ _ _ _ _ _ _ _ (syl.after h') Nyl (syh.after h') Nyh (sb.after h') Nb) ?_
          simp only [Act.put, List.setIfInBounds_toArray, List.set_cons_zero, List.set_cons_succ]
          refine wpQ_run rfl (.bool false) (fun w' hw' => by simp [go_sem]) ?_
          simp only [Act.put, List.setIfInBounds_toArray, List.set_cons_zero, List.set_cons_succ]
          refine wpQ_run rfl (.bool false) (fun w' hw' => by simp [go_sem]) ?_
          simp only [Act.put, List.setIfInBounds_toArray, List.set_cons_zero, List.set_cons_succ]
          refine wpQ_run rfl (.bool false) (fun w' hw' => by simp [go_sem]) ?_
          simp only [Act.put, List.setIfInBounds_toArray, List.set_cons_zero, List.set_cons_succ]
          refine wpQ_load_box rfl 31 _ rfl X (by rfl) X.lt Tryd.underlying31 rfl (by kernel_rfl) ?_
          simp only [Act.put, List.setIfInBounds_toArray, List.set_cons_zero, List.set_cons_succ]
          refine wpQ_callB rfl 18 #[.agg #[.int .u8 x, .bool xli, .bool xlo, .slice xla xln xlc, .bool xhi, .bool xho, .slice xha xhn xhc]] (fun w' => by simp [go_sem]) (.bool E) (Nat.le_refl _) (fun w' h' => hEx ▸ empty_any _ _ _ _ _ _ _ _ _ _ _ _ _ _ (sxl.after h') Nxl (sxh.after h') Nxh) ?_
          simp only [Act.put, List.setIfInBounds_toArray, List.set_cons_zero, List.set_cons_succ]
          refine wpQ_load_box rfl 31 _ rfl Y (by rfl) Y.lt Tryd.underlying31 rfl (by kernel_rfl) ?_
          simp only [Act.put, List.setIfInBounds_toArray, List.set_cons_zero, List.set_cons_succ]
          refine wpQ_callB rfl 18 #[.agg #[.int .u8 y, .bool yli, .bool ylo, .slice yla yln ylc, .bool yhi, .bool yho, .slice yha yhn yhc]] (fun w' => by simp [go_sem]) (.bool E) (Nat.le_refl _) (fun w' h' => hEy ▸ empty_any _ _ _ _ _ _ _ _ _ _ _ _ _ _ (syl.after h') Nyl (syh.after h') Nyh) ?_
          simp only [Act.put, List.setIfInBounds_toArray, List.set_cons_zero, List.set_cons_succ]
          refine wpQ_run rfl (.bool false) (fun w' hw' => by simp [go_sem]) ?_
          simp only [Act.put, List.setIfInBounds_toArray, List.set_cons_zero, List.set_cons_succ]
          refine wpQ_run rfl (.bool false) (fun w' hw' => by simp [go_sem]) ?_
          simp only [Act.put, List.setIfInBounds_toArray, List.set_cons_zero, List.set_cons_succ]
          refine wpQ_nil ?_
          intro w7 hbw7
          replace A := A.after hbw7
          replace B := B.after hbw7
          replace srl := srl.after hbw7
          replace srh := srh.after hbw7
          replace ssl := ssl.after hbw7
          replace ssh := ssh.after hbw7
          replace sb := sb.after hbw7
          replace sxl := sxl.after hbw7
          replace sxh := sxh.after hbw7
          replace X := X.after hbw7
          replace syl := syl.after hbw7
          replace syh := syh.after hbw7
          replace Y := Y.after hbw7
          have hW_w7 := hW_w6.trans (hbw7.mono hW_w6.size)
          have a0 := A.cell 0 rfl
          have a1 := A.cell 1 rfl
          have a2 := A.cell 2 rfl
          have a3 := A.cell 3 rfl
          have a4 := A.cell 4 rfl
          have a5 := A.cell 5 rfl
          have a6 := A.cell 6 rfl
          go_upto_region 8 with fail
          clear a0 a1 a2 a3 a4 a5 a6
          have f_w8 : Below w7.heap.size w7 (w7.alloc (.cells #[.int .u8 r, .bool false, .bool false, .slice none 0 0, .bool false, .bool false, .slice none 0 0] 31)) := (Below.refl _ _).alloc (Nat.le_refl _) _
          replace A := A.after f_w8
          replace B := B.after f_w8
          replace srl := srl.after f_w8
          replace srh := srh.after f_w8
          replace ssl := ssl.after f_w8
          replace ssh := ssh.after f_w8
          replace sb := sb.after f_w8
          replace sxl := sxl.after f_w8
          replace sxh := sxh.after f_w8
          replace X := X.after f_w8
          replace syl := syl.after f_w8
          replace syh := syh.after f_w8
          replace Y := Y.after f_w8
          have Z := Box.new w7 31 #[.int .u8 r, .bool false, .bool false, .slice none 0 0, .bool false, .bool false, .slice none 0 0]
          have hW_w8 := hW_w7.trans (f_w8.mono hW_w7.size)
          generalize hg_w8 : w7.alloc (.cells #[.int .u8 r, .bool false, .bool false, .slice none 0 0, .bool false, .bool false, .slice none 0 0] 31) = w8 at *
          clear hg_w8
        · rw [Bool.false_and] at hQ
          refine wp_region_made w8.heap.size w8 rfl (by kernel_rfl) (Below.refl _ _) ?_
          refine wpQ_load_box rfl 31 _ rfl Z (by rfl) Z.lt Tryd.underlying31 rfl (by kernel_rfl) ?_
          simp only [Act.put, List.setIfInBounds_toArray, List.set_cons_zero, List.set_cons_succ]
          refine wpQ_run rfl (.slice ba bn bc) (fun w' hw' => by simp [go_sem]) ?_
          simp only [Act.put, List.setIfInBounds_toArray, List.set_cons_zero, List.set_cons_succ]
          refine wpQ_callB rfl 16 #[.agg #[.int .u8 r, .bool false, .bool false, .slice none 0 0, .bool false, .bool false, .slice none 0 0], .slice ba bn bc] (fun w' => by simp [go_sem]) (.bool false) (Nat.le_refl _) (fun w' h' => by have hh := in_any r false false none 0 0 [] false false none 0 0 [] ba bn bc bl w' (sl_nil w') (by decide) (sl_nil w') (by decide) (sb.after h') Nb; rw [hQ] at hh; exact hh) ?_
          simp only [Act.put, List.setIfInBounds_toArray, List.set_cons_zero, List.set_cons_succ]
          refine wpQ_load_box rfl 31 _ rfl Z (by rfl) Z.lt Tryd.underlying31 rfl (by kernel_rfl) ?_
          simp only [Act.put, List.setIfInBounds_toArray, List.set_cons_zero, List.set_cons_succ]
          refine wpQ_callB rfl 15 #[.agg #[.int .u8 r, .bool false, .bool false, .slice none 0 0, .bool false, .bool false, .slice none 0 0]] (fun w' => by simp [go_sem]) (.bool false) (Nat.le_refl _) (fun w' h' => by have hh := refMay_any r false false none 0 0 [] false false none 0 0 [] w' (sl_nil w') (by decide) (sl_nil w') (by decide); rw [hMa] at hh; exact hh) ?_
          simp only [Act.put, List.setIfInBounds_toArray, List.set_cons_zero, List.set_cons_succ]
          refine wpQ_run rfl (.bool false) (fun w' hw' => by simp [go_sem]) ?_
          simp only [Act.put, List.setIfInBounds_toArray, List.set_cons_zero, List.set_cons_succ]
          refine wpQ_skip rfl ?_
          simp only [Act.put, List.setIfInBounds_toArray, List.set_cons_zero, List.set_cons_succ]
          refine wpQ_skip rfl ?_
          simp only [Act.put, List.setIfInBounds_toArray, List.set_cons_zero, List.set_cons_succ]
          refine wpQ_skip rfl ?_
          simp only [Act.put, List.setIfInBounds_toArray, List.set_cons_zero, List.set_cons_succ]
          refine wpQ_skip rfl ?_
          simp only [Act.put, List.setIfInBounds_toArray, List.set_cons_zero, List.set_cons_succ]
          refine wpQ_run rfl (.bool false) (fun w' hw' => by simp [go_sem]) ?_
          simp only [Act.put, List.setIfInBounds_toArray, List.set_cons_zero, List.set_cons_succ]
          refine wpQ_run rfl (.bool true) (fun w' hw' => by simp [go_sem]) ?_
          simp only [Act.put, List.setIfInBounds_toArray, List.set_cons_zero, List.set_cons_succ]
          refine wpQ_run rfl (.bool true) (fun w' hw' => by simp [go_sem]) ?_
          simp only [Act.put, List.setIfInBounds_toArray, List.set_cons_zero, List.set_cons_succ]
          refine wpQ_load_box rfl 31 _ rfl A (by rfl) A.lt Tryd.underlying31 rfl (by kernel_rfl) ?_
          simp only [Act.put, List.setIfInBounds_toArray, List.set_cons_zero, List.set_cons_succ]
          refine wpQ_load_box rfl 31 _ rfl Z (by rfl) Z.lt Tryd.underlying31 rfl (by kernel_rfl) ?_
          simp only [Act.put, List.setIfInBounds_toArray, List.set_cons_zero, List.set_cons_succ]
          refine wpQ_callB rfl 20 #[.agg #[.int .u8 r, .bool rli, .bool rlo, .slice rla rln rlc, .bool rhi, .bool rho, .slice rha rhn rhc], .agg #[.int .u8 r, .bool false, .bool false, .slice none 0 0, .bool false, .bool false, .slice none 0 0]] (fun w' => by simp [go_sem]) (.bool M) (Nat.le_refl _) (fun w' h' => by have hh := within_any r rli rlo rla rln rlc rll rhi rho rha rhn rhc rhl r false false none 0 0 [] false false none 0 0 [] w' (srl.after h') Nrl (srh.after h') Nrh (sl_nil w') (by decide) (sl_nil w') (by decide); rw [hWa] at hh; exact hh) ?_
          simp only [Act.put, List.setIfInBounds_toArray, List.set_cons_zero, List.set_cons_succ]
          refine wpQ_load_box rfl 31 _ rfl A (by rfl) A.lt Tryd.underlying31 rfl (by kernel_rfl) ?_
          simp only [Act.put, List.setIfInBounds_toArray, List.set_cons_zero, List.set_cons_succ]
          refine wpQ_callB rfl 15 #[.agg #[.int .u8 r, .bool rli, .bool rlo, .slice rla rln rlc, .bool rhi, .bool rho, .slice rha rhn rhc]] (fun w' => by simp [go_sem]) (.bool M) (Nat.le_refl _) (fun w' h' => hM ▸ refMay_any _ _ _ _ _ _ _ _ _ _ _ _ _ _ (srl.after h') Nrl (srh.after h') Nrh) ?_
          simp only [Act.put, List.setIfInBounds_toArray, List.set_cons_zero, List.set_cons_succ]
          refine wpQ_run rfl (.bool true) (fun w' hw' => by simp [go_sem]) ?_
          simp only [Act.put, List.setIfInBounds_toArray, List.set_cons_zero, List.set_cons_succ]
          refine wpQ_run rfl (.bool true) (fun w' hw' => by simp [go_sem]) ?_
          simp only [Act.put, List.setIfInBounds_toArray, List.set_cons_zero, List.set_cons_succ]
          refine wpQ_run rfl (.bool true) (fun w' hw' => by simp [go_sem]) ?_
          simp only [Act.put, List.setIfInBounds_toArray, List.set_cons_zero, List.set_cons_succ]
          refine wpQ_callB rfl 8 #[] (fun w' => by simp [go_sem]) (.bool true) (Nat.le_refl _) (fun w' h' => awake_any _) ?_
          simp only [Act.put, List.setIfInBounds_toArray, List.set_cons_zero, List.set_cons_succ]
          refine wpQ_run rfl (.bool true) (fun w' hw' => by simp [go_sem]) ?_
          simp only [Act.put, List.setIfInBounds_toArray, List.set_cons_zero, List.set_cons_succ]
          refine wpQ_run rfl (.bool true) (fun w' hw' => by simp [go_sem]) ?_
          simp only [Act.put, List.setIfInBounds_toArray, List.set_cons_zero, List.set_cons_succ]
          refine wpQ_nil ?_
          intro w9 hb9
          have hW9 := hW_w8.trans (hb9.mono hW_w8.size)
          go_wp2_with fail
          go_ret
          exact ⟨rfl, hW9⟩
        · rw [Bool.true_and] at hQ
          refine wp_region_made w8.heap.size w8 rfl (by kernel_rfl) (Below.refl _ _) ?_
          refine wpQ_load_box rfl 31 _ rfl Z (by rfl) Z.lt Tryd.underlying31 rfl (by kernel_rfl) ?_
          simp only [Act.put, List.setIfInBounds_toArray, List.set_cons_zero, List.set_cons_succ]
          refine wpQ_run rfl (.slice ba bn bc) (fun w' hw' => by simp [go_sem]) ?_
          simp only [Act.put, List.setIfInBounds_toArray, List.set_cons_zero, List.set_cons_succ]
          refine wpQ_callB rfl 16 #[.agg #[.int .u8 r, .bool false, .bool false, .slice none 0 0, .bool false, .bool false, .slice none 0 0], .slice ba bn bc] (fun w' => by simp [go_sem]) (.bool V) (Nat.le_refl _) (fun w' h' => by have hh := in_any r false false none 0 0 [] false false none 0 0 [] ba bn bc bl w' (sl_nil w') (by decide) (sl_nil w') (by decide) (sb.after h') Nb; rw [hQ] at hh; exact hh) ?_
          simp only [Act.put, List.setIfInBounds_toArray, List.set_cons_zero, List.set_cons_succ]
          refine wpQ_load_box rfl 31 _ rfl Z (by rfl) Z.lt Tryd.underlying31 rfl (by kernel_rfl) ?_
          simp only [Act.put, List.setIfInBounds_toArray, List.set_cons_zero, List.set_cons_succ]
          refine wpQ_callB rfl 15 #[.agg #[.int .u8 r, .bool false, .bool false, .slice none 0 0, .bool false, .bool false, .slice none 0 0]] (fun w' => by simp [go_sem]) (.bool true) (Nat.le_refl _) (fun w' h' => by have hh := refMay_any r false false none 0 0 [] false false none 0 0 [] w' (sl_nil w') (by decide) (sl_nil w') (by decide); rw [hMa] at hh; exact hh) ?_
          simp only [Act.put, List.setIfInBounds_toArray, List.set_cons_zero, List.set_cons_succ]
          refine wpQ_run rfl (.bool true) (fun w' hw' => by simp [go_sem]) ?_
          simp only [Act.put, List.setIfInBounds_toArray, List.set_cons_zero, List.set_cons_succ]
          refine wpQ_run rfl (.pointer (some ⟨w.heap.size, 0, none⟩)) (fun w' hw' => by simp [go_sem]) ?_
          simp only [Act.put, List.setIfInBounds_toArray, List.set_cons_zero, List.set_cons_succ]
          refine wpQ_run rfl (.int .u8 r) (fun w' hw' => by simp [go_sem, (A.after hw').cell 0 rfl]) ?_
          simp only [Act.put, List.setIfInBounds_toArray, List.set_cons_zero, List.set_cons_succ]
          refine wpQ_run rfl (.slice ba bn bc) (fun w' hw' => by simp [go_sem]) ?_
          simp only [Act.put, List.setIfInBounds_toArray, List.set_cons_zero, List.set_cons_succ]
          refine wpQ_callB rfl 11 #[.int .u8 r, .slice ba bn bc] (fun w' => by simp [go_sem]) (.bool V) (Nat.le_refl _) (fun w' h' => hV ▸ is_any _ _ _ _ _ _ (sb.after h') Nb) ?_
          simp only [Act.put, List.setIfInBounds_toArray, List.set_cons_zero, List.set_cons_succ]
          refine wpQ_run rfl (.bool V) (fun w' hw' => by simp [go_sem]) ?_
          simp only [Act.put, List.setIfInBounds_toArray, List.set_cons_zero, List.set_cons_succ]
          refine wpQ_run rfl (.bool true) (fun w' hw' => by simp [go_sem]) ?_
          simp only [Act.put, List.setIfInBounds_toArray, List.set_cons_zero, List.set_cons_succ]
          refine wpQ_run rfl (.bool true) (fun w' hw' => by simp [go_sem]) ?_
          simp only [Act.put, List.setIfInBounds_toArray, List.set_cons_zero, List.set_cons_succ]
          refine wpQ_load_box rfl 31 _ rfl A (by rfl) A.lt Tryd.underlying31 rfl (by kernel_rfl) ?_
          simp only [Act.put, List.setIfInBounds_toArray, List.set_cons_zero, List.set_cons_succ]
          refine wpQ_load_box rfl 31 _ rfl Z (by rfl) Z.lt Tryd.underlying31 rfl (by kernel_rfl) ?_
          simp only [Act.put, List.setIfInBounds_toArray, List.set_cons_zero, List.set_cons_succ]
          refine wpQ_callB rfl 20 #[.agg #[.int .u8 r, .bool rli, .bool rlo, .slice rla rln rlc, .bool rhi, .bool rho, .slice rha rhn rhc], .agg #[.int .u8 r, .bool false, .bool false, .slice none 0 0, .bool false, .bool false, .slice none 0 0]] (fun w' => by simp [go_sem]) (.bool M) (Nat.le_refl _) (fun w' h' => by have hh := within_any r rli rlo rla rln rlc rll rhi rho rha rhn rhc rhl r false false none 0 0 [] false false none 0 0 [] w' (srl.after h') Nrl (srh.after h') Nrh (sl_nil w') (by decide) (sl_nil w') (by decide); rw [hWa] at hh; exact hh) ?_
          simp only [Act.put, List.setIfInBounds_toArray, List.set_cons_zero, List.set_cons_succ]
          refine wpQ_load_box rfl 31 _ rfl A (by rfl) A.lt Tryd.underlying31 rfl (by kernel_rfl) ?_
          simp only [Act.put, List.setIfInBounds_toArray, List.set_cons_zero, List.set_cons_succ]
          refine wpQ_callB rfl 15 #[.agg #[.int .u8 r, .bool rli, .bool rlo, .slice rla rln rlc, .bool rhi, .bool rho, .slice rha rhn rhc]] (fun w' => by simp [go_sem]) (.bool M) (Nat.le_refl _) (fun w' h' => hM ▸ refMay_any _ _ _ _ _ _ _ _ _ _ _ _ _ _ (srl.after h') Nrl (srh.after h') Nrh) ?_
          simp only [Act.put, List.setIfInBounds_toArray, List.set_cons_zero, List.set_cons_succ]
          refine wpQ_run rfl (.bool true) (fun w' hw' => by simp [go_sem]) ?_
          simp only [Act.put, List.setIfInBounds_toArray, List.set_cons_zero, List.set_cons_succ]
          refine wpQ_run rfl (.bool true) (fun w' hw' => by simp [go_sem]) ?_
          simp only [Act.put, List.setIfInBounds_toArray, List.set_cons_zero, List.set_cons_succ]
          refine wpQ_run rfl (.bool true) (fun w' hw' => by simp [go_sem]) ?_
          simp only [Act.put, List.setIfInBounds_toArray, List.set_cons_zero, List.set_cons_succ]
          refine wpQ_callB rfl 8 #[] (fun w' => by simp [go_sem]) (.bool true) (Nat.le_refl _) (fun w' h' => awake_any _) ?_
          simp only [Act.put, List.setIfInBounds_toArray, List.set_cons_zero, List.set_cons_succ]
          refine wpQ_run rfl (.bool true) (fun w' hw' => by simp [go_sem]) ?_
          simp only [Act.put, List.setIfInBounds_toArray, List.set_cons_zero, List.set_cons_succ]
          refine wpQ_run rfl (.bool true) (fun w' hw' => by simp [go_sem]) ?_
          simp only [Act.put, List.setIfInBounds_toArray, List.set_cons_zero, List.set_cons_succ]
          refine wpQ_nil ?_
          intro w9 hb9
          have hW9 := hW_w8.trans (hb9.mono hW_w8.size)
          go_wp2_with fail
          go_ret
          exact ⟨rfl, hW9⟩
      · have m2 : (200 : Int) < bn := by omega
        clear n2
        go_enter Tryd.func7, Tryd.ntmps7
        go_wp2_with fail
        refine (great_any _ _ _ _ _ _ _ _ _ _ _ _).mono ?_
        rintro e w1 ⟨rfl, hbw1⟩
        rw [hG]
        replace A := A.after hbw1
        replace B := B.after hbw1
        replace srl := srl.after hbw1
        replace srh := srh.after hbw1
        replace ssl := ssl.after hbw1
        replace ssh := ssh.after hbw1
        replace sb := sb.after hbw1
        have hW_w1 := hb0.trans (hbw1.mono hb0.size)
        have b0 := B.cell 0 rfl
        have b1 := B.cell 1 rfl
        have b2 := B.cell 2 rfl
        have b3 := B.cell 3 rfl
        have b4 := B.cell 4 rfl
        have b5 := B.cell 5 rfl
        have b6 := B.cell 6 rfl
        go_wp2_with fail
        refine (great_any _ _ _ _ _ _ _ _ _ _ _ _).mono ?_
        rintro e w2 ⟨rfl, hbw2⟩
        rw [hH]
        clear b0 b1 b2 b3 b4 b5 b6
        replace A := A.after hbw2
        replace B := B.after hbw2
        replace srl := srl.after hbw2
        replace srh := srh.after hbw2
        replace ssl := ssl.after hbw2
        replace ssh := ssh.after hbw2
        replace sb := sb.after hbw2
        have hW_w2 := hW_w1.trans (hbw2.mono hW_w1.size)
        go_wp2_with fail
        refine (awake_any _).mono ?_
        rintro e wz ⟨rfl, hbz⟩
        go_wp2_with fail
        go_ret
        exact ⟨rfl, hW_w2.trans (hbz.mono hW_w2.size)⟩
    · go_enter Tryd.func7, Tryd.ntmps7
      go_wp2_with fail
      refine (great_any _ _ _ _ _ _ _ _ _ _ _ _).mono ?_
      rintro e w1 ⟨rfl, hbw1⟩
      rw [hG]
      replace A := A.after hbw1
      replace B := B.after hbw1
      replace srl := srl.after hbw1
      replace srh := srh.after hbw1
      replace ssl := ssl.after hbw1
      replace ssh := ssh.after hbw1
      replace sb := sb.after hbw1
      have hW_w1 := hb0.trans (hbw1.mono hb0.size)
      have b0 := B.cell 0 rfl
      have b1 := B.cell 1 rfl
      have b2 := B.cell 2 rfl
      have b3 := B.cell 3 rfl
      have b4 := B.cell 4 rfl
      have b5 := B.cell 5 rfl
      have b6 := B.cell 6 rfl
      go_wp2_with fail
      refine (great_any _ _ _ _ _ _ _ _ _ _ _ _).mono ?_
      rintro e w2 ⟨rfl, hbw2⟩
      rw [hH]
      clear b0 b1 b2 b3 b4 b5 b6
      replace A := A.after hbw2
      replace B := B.after hbw2
      replace srl := srl.after hbw2
      replace srh := srh.after hbw2
      replace ssl := ssl.after hbw2
      replace ssh := ssh.after hbw2
      replace sb := sb.after hbw2
      have hW_w2 := hW_w1.trans (hbw2.mono hW_w1.size)
      go_wp2_with fail
      refine (awake_any _).mono ?_
      rintro e wz ⟨rfl, hbz⟩
      go_wp2_with fail
      go_ret
      exact ⟨rfl, hW_w2.trans (hbz.mono hW_w2.size)⟩
  · go_enter Tryd.func7, Tryd.ntmps7
    go_wp2_with fail
    refine (great_any _ _ _ _ _ _ _ _ _ _ _ _).mono ?_
    rintro e w1 ⟨rfl, hbw1⟩
    rw [hG]
    replace A := A.after hbw1
    replace B := B.after hbw1
    replace srl := srl.after hbw1
    replace srh := srh.after hbw1
    replace ssl := ssl.after hbw1
    replace ssh := ssh.after hbw1
    replace sb := sb.after hbw1
    have hW_w1 := hb0.trans (hbw1.mono hb0.size)
    go_wp2_with fail
    refine (awake_any _).mono ?_
    rintro e wz ⟨rfl, hbz⟩
    go_wp2_with fail
    go_ret
    exact ⟨rfl, hW_w1.trans (hbz.mono hW_w1.size)⟩

end Go.Proofs.YtoadpeigomkgiaaDoor

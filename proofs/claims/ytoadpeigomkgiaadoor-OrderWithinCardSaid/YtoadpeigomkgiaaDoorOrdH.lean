/- OrderWithin: the walk. -/
import Derived.Test.YtoadpeigomkgiaaDoorOrdQ
namespace Go.Proofs.YtoadpeigomkgiaaDoor
open Go.RowKit

attribute [local irreducible] wpQuiet

set_option maxHeartbeats 20000000 in
set_option maxRecDepth 100000 in
theorem OrderWithin_walk (r : Nat) (rli rlo : Bool) (rla : Option Addr) (rln rlc : Nat) (rll : List UInt8) (rhi rho : Bool) (rha : Option Addr) (rhn rhc : Nat) (rhl : List UInt8) (s : Nat) (sli slo : Bool) (sla : Option Addr) (sln slc : Nat) (sll : List UInt8) (shi sho : Bool) (sha : Option Addr) (shn shc : Nat) (shl : List UInt8) (ba : Option Addr) (bn bc : Nat) (z : List Int) (w : World) (srl : Sl w rla rln rlc rll) (srh : Sl w rha rhn rhc rhl) (ssl : Sl w sla sln slc sll) (ssh : Sl w sha shn shc shl) (wb : IsRow .u8 w ba bn bc z) :
    Calls Tryd.prog 5 #[.agg #[.int .u8 r, .bool rli, .bool rlo, .slice rla rln rlc, .bool rhi, .bool rho, .slice rha rhn rhc], .agg #[.int .u8 s, .bool sli, .bool slo, .slice sla sln slc, .bool shi, .bool sho, .slice sha shn shc], .slice ba bn bc] w fun e w' => e = .returned (.bool true) ∧ Below w.heap.size w w' := by
  obtain ⟨bl, sb⟩ := wb.sl
  clear wb
  have hb0 : Below w.heap.size w ((w.alloc (.cells #[.int .u8 r, .bool rli, .bool rlo, .slice rla rln rlc, .bool rhi, .bool rho, .slice rha rhn rhc] 31)).alloc (.cells #[.int .u8 s, .bool sli, .bool slo, .slice sla sln slc, .bool shi, .bool sho, .slice sha shn shc] 31)) := ((Below.refl _ _).alloc (Nat.le_refl _) _).alloc (by simp) _
  have A : Box ((w.alloc (.cells #[.int .u8 r, .bool rli, .bool rlo, .slice rla rln rlc, .bool rhi, .bool rho, .slice rha rhn rhc] 31)).alloc (.cells #[.int .u8 s, .bool sli, .bool slo, .slice sla sln slc, .bool shi, .bool sho, .slice sha shn shc] 31)) w.heap.size 31 #[.int .u8 r, .bool rli, .bool rlo, .slice rla rln rlc, .bool rhi, .bool rho, .slice rha rhn rhc] := (Box.new _ _ _).alloc _
  have B : Box ((w.alloc (.cells #[.int .u8 r, .bool rli, .bool rlo, .slice rla rln rlc, .bool rhi, .bool rho, .slice rha rhn rhc] 31)).alloc (.cells #[.int .u8 s, .bool sli, .bool slo, .slice sla sln slc, .bool shi, .bool sho, .slice sha shn shc] 31)) (w.heap.size + 1) 31 #[.int .u8 s, .bool sli, .bool slo, .slice sla sln slc, .bool shi, .bool sho, .slice sha shn shc] := box_at (by simp)
  replace srl := srl.after hb0
  replace srh := srh.after hb0
  replace ssl := ssl.after hb0
  replace ssh := ssh.after hb0
  replace sb := sb.after hb0
  cases hG : (decide (200 < rln) || decide (200 < rhn))
  · cases hH : (decide (200 < sln) || decide (200 < shn))
    · have hG' := hG
      have hH' := hH
      rw [Bool.or_eq_false_iff, decide_eq_false_iff_not, decide_eq_false_iff_not] at hG' hH'
      obtain ⟨g1, g2⟩ := hG'
      obtain ⟨g3, g4⟩ := hH'
      have Nrl : rln ≤ 200 := by omega
      have Nrh : rhn ≤ 200 := by omega
      have Nsl : sln ≤ 200 := by omega
      have Nsh : shn ≤ 200 := by omega
      clear g1 g2 g3 g4
      by_cases n2 : bn ≤ 200
      · have Nb := n2
        have m2 : (bn : Int) ≤ 200 := by omega
        clear n2
        obtain ⟨K, hK⟩ : ∃ K, okB ⟨r, ⟨rli, rlo, rll⟩, ⟨rhi, rho, rhl⟩⟩ ⟨s, ⟨sli, slo, sll⟩, ⟨shi, sho, shl⟩⟩ = K := ⟨_, rfl⟩
        obtain ⟨I, hI⟩ : ∃ I, inB ⟨r, ⟨rli, rlo, rll⟩, ⟨rhi, rho, rhl⟩⟩ bl = I := ⟨_, rfl⟩
        obtain ⟨J, hJ⟩ : ∃ J, inB ⟨s, ⟨sli, slo, sll⟩, ⟨shi, sho, shl⟩⟩ bl = J := ⟨_, rfl⟩
        obtain ⟨V, hV⟩ : ∃ V, withinB ⟨r, ⟨rli, rlo, rll⟩, ⟨rhi, rho, rhl⟩⟩ ⟨s, ⟨sli, slo, sll⟩, ⟨shi, sho, shl⟩⟩ = V := ⟨_, rfl⟩
        obtain ⟨E, hE⟩ : ∃ E, emptyB ⟨r, ⟨rli, rlo, rll⟩, ⟨rhi, rho, rhl⟩⟩ = E := ⟨_, rfl⟩
        cases K
        · have hVf : V = false := by rw [← hV]; exact within_no _ _ hK
          subst hVf
          go_enter Tryd.func5, Tryd.ntmps5
          go_wp2_with fail
          refine (great_any _ _ _ _ _ _ _ _ _ _ _ _).mono ?_
          rintro e w1 ⟨rfl, hbw1⟩
          rw [hG]
          replace A := A.after hbw1
          replace B := B.after hbw1
          replace srl := srl.after hbw1
          replace srh := srh.after hbw1
          replace ssl := ssl.after hbw1
          replace ssh := ssh.after hbw1
          replace sb := sb.after hbw1
          have hW_w1 := hb0.trans (hbw1.mono hb0.size)
          have b0 := B.cell 0 rfl
          have b1 := B.cell 1 rfl
          have b2 := B.cell 2 rfl
          have b3 := B.cell 3 rfl
          have b4 := B.cell 4 rfl
          have b5 := B.cell 5 rfl
          have b6 := B.cell 6 rfl
          go_wp2_with fail
          refine (great_any _ _ _ _ _ _ _ _ _ _ _ _).mono ?_
          rintro e w2 ⟨rfl, hbw2⟩
          rw [hH]
          clear b0 b1 b2 b3 b4 b5 b6
          replace A := A.after hbw2
          replace B := B.after hbw2
          replace srl := srl.after hbw2
          replace srh := srh.after hbw2
          replace ssl := ssl.after hbw2
          replace ssh := ssh.after hbw2
          replace sb := sb.after hbw2
          have hW_w2 := hW_w1.trans (hbw2.mono hW_w1.size)
          have a0 := A.cell 0 rfl
          have a1 := A.cell 1 rfl
          have a2 := A.cell 2 rfl
          have a3 := A.cell 3 rfl
          have a4 := A.cell 4 rfl
          have a5 := A.cell 5 rfl
          have a6 := A.cell 6 rfl
          have b0 := B.cell 0 rfl
          have b1 := B.cell 1 rfl
          have b2 := B.cell 2 rfl
          have b3 := B.cell 3 rfl
          have b4 := B.cell 4 rfl
          have b5 := B.cell 5 rfl
          have b6 := B.cell 6 rfl
          go_wp2_with fail
          refine (within_any _ _ _ _ _ _ _ _ _ _ _ _ _ _ _ _ _ _ _ _ _ _ _ _ _ _ _ srl Nrl srh Nrh ssl Nsl ssh Nsh).mono ?_
          rintro e w3 ⟨rfl, hbw3⟩
          rw [hV]
          clear a0 a1 a2 a3 a4 a5 a6 b0 b1 b2 b3 b4 b5 b6
          replace A := A.after hbw3
          replace B := B.after hbw3
          replace srl := srl.after hbw3
          replace srh := srh.after hbw3
          replace ssl := ssl.after hbw3
          replace ssh := ssh.after hbw3
          replace sb := sb.after hbw3
          have hW_w3 := hW_w2.trans (hbw3.mono hW_w2.size)
          have a0 := A.cell 0 rfl
          have a1 := A.cell 1 rfl
          have a2 := A.cell 2 rfl
          have a3 := A.cell 3 rfl
          have a4 := A.cell 4 rfl
          have a5 := A.cell 5 rfl
          have a6 := A.cell 6 rfl
          have b0 := B.cell 0 rfl
          have b1 := B.cell 1 rfl
          have b2 := B.cell 2 rfl
          have b3 := B.cell 3 rfl
          have b4 := B.cell 4 rfl
          have b5 := B.cell 5 rfl
          have b6 := B.cell 6 rfl
          go_wp2_with fail
          refine (refMeet_any _ _ _ _ _ _ _ _ _ _ _ _ _ _ _ _ _ _ _ _ _ _ _ _ _ _ _ srl Nrl srh Nrh ssl Nsl ssh Nsh).mono ?_
          rintro e w5 ⟨⟨y, yli, ylo, yla, yln, ylc, yll, yhi, yho, yha, yhn, yhc, yhl⟩, rfl, hy, ⟨syl, Nyl, syh, Nyh⟩, hbw5⟩
          clear a0 a1 a2 a3 a4 a5 a6 b0 b1 b2 b3 b4 b5 b6
          replace A := A.after hbw5
          replace B := B.after hbw5
          replace srl := srl.after hbw5
          replace srh := srh.after hbw5
          replace ssl := ssl.after hbw5
          replace ssh := ssh.after hbw5
          replace sb := sb.after hbw5
          have hW_w5 := hW_w3.trans (hbw5.mono hW_w3.size)
          simp only [RgV.val]
          replace hy : (⟨y, ⟨yli, ylo, yll⟩, ⟨yhi, yho, yhl⟩⟩ : Rg) = _ := hy
          rw [hK]
          go_upto_region 5 with fail
          have f_w6 : Below w5.heap.size w5 (w5.alloc (.cells #[.int .u8 y, .bool yli, .bool ylo, .slice yla yln ylc, .bool yhi, .bool yho, .slice yha yhn yhc] 31)) := (Below.refl _ _).alloc (Nat.le_refl _) _
          replace A := A.after f_w6
          replace B := B.after f_w6
          replace srl := srl.after f_w6
          replace srh := srh.after f_w6
          replace ssl := ssl.after f_w6
          replace ssh := ssh.after f_w6
          replace sb := sb.after f_w6
          replace syl := syl.after f_w6
          replace syh := syh.after f_w6
          have Y := Box.new w5 31 #[.int .u8 y, .bool yli, .bool ylo, .slice yla yln ylc, .bool yhi, .bool yho, .slice yha yhn yhc]
          have hW_w6 := hW_w5.trans (f_w6.mono hW_w5.size)
          generalize hg_w6 : w5.alloc (.cells #[.int .u8 y, .bool yli, .bool ylo, .slice yla yln ylc, .bool yhi, .bool yho, .slice yha yhn yhc] 31) = w6 at *
          clear hg_w6
          go_wp2_with fail
          refine (awake_any _).mono ?_
          rintro e wz ⟨rfl, hbz⟩
          go_wp2_with fail
          go_ret
          exact ⟨rfl, hW_w6.trans (hbz.mono hW_w6.size)⟩
        · have hself := within_self _ (okB_parts hK).1
          have hWR := within_ref _ _ hK
          have hWI := within_in ⟨r, ⟨rli, rlo, rll⟩, ⟨rhi, rho, rhl⟩⟩ ⟨s, ⟨sli, slo, sll⟩, ⟨shi, sho, shl⟩⟩ bl
          obtain ⟨S, hSd⟩ : ∃ S, sameR (refMeet ⟨r, ⟨rli, rlo, rll⟩, ⟨rhi, rho, rhl⟩⟩ ⟨s, ⟨sli, slo, sll⟩, ⟨shi, sho, shl⟩⟩) ⟨r, ⟨rli, rlo, rll⟩, ⟨rhi, rho, rhl⟩⟩ = S := ⟨_, rfl⟩
          rw [hSd, hE, hV] at hWR
          rw [hV, hI, hJ] at hWI
          cases E
          · cases S
            · obtain rfl : V = false := hWR
              go_enter Tryd.func5, Tryd.ntmps5
              go_wp2_with fail
              refine (great_any _ _ _ _ _ _ _ _ _ _ _ _).mono ?_
              rintro e w1 ⟨rfl, hbw1⟩
              rw [hG]
              replace A := A.after hbw1
              replace B := B.after hbw1
              replace srl := srl.after hbw1
              replace srh := srh.after hbw1
              replace ssl := ssl.after hbw1
              replace ssh := ssh.after hbw1
              replace sb := sb.after hbw1
              have hW_w1 := hb0.trans (hbw1.mono hb0.size)
              have b0 := B.cell 0 rfl
              have b1 := B.cell 1 rfl
              have b2 := B.cell 2 rfl
              have b3 := B.cell 3 rfl
              have b4 := B.cell 4 rfl
              have b5 := B.cell 5 rfl
              have b6 := B.cell 6 rfl
              go_wp2_with fail
              refine (great_any _ _ _ _ _ _ _ _ _ _ _ _).mono ?_
              rintro e w2 ⟨rfl, hbw2⟩
              rw [hH]
              clear b0 b1 b2 b3 b4 b5 b6
              replace A := A.after hbw2
              replace B := B.after hbw2
              replace srl := srl.after hbw2
              replace srh := srh.after hbw2
              replace ssl := ssl.after hbw2
              replace ssh := ssh.after hbw2
              replace sb := sb.after hbw2
              have hW_w2 := hW_w1.trans (hbw2.mono hW_w1.size)
              have a0 := A.cell 0 rfl
              have a1 := A.cell 1 rfl
              have a2 := A.cell 2 rfl
              have a3 := A.cell 3 rfl
              have a4 := A.cell 4 rfl
              have a5 := A.cell 5 rfl
              have a6 := A.cell 6 rfl
              have b0 := B.cell 0 rfl
              have b1 := B.cell 1 rfl
              have b2 := B.cell 2 rfl
              have b3 := B.cell 3 rfl
              have b4 := B.cell 4 rfl
              have b5 := B.cell 5 rfl
              have b6 := B.cell 6 rfl
              go_wp2_with fail
              refine (within_any _ _ _ _ _ _ _ _ _ _ _ _ _ _ _ _ _ _ _ _ _ _ _ _ _ _ _ srl Nrl srh Nrh ssl Nsl ssh Nsh).mono ?_
              rintro e w3 ⟨rfl, hbw3⟩
              rw [hV]
              clear a0 a1 a2 a3 a4 a5 a6 b0 b1 b2 b3 b4 b5 b6
              replace A := A.after hbw3
              replace B := B.after hbw3
              replace srl := srl.after hbw3
              replace srh := srh.after hbw3
              replace ssl := ssl.after hbw3
              replace ssh := ssh.after hbw3
              replace sb := sb.after hbw3
              have hW_w3 := hW_w2.trans (hbw3.mono hW_w2.size)
              have a0 := A.cell 0 rfl
              have a1 := A.cell 1 rfl
              have a2 := A.cell 2 rfl
              have a3 := A.cell 3 rfl
              have a4 := A.cell 4 rfl
              have a5 := A.cell 5 rfl
              have a6 := A.cell 6 rfl
              have b0 := B.cell 0 rfl
              have b1 := B.cell 1 rfl
              have b2 := B.cell 2 rfl
              have b3 := B.cell 3 rfl
              have b4 := B.cell 4 rfl
              have b5 := B.cell 5 rfl
              have b6 := B.cell 6 rfl
              go_wp2_with fail
              refine (refMeet_any _ _ _ _ _ _ _ _ _ _ _ _ _ _ _ _ _ _ _ _ _ _ _ _ _ _ _ srl Nrl srh Nrh ssl Nsl ssh Nsh).mono ?_
              rintro e w5 ⟨⟨y, yli, ylo, yla, yln, ylc, yll, yhi, yho, yha, yhn, yhc, yhl⟩, rfl, hy, ⟨syl, Nyl, syh, Nyh⟩, hbw5⟩
              clear a0 a1 a2 a3 a4 a5 a6 b0 b1 b2 b3 b4 b5 b6
              replace A := A.after hbw5
              replace B := B.after hbw5
              replace srl := srl.after hbw5
              replace srh := srh.after hbw5
              replace ssl := ssl.after hbw5
              replace ssh := ssh.after hbw5
              replace sb := sb.after hbw5
              have hW_w5 := hW_w3.trans (hbw5.mono hW_w3.size)
              simp only [RgV.val]
              replace hy : (⟨y, ⟨yli, ylo, yll⟩, ⟨yhi, yho, yhl⟩⟩ : Rg) = _ := hy
              rw [hK]
              go_upto_region 5 with fail
              have f_w6 : Below w5.heap.size w5 (w5.alloc (.cells #[.int .u8 y, .bool yli, .bool ylo, .slice yla yln ylc, .bool yhi, .bool yho, .slice yha yhn yhc] 31)) := (Below.refl _ _).alloc (Nat.le_refl _) _
              replace A := A.after f_w6
              replace B := B.after f_w6
              replace srl := srl.after f_w6
              replace srh := srh.after f_w6
              replace ssl := ssl.after f_w6
              replace ssh := ssh.after f_w6
              replace sb := sb.after f_w6
              replace syl := syl.after f_w6
              replace syh := syh.after f_w6
              have Y := Box.new w5 31 #[.int .u8 y, .bool yli, .bool ylo, .slice yla yln ylc, .bool yhi, .bool yho, .slice yha yhn yhc]
              have hW_w6 := hW_w5.trans (f_w6.mono hW_w5.size)
              generalize hg_w6 : w5.alloc (.cells #[.int .u8 y, .bool yli, .bool ylo, .slice yla yln ylc, .bool yhi, .bool yho, .slice yha yhn yhc] 31) = w6 at *
              clear hg_w6
              have hS : sameR ⟨y, ⟨yli, ylo, yll⟩, ⟨yhi, yho, yhl⟩⟩ ⟨r, ⟨rli, rlo, rll⟩, ⟨rhi, rho, rhl⟩⟩ = false := by rw [hy]; exact hSd
              have a0 := A.cell 0 rfl
              have a1 := A.cell 1 rfl
              have a2 := A.cell 2 rfl
              have a3 := A.cell 3 rfl
              have a4 := A.cell 4 rfl
              have a5 := A.cell 5 rfl
              have a6 := A.cell 6 rfl
              have y0 := Y.cell 0 rfl
              have y1 := Y.cell 1 rfl
              have y2 := Y.cell 2 rfl
              have y3 := Y.cell 3 rfl
              have y4 := Y.cell 4 rfl
              have y5 := Y.cell 5 rfl
              have y6 := Y.cell 6 rfl
              go_wp2_with fail
              refine (refEmpty_any _ _ _ _ _ _ _ _ _ _ _ _ _ _ srl Nrl srh Nrh).mono ?_
              rintro e w7 ⟨rfl, hbw7⟩
              rw [hE]
              clear a0 a1 a2 a3 a4 a5 a6 y0 y1 y2 y3 y4 y5 y6
              replace A := A.after hbw7
              replace B := B.after hbw7
              replace srl := srl.after hbw7
              replace srh := srh.after hbw7
              replace ssl := ssl.after hbw7
              replace ssh := ssh.after hbw7
              replace sb := sb.after hbw7
              replace syl := syl.after hbw7
              replace syh := syh.after hbw7
              replace Y := Y.after hbw7
              have hW_w7 := hW_w6.trans (hbw7.mono hW_w6.size)
              have a0 := A.cell 0 rfl
              have a1 := A.cell 1 rfl
              have a2 := A.cell 2 rfl
              have a3 := A.cell 3 rfl
              have a4 := A.cell 4 rfl
              have a5 := A.cell 5 rfl
              have a6 := A.cell 6 rfl
              have y0 := Y.cell 0 rfl
              have y1 := Y.cell 1 rfl
              have y2 := Y.cell 2 rfl
              have y3 := Y.cell 3 rfl
              have y4 := Y.cell 4 rfl
              have y5 := Y.cell 5 rfl
              have y6 := Y.cell 6 rfl
              go_wp2_with fail
              refine (sameR_any _ _ _ _ _ _ _ _ _ _ _ _ _ _ _ _ _ _ _ _ _ _ _ _ _ _ _ syl syh srl srh).mono ?_
              rintro e w8 ⟨rfl, hbw8⟩
              rw [hS]
              clear a0 a1 a2 a3 a4 a5 a6 y0 y1 y2 y3 y4 y5 y6
              replace A := A.after hbw8
              replace B := B.after hbw8
              replace srl := srl.after hbw8
              replace srh := srh.after hbw8
              replace ssl := ssl.after hbw8
              replace ssh := ssh.after hbw8
              replace sb := sb.after hbw8
              replace syl := syl.after hbw8
              replace syh := syh.after hbw8
              replace Y := Y.after hbw8
              have hW_w8 := hW_w7.trans (hbw8.mono hW_w7.size)
              have a0 := A.cell 0 rfl
              have a1 := A.cell 1 rfl
              have a2 := A.cell 2 rfl
              have a3 := A.cell 3 rfl
              have a4 := A.cell 4 rfl
              have a5 := A.cell 5 rfl
              have a6 := A.cell 6 rfl
              have b0 := B.cell 0 rfl
              have b1 := B.cell 1 rfl
              have b2 := B.cell 2 rfl
              have b3 := B.cell 3 rfl
              have b4 := B.cell 4 rfl
              have b5 := B.cell 5 rfl
              have b6 := B.cell 6 rfl
              go_wp2_with fail
              refine (within_any _ _ _ _ _ _ _ _ _ _ _ _ _ _ _ _ _ _ _ _ _ _ _ _ _ _ _ srl Nrl srh Nrh srl Nrl srh Nrh).mono ?_
              rintro e w11 ⟨rfl, hbw11⟩
              rw [hself]
              clear a0 a1 a2 a3 a4 a5 a6 b0 b1 b2 b3 b4 b5 b6
              replace A := A.after hbw11
              replace B := B.after hbw11
              replace srl := srl.after hbw11
              replace srh := srh.after hbw11
              replace ssl := ssl.after hbw11
              replace ssh := ssh.after hbw11
              replace sb := sb.after hbw11
              replace syl := syl.after hbw11
              replace syh := syh.after hbw11
              replace Y := Y.after hbw11
              have hW_w11 := hW_w8.trans (hbw11.mono hW_w8.size)
              go_wp2_with fail
              refine (awake_any _).mono ?_
              rintro e wz ⟨rfl, hbz⟩
              go_wp2_with fail
              go_ret
              exact ⟨rfl, hW_w11.trans (hbz.mono hW_w11.size)⟩
            · obtain rfl : V = true := hWR
              cases I
              · go_enter Tryd.func5, Tryd.ntmps5
                go_wp2_with fail
                refine (great_any _ _ _ _ _ _ _ _ _ _ _ _).mono ?_
                rintro e w1 ⟨rfl, hbw1⟩
                rw [hG]
                replace A := A.after hbw1
                replace B := B.after hbw1
                replace srl := srl.after hbw1
                replace srh := srh.after hbw1
                replace ssl := ssl.after hbw1
                replace ssh := ssh.after hbw1
                replace sb := sb.after hbw1
                have hW_w1 := hb0.trans (hbw1.mono hb0.size)
                have b0 := B.cell 0 rfl
                have b1 := B.cell 1 rfl
                have b2 := B.cell 2 rfl
                have b3 := B.cell 3 rfl
                have b4 := B.cell 4 rfl
                have b5 := B.cell 5 rfl
                have b6 := B.cell 6 rfl
                go_wp2_with fail
                refine (great_any _ _ _ _ _ _ _ _ _ _ _ _).mono ?_
                rintro e w2 ⟨rfl, hbw2⟩
                rw [hH]
                clear b0 b1 b2 b3 b4 b5 b6
                replace A := A.after hbw2
                replace B := B.after hbw2
                replace srl := srl.after hbw2
                replace srh := srh.after hbw2
                replace ssl := ssl.after hbw2
                replace ssh := ssh.after hbw2
                replace sb := sb.after hbw2
                have hW_w2 := hW_w1.trans (hbw2.mono hW_w1.size)
                have a0 := A.cell 0 rfl
                have a1 := A.cell 1 rfl
                have a2 := A.cell 2 rfl
                have a3 := A.cell 3 rfl
                have a4 := A.cell 4 rfl
                have a5 := A.cell 5 rfl
                have a6 := A.cell 6 rfl
                have b0 := B.cell 0 rfl
                have b1 := B.cell 1 rfl
                have b2 := B.cell 2 rfl
                have b3 := B.cell 3 rfl
                have b4 := B.cell 4 rfl
                have b5 := B.cell 5 rfl
                have b6 := B.cell 6 rfl
                go_wp2_with fail
                refine (within_any _ _ _ _ _ _ _ _ _ _ _ _ _ _ _ _ _ _ _ _ _ _ _ _ _ _ _ srl Nrl srh Nrh ssl Nsl ssh Nsh).mono ?_
                rintro e w3 ⟨rfl, hbw3⟩
                rw [hV]
                clear a0 a1 a2 a3 a4 a5 a6 b0 b1 b2 b3 b4 b5 b6
                replace A := A.after hbw3
                replace B := B.after hbw3
                replace srl := srl.after hbw3
                replace srh := srh.after hbw3
                replace ssl := ssl.after hbw3
                replace ssh := ssh.after hbw3
                replace sb := sb.after hbw3
                have hW_w3 := hW_w2.trans (hbw3.mono hW_w2.size)
                have a0 := A.cell 0 rfl
                have a1 := A.cell 1 rfl
                have a2 := A.cell 2 rfl
                have a3 := A.cell 3 rfl
                have a4 := A.cell 4 rfl
                have a5 := A.cell 5 rfl
                have a6 := A.cell 6 rfl
                have b0 := B.cell 0 rfl
                have b1 := B.cell 1 rfl
                have b2 := B.cell 2 rfl
                have b3 := B.cell 3 rfl
                have b4 := B.cell 4 rfl
                have b5 := B.cell 5 rfl
                have b6 := B.cell 6 rfl
                go_wp2_with fail
                refine (refMeet_any _ _ _ _ _ _ _ _ _ _ _ _ _ _ _ _ _ _ _ _ _ _ _ _ _ _ _ srl Nrl srh Nrh ssl Nsl ssh Nsh).mono ?_
                rintro e w5 ⟨⟨y, yli, ylo, yla, yln, ylc, yll, yhi, yho, yha, yhn, yhc, yhl⟩, rfl, hy, ⟨syl, Nyl, syh, Nyh⟩, hbw5⟩
                clear a0 a1 a2 a3 a4 a5 a6 b0 b1 b2 b3 b4 b5 b6
                replace A := A.after hbw5
                replace B := B.after hbw5
                replace srl := srl.after hbw5
                replace srh := srh.after hbw5
                replace ssl := ssl.after hbw5
                replace ssh := ssh.after hbw5
                replace sb := sb.after hbw5
                have hW_w5 := hW_w3.trans (hbw5.mono hW_w3.size)
                simp only [RgV.val]
                replace hy : (⟨y, ⟨yli, ylo, yll⟩, ⟨yhi, yho, yhl⟩⟩ : Rg) = _ := hy
                rw [hK]
                go_upto_region 5 with fail
                have f_w6 : Below w5.heap.size w5 (w5.alloc (.cells #[.int .u8 y, .bool yli, .bool ylo, .slice yla yln ylc, .bool yhi, .bool yho, .slice yha yhn yhc] 31)) := (Below.refl _ _).alloc (Nat.le_refl _) _
                replace A := A.after f_w6
                replace B := B.after f_w6
                replace srl := srl.after f_w6
                replace srh := srh.after f_w6
                replace ssl := ssl.after f_w6
                replace ssh := ssh.after f_w6
                replace sb := sb.after f_w6
                replace syl := syl.after f_w6
                replace syh := syh.after f_w6
                have Y := Box.new w5 31 #[.int .u8 y, .bool yli, .bool ylo, .slice yla yln ylc, .bool yhi, .bool yho, .slice yha yhn yhc]
                have hW_w6 := hW_w5.trans (f_w6.mono hW_w5.size)
                generalize hg_w6 : w5.alloc (.cells #[.int .u8 y, .bool yli, .bool ylo, .slice yla yln ylc, .bool yhi, .bool yho, .slice yha yhn yhc] 31) = w6 at *
                clear hg_w6
                have hS : sameR ⟨y, ⟨yli, ylo, yll⟩, ⟨yhi, yho, yhl⟩⟩ ⟨r, ⟨rli, rlo, rll⟩, ⟨rhi, rho, rhl⟩⟩ = true := by rw [hy]; exact hSd
                have a0 := A.cell 0 rfl
                have a1 := A.cell 1 rfl
                have a2 := A.cell 2 rfl
                have a3 := A.cell 3 rfl
                have a4 := A.cell 4 rfl
                have a5 := A.cell 5 rfl
                have a6 := A.cell 6 rfl
                have y0 := Y.cell 0 rfl
                have y1 := Y.cell 1 rfl
                have y2 := Y.cell 2 rfl
                have y3 := Y.cell 3 rfl
                have y4 := Y.cell 4 rfl
                have y5 := Y.cell 5 rfl
                have y6 := Y.cell 6 rfl
                go_wp2_with fail
                refine (refEmpty_any _ _ _ _ _ _ _ _ _ _ _ _ _ _ srl Nrl srh Nrh).mono ?_
                rintro e w7 ⟨rfl, hbw7⟩
                rw [hE]
                clear a0 a1 a2 a3 a4 a5 a6 y0 y1 y2 y3 y4 y5 y6
                replace A := A.after hbw7
                replace B := B.after hbw7
                replace srl := srl.after hbw7
                replace srh := srh.after hbw7
                replace ssl := ssl.after hbw7
                replace ssh := ssh.after hbw7
                replace sb := sb.after hbw7
                replace syl := syl.after hbw7
                replace syh := syh.after hbw7
                replace Y := Y.after hbw7
                have hW_w7 := hW_w6.trans (hbw7.mono hW_w6.size)
                have a0 := A.cell 0 rfl
                have a1 := A.cell 1 rfl
                have a2 := A.cell 2 rfl
                have a3 := A.cell 3 rfl
                have a4 := A.cell 4 rfl
                have a5 := A.cell 5 rfl
                have a6 := A.cell 6 rfl
                have y0 := Y.cell 0 rfl
                have y1 := Y.cell 1 rfl
                have y2 := Y.cell 2 rfl
                have y3 := Y.cell 3 rfl
                have y4 := Y.cell 4 rfl
                have y5 := Y.cell 5 rfl
                have y6 := Y.cell 6 rfl
                go_wp2_with fail
                refine (sameR_any _ _ _ _ _ _ _ _ _ _ _ _ _ _ _ _ _ _ _ _ _ _ _ _ _ _ _ syl syh srl srh).mono ?_
                rintro e w8 ⟨rfl, hbw8⟩
                rw [hS]
                clear a0 a1 a2 a3 a4 a5 a6 y0 y1 y2 y3 y4 y5 y6
                replace A := A.after hbw8
                replace B := B.after hbw8
                replace srl := srl.after hbw8
                replace srh := srh.after hbw8
                replace ssl := ssl.after hbw8
                replace ssh := ssh.after hbw8
                replace sb := sb.after hbw8
                replace syl := syl.after hbw8
                replace syh := syh.after hbw8
                replace Y := Y.after hbw8
                have hW_w8 := hW_w7.trans (hbw8.mono hW_w7.size)
                have a0 := A.cell 0 rfl
                have a1 := A.cell 1 rfl
                have a2 := A.cell 2 rfl
                have a3 := A.cell 3 rfl
                have a4 := A.cell 4 rfl
                have a5 := A.cell 5 rfl
                have a6 := A.cell 6 rfl
                have b0 := B.cell 0 rfl
                have b1 := B.cell 1 rfl
                have b2 := B.cell 2 rfl
                have b3 := B.cell 3 rfl
                have b4 := B.cell 4 rfl
                have b5 := B.cell 5 rfl
                have b6 := B.cell 6 rfl
                go_wp2_with fail
                refine (in_any _ _ _ _ _ _ _ _ _ _ _ _ _ _ _ _ _ _ srl Nrl srh Nrh sb Nb).mono ?_
                rintro e w9 ⟨rfl, hbw9⟩
                rw [hI]
                clear a0 a1 a2 a3 a4 a5 a6 b0 b1 b2 b3 b4 b5 b6
                replace A := A.after hbw9
                replace B := B.after hbw9
                replace srl := srl.after hbw9
                replace srh := srh.after hbw9
                replace ssl := ssl.after hbw9
                replace ssh := ssh.after hbw9
                replace sb := sb.after hbw9
                replace syl := syl.after hbw9
                replace syh := syh.after hbw9
                replace Y := Y.after hbw9
                have hW_w9 := hW_w8.trans (hbw9.mono hW_w8.size)
                have a0 := A.cell 0 rfl
                have a1 := A.cell 1 rfl
                have a2 := A.cell 2 rfl
                have a3 := A.cell 3 rfl
                have a4 := A.cell 4 rfl
                have a5 := A.cell 5 rfl
                have a6 := A.cell 6 rfl
                have b0 := B.cell 0 rfl
                have b1 := B.cell 1 rfl
                have b2 := B.cell 2 rfl
                have b3 := B.cell 3 rfl
                have b4 := B.cell 4 rfl
                have b5 := B.cell 5 rfl
                have b6 := B.cell 6 rfl
                go_wp2_with fail
                refine (within_any _ _ _ _ _ _ _ _ _ _ _ _ _ _ _ _ _ _ _ _ _ _ _ _ _ _ _ srl Nrl srh Nrh srl Nrl srh Nrh).mono ?_
                rintro e w11 ⟨rfl, hbw11⟩
                rw [hself]
                clear a0 a1 a2 a3 a4 a5 a6 b0 b1 b2 b3 b4 b5 b6
                replace A := A.after hbw11
                replace B := B.after hbw11
                replace srl := srl.after hbw11
                replace srh := srh.after hbw11
                replace ssl := ssl.after hbw11
                replace ssh := ssh.after hbw11
                replace sb := sb.after hbw11
                replace syl := syl.after hbw11
                replace syh := syh.after hbw11
                replace Y := Y.after hbw11
                have hW_w11 := hW_w9.trans (hbw11.mono hW_w9.size)
                go_wp2_with fail
                refine (awake_any _).mono ?_
                rintro e wz ⟨rfl, hbz⟩
                go_wp2_with fail
                go_ret
                exact ⟨rfl, hW_w11.trans (hbz.mono hW_w11.size)⟩
              · obtain rfl : J = true := hWI rfl rfl
                go_enter Tryd.func5, Tryd.ntmps5
                go_wp2_with fail
                refine (great_any _ _ _ _ _ _ _ _ _ _ _ _).mono ?_
                rintro e w1 ⟨rfl, hbw1⟩
                rw [hG]
                replace A := A.after hbw1
                replace B := B.after hbw1
                replace srl := srl.after hbw1
                replace srh := srh.after hbw1
                replace ssl := ssl.after hbw1
                replace ssh := ssh.after hbw1
                replace sb := sb.after hbw1
                have hW_w1 := hb0.trans (hbw1.mono hb0.size)
                have b0 := B.cell 0 rfl
                have b1 := B.cell 1 rfl
                have b2 := B.cell 2 rfl
                have b3 := B.cell 3 rfl
                have b4 := B.cell 4 rfl
                have b5 := B.cell 5 rfl
                have b6 := B.cell 6 rfl
                go_wp2_with fail
                refine (great_any _ _ _ _ _ _ _ _ _ _ _ _).mono ?_
                rintro e w2 ⟨rfl, hbw2⟩
                rw [hH]
                clear b0 b1 b2 b3 b4 b5 b6
                replace A := A.after hbw2
                replace B := B.after hbw2
                replace srl := srl.after hbw2
                replace srh := srh.after hbw2
                replace ssl := ssl.after hbw2
                replace ssh := ssh.after hbw2
                replace sb := sb.after hbw2
                have hW_w2 := hW_w1.trans (hbw2.mono hW_w1.size)
                have a0 := A.cell 0 rfl
                have a1 := A.cell 1 rfl
                have a2 := A.cell 2 rfl
                have a3 := A.cell 3 rfl
                have a4 := A.cell 4 rfl
                have a5 := A.cell 5 rfl
                have a6 := A.cell 6 rfl
                have b0 := B.cell 0 rfl
                have b1 := B.cell 1 rfl
                have b2 := B.cell 2 rfl
                have b3 := B.cell 3 rfl
                have b4 := B.cell 4 rfl
                have b5 := B.cell 5 rfl
                have b6 := B.cell 6 rfl
                go_wp2_with fail
                refine (within_any _ _ _ _ _ _ _ _ _ _ _ _ _ _ _ _ _ _ _ _ _ _ _ _ _ _ _ srl Nrl srh Nrh ssl Nsl ssh Nsh).mono ?_
                rintro e w3 ⟨rfl, hbw3⟩
                rw [hV]
                clear a0 a1 a2 a3 a4 a5 a6 b0 b1 b2 b3 b4 b5 b6
                replace A := A.after hbw3
                replace B := B.after hbw3
                replace srl := srl.after hbw3
                replace srh := srh.after hbw3
                replace ssl := ssl.after hbw3
                replace ssh := ssh.after hbw3
                replace sb := sb.after hbw3
                have hW_w3 := hW_w2.trans (hbw3.mono hW_w2.size)
                have a0 := A.cell 0 rfl
                have a1 := A.cell 1 rfl
                have a2 := A.cell 2 rfl
                have a3 := A.cell 3 rfl
                have a4 := A.cell 4 rfl
                have a5 := A.cell 5 rfl
                have a6 := A.cell 6 rfl
                have b0 := B.cell 0 rfl
                have b1 := B.cell 1 rfl
                have b2 := B.cell 2 rfl
                have b3 := B.cell 3 rfl
                have b4 := B.cell 4 rfl
                have b5 := B.cell 5 rfl
                have b6 := B.cell 6 rfl
                go_wp2_with fail
                refine (refMeet_any _ _ _ _ _ _ _ _ _ _ _ _ _ _ _ _ _ _ _ _ _ _ _ _ _ _ _ srl Nrl srh Nrh ssl Nsl ssh Nsh).mono ?_
                rintro e w5 ⟨⟨y, yli, ylo, yla, yln, ylc, yll, yhi, yho, yha, yhn, yhc, yhl⟩, rfl, hy, ⟨syl, Nyl, syh, Nyh⟩, hbw5⟩
                clear a0 a1 a2 a3 a4 a5 a6 b0 b1 b2 b3 b4 b5 b6
                replace A := A.after hbw5
                replace B := B.after hbw5
                replace srl := srl.after hbw5
                replace srh := srh.after hbw5
                replace ssl := ssl.after hbw5
                replace ssh := ssh.after hbw5
                replace sb := sb.after hbw5
                have hW_w5 := hW_w3.trans (hbw5.mono hW_w3.size)
                simp only [RgV.val]
                replace hy : (⟨y, ⟨yli, ylo, yll⟩, ⟨yhi, yho, yhl⟩⟩ : Rg) = _ := hy
                rw [hK]
                go_upto_region 5 with fail
                have f_w6 : Below w5.heap.size w5 (w5.alloc (.cells #[.int .u8 y, .bool yli, .bool ylo, .slice yla yln ylc, .bool yhi, .bool yho, .slice yha yhn yhc] 31)) := (Below.refl _ _).alloc (Nat.le_refl _) _
                replace A := A.after f_w6
                replace B := B.after f_w6
                replace srl := srl.after f_w6
                replace srh := srh.after f_w6
                replace ssl := ssl.after f_w6
                replace ssh := ssh.after f_w6
                replace sb := sb.after f_w6
                replace syl := syl.after f_w6
                replace syh := syh.after f_w6
                have Y := Box.new w5 31 #[.int .u8 y, .bool yli, .bool ylo, .slice yla yln ylc, .bool yhi, .bool yho, .slice yha yhn yhc]
                have hW_w6 := hW_w5.trans (f_w6.mono hW_w5.size)
                generalize hg_w6 : w5.alloc (.cells #[.int .u8 y, .bool yli, .bool ylo, .slice yla yln ylc, .bool yhi, .bool yho, .slice yha yhn yhc] 31) = w6 at *
                clear hg_w6
                have hS : sameR ⟨y, ⟨yli, ylo, yll⟩, ⟨yhi, yho, yhl⟩⟩ ⟨r, ⟨rli, rlo, rll⟩, ⟨rhi, rho, rhl⟩⟩ = true := by rw [hy]; exact hSd
                have a0 := A.cell 0 rfl
                have a1 := A.cell 1 rfl
                have a2 := A.cell 2 rfl
                have a3 := A.cell 3 rfl
                have a4 := A.cell 4 rfl
                have a5 := A.cell 5 rfl
                have a6 := A.cell 6 rfl
                have y0 := Y.cell 0 rfl
                have y1 := Y.cell 1 rfl
                have y2 := Y.cell 2 rfl
                have y3 := Y.cell 3 rfl
                have y4 := Y.cell 4 rfl
                have y5 := Y.cell 5 rfl
                have y6 := Y.cell 6 rfl
                go_wp2_with fail
                refine (refEmpty_any _ _ _ _ _ _ _ _ _ _ _ _ _ _ srl Nrl srh Nrh).mono ?_
                rintro e w7 ⟨rfl, hbw7⟩
                rw [hE]
                clear a0 a1 a2 a3 a4 a5 a6 y0 y1 y2 y3 y4 y5 y6
                replace A := A.after hbw7
                replace B := B.after hbw7
                replace srl := srl.after hbw7
                replace srh := srh.after hbw7
                replace ssl := ssl.after hbw7
                replace ssh := ssh.after hbw7
                replace sb := sb.after hbw7
                replace syl := syl.after hbw7
                replace syh := syh.after hbw7
                replace Y := Y.after hbw7
                have hW_w7 := hW_w6.trans (hbw7.mono hW_w6.size)
                have a0 := A.cell 0 rfl
                have a1 := A.cell 1 rfl
                have a2 := A.cell 2 rfl
                have a3 := A.cell 3 rfl
                have a4 := A.cell 4 rfl
                have a5 := A.cell 5 rfl
                have a6 := A.cell 6 rfl
                have y0 := Y.cell 0 rfl
                have y1 := Y.cell 1 rfl
                have y2 := Y.cell 2 rfl
                have y3 := Y.cell 3 rfl
                have y4 := Y.cell 4 rfl
                have y5 := Y.cell 5 rfl
                have y6 := Y.cell 6 rfl
                go_wp2_with fail
                refine (sameR_any _ _ _ _ _ _ _ _ _ _ _ _ _ _ _ _ _ _ _ _ _ _ _ _ _ _ _ syl syh srl srh).mono ?_
                rintro e w8 ⟨rfl, hbw8⟩
                rw [hS]
                clear a0 a1 a2 a3 a4 a5 a6 y0 y1 y2 y3 y4 y5 y6
                replace A := A.after hbw8
                replace B := B.after hbw8
                replace srl := srl.after hbw8
                replace srh := srh.after hbw8
                replace ssl := ssl.after hbw8
                replace ssh := ssh.after hbw8
                replace sb := sb.after hbw8
                replace syl := syl.after hbw8
                replace syh := syh.after hbw8
                replace Y := Y.after hbw8
                have hW_w8 := hW_w7.trans (hbw8.mono hW_w7.size)
                have a0 := A.cell 0 rfl
                have a1 := A.cell 1 rfl
                have a2 := A.cell 2 rfl
                have a3 := A.cell 3 rfl
                have a4 := A.cell 4 rfl
                have a5 := A.cell 5 rfl
                have a6 := A.cell 6 rfl
                have b0 := B.cell 0 rfl
                have b1 := B.cell 1 rfl
                have b2 := B.cell 2 rfl
                have b3 := B.cell 3 rfl
                have b4 := B.cell 4 rfl
                have b5 := B.cell 5 rfl
                have b6 := B.cell 6 rfl
                go_wp2_with fail
                refine (in_any _ _ _ _ _ _ _ _ _ _ _ _ _ _ _ _ _ _ srl Nrl srh Nrh sb Nb).mono ?_
                rintro e w9 ⟨rfl, hbw9⟩
                rw [hI]
                clear a0 a1 a2 a3 a4 a5 a6 b0 b1 b2 b3 b4 b5 b6
                replace A := A.after hbw9
                replace B := B.after hbw9
                replace srl := srl.after hbw9
                replace srh := srh.after hbw9
                replace ssl := ssl.after hbw9
                replace ssh := ssh.after hbw9
                replace sb := sb.after hbw9
                replace syl := syl.after hbw9
                replace syh := syh.after hbw9
                replace Y := Y.after hbw9
                have hW_w9 := hW_w8.trans (hbw9.mono hW_w8.size)
                have a0 := A.cell 0 rfl
                have a1 := A.cell 1 rfl
                have a2 := A.cell 2 rfl
                have a3 := A.cell 3 rfl
                have a4 := A.cell 4 rfl
                have a5 := A.cell 5 rfl
                have a6 := A.cell 6 rfl
                have b0 := B.cell 0 rfl
                have b1 := B.cell 1 rfl
                have b2 := B.cell 2 rfl
                have b3 := B.cell 3 rfl
                have b4 := B.cell 4 rfl
                have b5 := B.cell 5 rfl
                have b6 := B.cell 6 rfl
                go_wp2_with fail
                refine (in_any _ _ _ _ _ _ _ _ _ _ _ _ _ _ _ _ _ _ ssl Nsl ssh Nsh sb Nb).mono ?_
                rintro e w10 ⟨rfl, hbw10⟩
                rw [hJ]
                clear a0 a1 a2 a3 a4 a5 a6 b0 b1 b2 b3 b4 b5 b6
                replace A := A.after hbw10
                replace B := B.after hbw10
                replace srl := srl.after hbw10
                replace srh := srh.after hbw10
                replace ssl := ssl.after hbw10
                replace ssh := ssh.after hbw10
                replace sb := sb.after hbw10
                replace syl := syl.after hbw10
                replace syh := syh.after hbw10
                replace Y := Y.after hbw10
                have hW_w10 := hW_w9.trans (hbw10.mono hW_w9.size)
                have a0 := A.cell 0 rfl
                have a1 := A.cell 1 rfl
                have a2 := A.cell 2 rfl
                have a3 := A.cell 3 rfl
                have a4 := A.cell 4 rfl
                have a5 := A.cell 5 rfl
                have a6 := A.cell 6 rfl
                have b0 := B.cell 0 rfl
                have b1 := B.cell 1 rfl
                have b2 := B.cell 2 rfl
                have b3 := B.cell 3 rfl
                have b4 := B.cell 4 rfl
                have b5 := B.cell 5 rfl
                have b6 := B.cell 6 rfl
                go_wp2_with fail
                refine (within_any _ _ _ _ _ _ _ _ _ _ _ _ _ _ _ _ _ _ _ _ _ _ _ _ _ _ _ srl Nrl srh Nrh srl Nrl srh Nrh).mono ?_
                rintro e w11 ⟨rfl, hbw11⟩
                rw [hself]
                clear a0 a1 a2 a3 a4 a5 a6 b0 b1 b2 b3 b4 b5 b6
                replace A := A.after hbw11
                replace B := B.after hbw11
                replace srl := srl.after hbw11
                replace srh := srh.after hbw11
                replace ssl := ssl.after hbw11
                replace ssh := ssh.after hbw11
                replace sb := sb.after hbw11
                replace syl := syl.after hbw11
                replace syh := syh.after hbw11
                replace Y := Y.after hbw11
                have hW_w11 := hW_w10.trans (hbw11.mono hW_w10.size)
                go_wp2_with fail
                refine (awake_any _).mono ?_
                rintro e wz ⟨rfl, hbz⟩
                go_wp2_with fail
                go_ret
                exact ⟨rfl, hW_w11.trans (hbz.mono hW_w11.size)⟩
          · obtain rfl : V = true := hWR
            cases I
            · go_enter Tryd.func5, Tryd.ntmps5
              go_wp2_with fail
              refine (great_any _ _ _ _ _ _ _ _ _ _ _ _).mono ?_
              rintro e w1 ⟨rfl, hbw1⟩
              rw [hG]
              replace A := A.after hbw1
              replace B := B.after hbw1
              replace srl := srl.after hbw1
              replace srh := srh.after hbw1
              replace ssl := ssl.after hbw1
              replace ssh := ssh.after hbw1
              replace sb := sb.after hbw1
              have hW_w1 := hb0.trans (hbw1.mono hb0.size)
              have b0 := B.cell 0 rfl
              have b1 := B.cell 1 rfl
              have b2 := B.cell 2 rfl
              have b3 := B.cell 3 rfl
              have b4 := B.cell 4 rfl
              have b5 := B.cell 5 rfl
              have b6 := B.cell 6 rfl
              go_wp2_with fail
              refine (great_any _ _ _ _ _ _ _ _ _ _ _ _).mono ?_
              rintro e w2 ⟨rfl, hbw2⟩
              rw [hH]
              clear b0 b1 b2 b3 b4 b5 b6
              replace A := A.after hbw2
              replace B := B.after hbw2
              replace srl := srl.after hbw2
              replace srh := srh.after hbw2
              replace ssl := ssl.after hbw2
              replace ssh := ssh.after hbw2
              replace sb := sb.after hbw2
              have hW_w2 := hW_w1.trans (hbw2.mono hW_w1.size)
              have a0 := A.cell 0 rfl
              have a1 := A.cell 1 rfl
              have a2 := A.cell 2 rfl
              have a3 := A.cell 3 rfl
              have a4 := A.cell 4 rfl
              have a5 := A.cell 5 rfl
              have a6 := A.cell 6 rfl
              have b0 := B.cell 0 rfl
              have b1 := B.cell 1 rfl
              have b2 := B.cell 2 rfl
              have b3 := B.cell 3 rfl
              have b4 := B.cell 4 rfl
              have b5 := B.cell 5 rfl
              have b6 := B.cell 6 rfl
              go_wp2_with fail
              refine (within_any _ _ _ _ _ _ _ _ _ _ _ _ _ _ _ _ _ _ _ _ _ _ _ _ _ _ _ srl Nrl srh Nrh ssl Nsl ssh Nsh).mono ?_
              rintro e w3 ⟨rfl, hbw3⟩
              rw [hV]
              clear a0 a1 a2 a3 a4 a5 a6 b0 b1 b2 b3 b4 b5 b6
              replace A := A.after hbw3
              replace B := B.after hbw3
              replace srl := srl.after hbw3
              replace srh := srh.after hbw3
              replace ssl := ssl.after hbw3
              replace ssh := ssh.after hbw3
              replace sb := sb.after hbw3
              have hW_w3 := hW_w2.trans (hbw3.mono hW_w2.size)
              have a0 := A.cell 0 rfl
              have a1 := A.cell 1 rfl
              have a2 := A.cell 2 rfl
              have a3 := A.cell 3 rfl
              have a4 := A.cell 4 rfl
              have a5 := A.cell 5 rfl
              have a6 := A.cell 6 rfl
              have b0 := B.cell 0 rfl
              have b1 := B.cell 1 rfl
              have b2 := B.cell 2 rfl
              have b3 := B.cell 3 rfl
              have b4 := B.cell 4 rfl
              have b5 := B.cell 5 rfl
              have b6 := B.cell 6 rfl
              go_wp2_with fail
              refine (refMeet_any _ _ _ _ _ _ _ _ _ _ _ _ _ _ _ _ _ _ _ _ _ _ _ _ _ _ _ srl Nrl srh Nrh ssl Nsl ssh Nsh).mono ?_
              rintro e w5 ⟨⟨y, yli, ylo, yla, yln, ylc, yll, yhi, yho, yha, yhn, yhc, yhl⟩, rfl, hy, ⟨syl, Nyl, syh, Nyh⟩, hbw5⟩
              clear a0 a1 a2 a3 a4 a5 a6 b0 b1 b2 b3 b4 b5 b6
              replace A := A.after hbw5
              replace B := B.after hbw5
              replace srl := srl.after hbw5
              replace srh := srh.after hbw5
              replace ssl := ssl.after hbw5
              replace ssh := ssh.after hbw5
              replace sb := sb.after hbw5
              have hW_w5 := hW_w3.trans (hbw5.mono hW_w3.size)
              simp only [RgV.val]
              replace hy : (⟨y, ⟨yli, ylo, yll⟩, ⟨yhi, yho, yhl⟩⟩ : Rg) = _ := hy
              rw [hK]
              go_upto_region 5 with fail
              have f_w6 : Below w5.heap.size w5 (w5.alloc (.cells #[.int .u8 y, .bool yli, .bool ylo, .slice yla yln ylc, .bool yhi, .bool yho, .slice yha yhn yhc] 31)) := (Below.refl _ _).alloc (Nat.le_refl _) _
              replace A := A.after f_w6
              replace B := B.after f_w6
              replace srl := srl.after f_w6
              replace srh := srh.after f_w6
              replace ssl := ssl.after f_w6
              replace ssh := ssh.after f_w6
              replace sb := sb.after f_w6
              replace syl := syl.after f_w6
              replace syh := syh.after f_w6
              have Y := Box.new w5 31 #[.int .u8 y, .bool yli, .bool ylo, .slice yla yln ylc, .bool yhi, .bool yho, .slice yha yhn yhc]
              have hW_w6 := hW_w5.trans (f_w6.mono hW_w5.size)
              generalize hg_w6 : w5.alloc (.cells #[.int .u8 y, .bool yli, .bool ylo, .slice yla yln ylc, .bool yhi, .bool yho, .slice yha yhn yhc] 31) = w6 at *
              clear hg_w6
              have a0 := A.cell 0 rfl
              have a1 := A.cell 1 rfl
              have a2 := A.cell 2 rfl
              have a3 := A.cell 3 rfl
              have a4 := A.cell 4 rfl
              have a5 := A.cell 5 rfl
              have a6 := A.cell 6 rfl
              have y0 := Y.cell 0 rfl
              have y1 := Y.cell 1 rfl
              have y2 := Y.cell 2 rfl
              have y3 := Y.cell 3 rfl
              have y4 := Y.cell 4 rfl
              have y5 := Y.cell 5 rfl
              have y6 := Y.cell 6 rfl
              go_wp2_with fail
              refine (refEmpty_any _ _ _ _ _ _ _ _ _ _ _ _ _ _ srl Nrl srh Nrh).mono ?_
              rintro e w7 ⟨rfl, hbw7⟩
              rw [hE]
              clear a0 a1 a2 a3 a4 a5 a6 y0 y1 y2 y3 y4 y5 y6
              replace A := A.after hbw7
              replace B := B.after hbw7
              replace srl := srl.after hbw7
              replace srh := srh.after hbw7
              replace ssl := ssl.after hbw7
              replace ssh := ssh.after hbw7
              replace sb := sb.after hbw7
              replace syl := syl.after hbw7
              replace syh := syh.after hbw7
              replace Y := Y.after hbw7
              have hW_w7 := hW_w6.trans (hbw7.mono hW_w6.size)
              have a0 := A.cell 0 rfl
              have a1 := A.cell 1 rfl
              have a2 := A.cell 2 rfl
              have a3 := A.cell 3 rfl
              have a4 := A.cell 4 rfl
              have a5 := A.cell 5 rfl
              have a6 := A.cell 6 rfl
              have b0 := B.cell 0 rfl
              have b1 := B.cell 1 rfl
              have b2 := B.cell 2 rfl
              have b3 := B.cell 3 rfl
              have b4 := B.cell 4 rfl
              have b5 := B.cell 5 rfl
              have b6 := B.cell 6 rfl
              go_wp2_with fail
              refine (in_any _ _ _ _ _ _ _ _ _ _ _ _ _ _ _ _ _ _ srl Nrl srh Nrh sb Nb).mono ?_
              rintro e w9 ⟨rfl, hbw9⟩
              rw [hI]
              clear a0 a1 a2 a3 a4 a5 a6 b0 b1 b2 b3 b4 b5 b6
              replace A := A.after hbw9
              replace B := B.after hbw9
              replace srl := srl.after hbw9
              replace srh := srh.after hbw9
              replace ssl := ssl.after hbw9
              replace ssh := ssh.after hbw9
              replace sb := sb.after hbw9
              replace syl := syl.after hbw9
              replace syh := syh.after hbw9
              replace Y := Y.after hbw9
              have hW_w9 := hW_w7.trans (hbw9.mono hW_w7.size)
              have a0 := A.cell 0 rfl
              have a1 := A.cell 1 rfl
              have a2 := A.cell 2 rfl
              have a3 := A.cell 3 rfl
              have a4 := A.cell 4 rfl
              have a5 := A.cell 5 rfl
              have a6 := A.cell 6 rfl
              have b0 := B.cell 0 rfl
              have b1 := B.cell 1 rfl
              have b2 := B.cell 2 rfl
              have b3 := B.cell 3 rfl
              have b4 := B.cell 4 rfl
              have b5 := B.cell 5 rfl
              have b6 := B.cell 6 rfl
              go_wp2_with fail
              refine (within_any _ _ _ _ _ _ _ _ _ _ _ _ _ _ _ _ _ _ _ _ _ _ _ _ _ _ _ srl Nrl srh Nrh srl Nrl srh Nrh).mono ?_
              rintro e w11 ⟨rfl, hbw11⟩
              rw [hself]
              clear a0 a1 a2 a3 a4 a5 a6 b0 b1 b2 b3 b4 b5 b6
              replace A := A.after hbw11
              replace B := B.after hbw11
              replace srl := srl.after hbw11
              replace srh := srh.after hbw11
              replace ssl := ssl.after hbw11
              replace ssh := ssh.after hbw11
              replace sb := sb.after hbw11
              replace syl := syl.after hbw11
              replace syh := syh.after hbw11
              replace Y := Y.after hbw11
              have hW_w11 := hW_w9.trans (hbw11.mono hW_w9.size)
              go_wp2_with fail
              refine (awake_any _).mono ?_
              rintro e wz ⟨rfl, hbz⟩
              go_wp2_with fail
              go_ret
              exact ⟨rfl, hW_w11.trans (hbz.mono hW_w11.size)⟩
            · obtain rfl : J = true := hWI rfl rfl
              go_enter Tryd.func5, Tryd.ntmps5
              go_wp2_with fail
              refine (great_any _ _ _ _ _ _ _ _ _ _ _ _).mono ?_
              rintro e w1 ⟨rfl, hbw1⟩
              rw [hG]
              replace A := A.after hbw1
              replace B := B.after hbw1
              replace srl := srl.after hbw1
              replace srh := srh.after hbw1
              replace ssl := ssl.after hbw1
              replace ssh := ssh.after hbw1
              replace sb := sb.after hbw1
              have hW_w1 := hb0.trans (hbw1.mono hb0.size)
              have b0 := B.cell 0 rfl
              have b1 := B.cell 1 rfl
              have b2 := B.cell 2 rfl
              have b3 := B.cell 3 rfl
              have b4 := B.cell 4 rfl
              have b5 := B.cell 5 rfl
              have b6 := B.cell 6 rfl
              go_wp2_with fail
              refine (great_any _ _ _ _ _ _ _ _ _ _ _ _).mono ?_
              rintro e w2 ⟨rfl, hbw2⟩
              rw [hH]
              clear b0 b1 b2 b3 b4 b5 b6
              replace A := A.after hbw2
              replace B := B.after hbw2
              replace srl := srl.after hbw2
              replace srh := srh.after hbw2
              replace ssl := ssl.after hbw2
              replace ssh := ssh.after hbw2
              replace sb := sb.after hbw2
              have hW_w2 := hW_w1.trans (hbw2.mono hW_w1.size)
              have a0 := A.cell 0 rfl
              have a1 := A.cell 1 rfl
              have a2 := A.cell 2 rfl
              have a3 := A.cell 3 rfl
              have a4 := A.cell 4 rfl
              have a5 := A.cell 5 rfl
              have a6 := A.cell 6 rfl
              have b0 := B.cell 0 rfl
              have b1 := B.cell 1 rfl
              have b2 := B.cell 2 rfl
              have b3 := B.cell 3 rfl
              have b4 := B.cell 4 rfl
              have b5 := B.cell 5 rfl
              have b6 := B.cell 6 rfl
              go_wp2_with fail
              refine (within_any _ _ _ _ _ _ _ _ _ _ _ _ _ _ _ _ _ _ _ _ _ _ _ _ _ _ _ srl Nrl srh Nrh ssl Nsl ssh Nsh).mono ?_
              rintro e w3 ⟨rfl, hbw3⟩
              rw [hV]
              clear a0 a1 a2 a3 a4 a5 a6 b0 b1 b2 b3 b4 b5 b6
              replace A := A.after hbw3
              replace B := B.after hbw3
              replace srl := srl.after hbw3
              replace srh := srh.after hbw3
              replace ssl := ssl.after hbw3
              replace ssh := ssh.after hbw3
              replace sb := sb.after hbw3
              have hW_w3 := hW_w2.trans (hbw3.mono hW_w2.size)
              have a0 := A.cell 0 rfl
              have a1 := A.cell 1 rfl
              have a2 := A.cell 2 rfl
              have a3 := A.cell 3 rfl
              have a4 := A.cell 4 rfl
              have a5 := A.cell 5 rfl
              have a6 := A.cell 6 rfl
              have b0 := B.cell 0 rfl
              have b1 := B.cell 1 rfl
              have b2 := B.cell 2 rfl
              have b3 := B.cell 3 rfl
              have b4 := B.cell 4 rfl
              have b5 := B.cell 5 rfl
              have b6 := B.cell 6 rfl
              go_wp2_with fail
              refine (refMeet_any _ _ _ _ _ _ _ _ _ _ _ _ _ _ _ _ _ _ _ _ _ _ _ _ _ _ _ srl Nrl srh Nrh ssl Nsl ssh Nsh).mono ?_
              rintro e w5 ⟨⟨y, yli, ylo, yla, yln, ylc, yll, yhi, yho, yha, yhn, yhc, yhl⟩, rfl, hy, ⟨syl, Nyl, syh, Nyh⟩, hbw5⟩
              clear a0 a1 a2 a3 a4 a5 a6 b0 b1 b2 b3 b4 b5 b6
              replace A := A.after hbw5
              replace B := B.after hbw5
              replace srl := srl.after hbw5
              replace srh := srh.after hbw5
              replace ssl := ssl.after hbw5
              replace ssh := ssh.after hbw5
              replace sb := sb.after hbw5
              have hW_w5 := hW_w3.trans (hbw5.mono hW_w3.size)
              simp only [RgV.val]
              replace hy : (⟨y, ⟨yli, ylo, yll⟩, ⟨yhi, yho, yhl⟩⟩ : Rg) = _ := hy
              rw [hK]
              go_upto_region 5 with fail
              have f_w6 : Below w5.heap.size w5 (w5.alloc (.cells #[.int .u8 y, .bool yli, .bool ylo, .slice yla yln ylc, .bool yhi, .bool yho, .slice yha yhn yhc] 31)) := (Below.refl _ _).alloc (Nat.le_refl _) _
              replace A := A.after f_w6
              replace B := B.after f_w6
              replace srl := srl.after f_w6
              replace srh := srh.after f_w6
              replace ssl := ssl.after f_w6
              replace ssh := ssh.after f_w6
              replace sb := sb.after f_w6
              replace syl := syl.after f_w6
              replace syh := syh.after f_w6
              have Y := Box.new w5 31 #[.int .u8 y, .bool yli, .bool ylo, .slice yla yln ylc, .bool yhi, .bool yho, .slice yha yhn yhc]
              have hW_w6 := hW_w5.trans (f_w6.mono hW_w5.size)
              generalize hg_w6 : w5.alloc (.cells #[.int .u8 y, .bool yli, .bool ylo, .slice yla yln ylc, .bool yhi, .bool yho, .slice yha yhn yhc] 31) = w6 at *
              clear hg_w6
              have a0 := A.cell 0 rfl
              have a1 := A.cell 1 rfl
              have a2 := A.cell 2 rfl
              have a3 := A.cell 3 rfl
              have a4 := A.cell 4 rfl
              have a5 := A.cell 5 rfl
              have a6 := A.cell 6 rfl
              have y0 := Y.cell 0 rfl
              have y1 := Y.cell 1 rfl
              have y2 := Y.cell 2 rfl
              have y3 := Y.cell 3 rfl
              have y4 := Y.cell 4 rfl
              have y5 := Y.cell 5 rfl
              have y6 := Y.cell 6 rfl
              go_wp2_with fail
              refine (refEmpty_any _ _ _ _ _ _ _ _ _ _ _ _ _ _ srl Nrl srh Nrh).mono ?_
              rintro e w7 ⟨rfl, hbw7⟩
              rw [hE]
              clear a0 a1 a2 a3 a4 a5 a6 y0 y1 y2 y3 y4 y5 y6
              replace A := A.after hbw7
              replace B := B.after hbw7
              replace srl := srl.after hbw7
              replace srh := srh.after hbw7
              replace ssl := ssl.after hbw7
              replace ssh := ssh.after hbw7
              replace sb := sb.after hbw7
              replace syl := syl.after hbw7
              replace syh := syh.after hbw7
              replace Y := Y.after hbw7
              have hW_w7 := hW_w6.trans (hbw7.mono hW_w6.size)
              have a0 := A.cell 0 rfl
              have a1 := A.cell 1 rfl
              have a2 := A.cell 2 rfl
              have a3 := A.cell 3 rfl
              have a4 := A.cell 4 rfl
              have a5 := A.cell 5 rfl
              have a6 := A.cell 6 rfl
              have b0 := B.cell 0 rfl
              have b1 := B.cell 1 rfl
              have b2 := B.cell 2 rfl
              have b3 := B.cell 3 rfl
              have b4 := B.cell 4 rfl
              have b5 := B.cell 5 rfl
              have b6 := B.cell 6 rfl
              go_wp2_with fail
              refine (in_any _ _ _ _ _ _ _ _ _ _ _ _ _ _ _ _ _ _ srl Nrl srh Nrh sb Nb).mono ?_
              rintro e w9 ⟨rfl, hbw9⟩
              rw [hI]
              clear a0 a1 a2 a3 a4 a5 a6 b0 b1 b2 b3 b4 b5 b6
              replace A := A.after hbw9
              replace B := B.after hbw9
              replace srl := srl.after hbw9
              replace srh := srh.after hbw9
              replace ssl := ssl.after hbw9
              replace ssh := ssh.after hbw9
              replace sb := sb.after hbw9
              replace syl := syl.after hbw9
              replace syh := syh.after hbw9
              replace Y := Y.after hbw9
              have hW_w9 := hW_w7.trans (hbw9.mono hW_w7.size)
              have a0 := A.cell 0 rfl
              have a1 := A.cell 1 rfl
              have a2 := A.cell 2 rfl
              have a3 := A.cell 3 rfl
              have a4 := A.cell 4 rfl
              have a5 := A.cell 5 rfl
              have a6 := A.cell 6 rfl
              have b0 := B.cell 0 rfl
              have b1 := B.cell 1 rfl
              have b2 := B.cell 2 rfl
              have b3 := B.cell 3 rfl
              have b4 := B.cell 4 rfl
              have b5 := B.cell 5 rfl
              have b6 := B.cell 6 rfl
              go_wp2_with fail
              refine (in_any _ _ _ _ _ _ _ _ _ _ _ _ _ _ _ _ _ _ ssl Nsl ssh Nsh sb Nb).mono ?_
              rintro e w10 ⟨rfl, hbw10⟩
              rw [hJ]
              clear a0 a1 a2 a3 a4 a5 a6 b0 b1 b2 b3 b4 b5 b6
              replace A := A.after hbw10
              replace B := B.after hbw10
              replace srl := srl.after hbw10
              replace srh := srh.after hbw10
              replace ssl := ssl.after hbw10
              replace ssh := ssh.after hbw10
              replace sb := sb.after hbw10
              replace syl := syl.after hbw10
              replace syh := syh.after hbw10
              replace Y := Y.after hbw10
              have hW_w10 := hW_w9.trans (hbw10.mono hW_w9.size)
              have a0 := A.cell 0 rfl
              have a1 := A.cell 1 rfl
              have a2 := A.cell 2 rfl
              have a3 := A.cell 3 rfl
              have a4 := A.cell 4 rfl
              have a5 := A.cell 5 rfl
              have a6 := A.cell 6 rfl
              have b0 := B.cell 0 rfl
              have b1 := B.cell 1 rfl
              have b2 := B.cell 2 rfl
              have b3 := B.cell 3 rfl
              have b4 := B.cell 4 rfl
              have b5 := B.cell 5 rfl
              have b6 := B.cell 6 rfl
              go_wp2_with fail
              refine (within_any _ _ _ _ _ _ _ _ _ _ _ _ _ _ _ _ _ _ _ _ _ _ _ _ _ _ _ srl Nrl srh Nrh srl Nrl srh Nrh).mono ?_
              rintro e w11 ⟨rfl, hbw11⟩
              rw [hself]
              clear a0 a1 a2 a3 a4 a5 a6 b0 b1 b2 b3 b4 b5 b6
              replace A := A.after hbw11
              replace B := B.after hbw11
              replace srl := srl.after hbw11
              replace srh := srh.after hbw11
              replace ssl := ssl.after hbw11
              replace ssh := ssh.after hbw11
              replace sb := sb.after hbw11
              replace syl := syl.after hbw11
              replace syh := syh.after hbw11
              replace Y := Y.after hbw11
              have hW_w11 := hW_w10.trans (hbw11.mono hW_w10.size)
              go_wp2_with fail
              refine (awake_any _).mono ?_
              rintro e wz ⟨rfl, hbz⟩
              go_wp2_with fail
              go_ret
              exact ⟨rfl, hW_w11.trans (hbz.mono hW_w11.size)⟩
      · have m2 : (200 : Int) < bn := by omega
        clear n2
        go_enter Tryd.func5, Tryd.ntmps5
        go_wp2_with fail
        refine (great_any _ _ _ _ _ _ _ _ _ _ _ _).mono ?_
        rintro e w1 ⟨rfl, hbw1⟩
        rw [hG]
        replace A := A.after hbw1
        replace B := B.after hbw1
        replace srl := srl.after hbw1
        replace srh := srh.after hbw1
        replace ssl := ssl.after hbw1
        replace ssh := ssh.after hbw1
        replace sb := sb.after hbw1
        have hW_w1 := hb0.trans (hbw1.mono hb0.size)
        have b0 := B.cell 0 rfl
        have b1 := B.cell 1 rfl
        have b2 := B.cell 2 rfl
        have b3 := B.cell 3 rfl
        have b4 := B.cell 4 rfl
        have b5 := B.cell 5 rfl
        have b6 := B.cell 6 rfl
        go_wp2_with fail
        refine (great_any _ _ _ _ _ _ _ _ _ _ _ _).mono ?_
        rintro e w2 ⟨rfl, hbw2⟩
        rw [hH]
        clear b0 b1 b2 b3 b4 b5 b6
        replace A := A.after hbw2
        replace B := B.after hbw2
        replace srl := srl.after hbw2
        replace srh := srh.after hbw2
        replace ssl := ssl.after hbw2
        replace ssh := ssh.after hbw2
        replace sb := sb.after hbw2
        have hW_w2 := hW_w1.trans (hbw2.mono hW_w1.size)
        go_wp2_with fail
        refine (awake_any _).mono ?_
        rintro e wz ⟨rfl, hbz⟩
        go_wp2_with fail
        go_ret
        exact ⟨rfl, hW_w2.trans (hbz.mono hW_w2.size)⟩
    · go_enter Tryd.func5, Tryd.ntmps5
      go_wp2_with fail
      refine (great_any _ _ _ _ _ _ _ _ _ _ _ _).mono ?_
      rintro e w1 ⟨rfl, hbw1⟩
      rw [hG]
      replace A := A.after hbw1
      replace B := B.after hbw1
      replace srl := srl.after hbw1
      replace srh := srh.after hbw1
      replace ssl := ssl.after hbw1
      replace ssh := ssh.after hbw1
      replace sb := sb.after hbw1
      have hW_w1 := hb0.trans (hbw1.mono hb0.size)
      have b0 := B.cell 0 rfl
      have b1 := B.cell 1 rfl
      have b2 := B.cell 2 rfl
      have b3 := B.cell 3 rfl
      have b4 := B.cell 4 rfl
      have b5 := B.cell 5 rfl
      have b6 := B.cell 6 rfl
      go_wp2_with fail
      refine (great_any _ _ _ _ _ _ _ _ _ _ _ _).mono ?_
      rintro e w2 ⟨rfl, hbw2⟩
      rw [hH]
      clear b0 b1 b2 b3 b4 b5 b6
      replace A := A.after hbw2
      replace B := B.after hbw2
      replace srl := srl.after hbw2
      replace srh := srh.after hbw2
      replace ssl := ssl.after hbw2
      replace ssh := ssh.after hbw2
      replace sb := sb.after hbw2
      have hW_w2 := hW_w1.trans (hbw2.mono hW_w1.size)
      go_wp2_with fail
      refine (awake_any _).mono ?_
      rintro e wz ⟨rfl, hbz⟩
      go_wp2_with fail
      go_ret
      exact ⟨rfl, hW_w2.trans (hbz.mono hW_w2.size)⟩
  · go_enter Tryd.func5, Tryd.ntmps5
    go_wp2_with fail
    refine (great_any _ _ _ _ _ _ _ _ _ _ _ _).mono ?_
    rintro e w1 ⟨rfl, hbw1⟩
    rw [hG]
    replace A := A.after hbw1
    replace B := B.after hbw1
    replace srl := srl.after hbw1
    replace srh := srh.after hbw1
    replace ssl := ssl.after hbw1
    replace ssh := ssh.after hbw1
    replace sb := sb.after hbw1
    have hW_w1 := hb0.trans (hbw1.mono hb0.size)
    go_wp2_with fail
    refine (awake_any _).mono ?_
    rintro e wz ⟨rfl, hbz⟩
    go_wp2_with fail
    go_ret
    exact ⟨rfl, hW_w1.trans (hbz.mono hW_w1.size)⟩

end Go.Proofs.YtoadpeigomkgiaaDoor

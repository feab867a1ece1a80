/- OrderCompares: the walk. -/
import Derived.Test.YtoadpeigomkgiaaDoorOrdD
namespace Go.Proofs.YtoadpeigomkgiaaDoor
open Go.RowKit

theorem cV_pairs (o : Nat) (l k : List UInt8) : (cV o l k = -1 ∧ cV o k l = 1) ∨ (cV o l k = 0 ∧ cV o k l = 0) ∨ (cV o l k = 1 ∧ cV o k l = -1) := by
  have h := cV_three o l k
  have n := cV_neg o l k
  omega
theorem okV_comm (o : Nat) (l k : List UInt8) : okV o k l = okV o l k := by unfold okV; exact Bool.and_comm _ _
theorem row_three (o : Nat) (l k m : List UInt8) (h1 : okV o l k = true) (h2 : okV o k m = true) (h : cV o l k ≤ 0) (h' : cV o k m ≤ 0) : cV o l m ≤ 0 := by
  unfold okV at h1 h2
  rw [Bool.and_eq_true] at h1 h2
  exact cV_trans o l k m h1.2 h h' h1.1 h2.2

set_option maxHeartbeats 20000000 in
set_option maxRecDepth 100000 in
theorem OrderCompares_sure (o : Nat) (aa : Option Addr) (an ac : Nat) (al : List UInt8) (ba : Option Addr) (bn bc : Nat) (bl : List UInt8) (ca : Option Addr) (cn cc : Nat) (cl : List UInt8) (w : World) (Sa : Sl w aa an ac al) (Sb : Sl w ba bn bc bl) (Sc : Sl w ca cn cc cl) :
    Calls Tryd.prog 3 #[.int .u8 o, .slice aa an ac, .slice ba bn bc, .slice ca cn cc] w fun e w' => e = .returned (.bool true) ∧ Below w.heap.size w w' := by
  have HB := Below.refl w.heap.size w
  by_cases n1 : an ≤ 200
  · by_cases n2 : bn ≤ 200
    · by_cases n3 : cn ≤ 200
      · have Na := n1
        have Nb := n2
        have Nc := n3
        have m1 : (an : Int) ≤ 200 := by omega
        have m2 : (bn : Int) ≤ 200 := by omega
        have m3 : (cn : Int) ≤ 200 := by omega
        have sa0 := Sa
        have sb0 := Sb
        have sc0 := Sc
        clear n1 n2 n3
        obtain ⟨I, hI⟩ : ∃ I, isV o al = I := ⟨_, rfl⟩
        obtain ⟨O, hO⟩ : ∃ O, okV o al bl = O := ⟨_, rfl⟩
        obtain ⟨F, hF⟩ : ∃ F, okV o bl cl = F := ⟨_, rfl⟩
        obtain ⟨G, hG⟩ : ∃ G, okV o al cl = G := ⟨_, rfl⟩
        have hP : okV o bl al = O := (okV_comm o al bl).trans hO
        have hT := row_three o al bl cl
        rw [hO, hF] at hT
        have HO := Lib.hid hO
        have HP := Lib.hid hP
        have HF := Lib.hid hF
        have HG := Lib.hid hG
        have HI := Lib.hid hI
        clear hO hF hG hP hI
        obtain ⟨V, hV⟩ : ∃ V, cV o al cl = V := ⟨_, rfl⟩
        obtain ⟨U, hU⟩ : ∃ U, cV o bl cl = U := ⟨_, rfl⟩
        have t2 := cV_three o bl cl
        have t3 := cV_three o al cl
        rw [hV] at hT t3
        rw [hU] at hT t2
        have HV := Lib.hid hV
        have HU := Lib.hid hU
        clear hV hU
        rcases cV_pairs o al bl with ⟨x1, x2⟩ | ⟨x1, x2⟩ | ⟨x1, x2⟩
        all_goals
          rw [x1] at hT
          have HX := Lib.hid x1
          have HY := Lib.hid x2
          clear x1 x2
          cases O
          · clear hT t2 t3
            go_enter Tryd.func3, Tryd.ntmps3
            go_wp2_with fail
            refine (compare_any _ _ _ _ _ _ _ _ _ _ sa0 sb0 Na Nb).mono ?_
            rintro e w1 ⟨rfl, hb1⟩
            rw [HX.out, HO.out]
            have hW1 := hb1
            have sa1 := sa0.after hb1
            have sb1 := sb0.after hb1
            have sc1 := sc0.after hb1
            go_wp2_with fail
            refine (refCompare_any _ _ _ _ _ _ _ _ _ _ sa1 sb1 Na Nb).mono ?_
            rintro e w2 ⟨rfl, hb2⟩
            rw [HX.out, HO.out]
            have hW2 := hW1.trans (hb2.mono hW1.size)
            have sa2 := sa1.after hb2
            have sb2 := sb1.after hb2
            have sc2 := sc1.after hb2
            go_wp2_with fail
            refine (compare_any _ _ _ _ _ _ _ _ _ _ sb2 sa2 Nb Na).mono ?_
            rintro e w3 ⟨rfl, hb3⟩
            rw [HY.out, HP.out]
            have hW3 := hW2.trans (hb3.mono hW2.size)
            have sa3 := sa2.after hb3
            have sb3 := sb2.after hb3
            have sc3 := sc2.after hb3
            go_wp2_with fail
            refine (is_any _ _ _ _ _ _ sa3 Na).mono ?_
            rintro e w4 ⟨rfl, hb4⟩
            rw [HI.out]
            have hW4 := hW3.trans (hb4.mono hW3.size)
            have sa4 := sa3.after hb4
            have sb4 := sb3.after hb4
            have sc4 := sc3.after hb4
            go_wp2_with fail
            refine (refIs_any _ _ _ _ _ _ sa4 Na).mono ?_
            rintro e w5 ⟨rfl, hb5⟩
            rw [HI.out]
            have hW5 := hW4.trans (hb5.mono hW4.size)
            have sa5 := sa4.after hb5
            have sb5 := sb4.after hb5
            have sc5 := sc4.after hb5
            go_wp2_with fail
            refine (compare_any _ _ _ _ _ _ _ _ _ _ sb5 sc5 Nb Nc).mono ?_
            rintro e w6 ⟨rfl, hb6⟩
            rw [HU.out, HF.out]
            have hW6 := hW5.trans (hb6.mono hW5.size)
            have sa6 := sa5.after hb6
            have sb6 := sb5.after hb6
            have sc6 := sc5.after hb6
            go_wp2_with fail
            refine (compare_any _ _ _ _ _ _ _ _ _ _ sa6 sc6 Na Nc).mono ?_
            rintro e w7 ⟨rfl, hb7⟩
            rw [HV.out, HG.out]
            have hW7 := hW6.trans (hb7.mono hW6.size)
            have sa7 := sa6.after hb7
            have sb7 := sb6.after hb7
            have sc7 := sc6.after hb7
            go_wp2_with fail
            refine (awake_any _).mono ?_
            rintro e w8 ⟨rfl, hb8⟩
            have hW8 := hW7.trans (hb8.mono hW7.size)
            go_wp2_with fail
            go_ret
            exact ⟨rfl, hW8⟩
          · cases F
            · clear hT t2 t3
              go_enter Tryd.func3, Tryd.ntmps3
              go_wp2_with fail
              refine (compare_any _ _ _ _ _ _ _ _ _ _ sa0 sb0 Na Nb).mono ?_
              rintro e w1 ⟨rfl, hb1⟩
              rw [HX.out, HO.out]
              have hW1 := hb1
              have sa1 := sa0.after hb1
              have sb1 := sb0.after hb1
              have sc1 := sc0.after hb1
              go_wp2_with fail
              refine (refCompare_any _ _ _ _ _ _ _ _ _ _ sa1 sb1 Na Nb).mono ?_
              rintro e w2 ⟨rfl, hb2⟩
              rw [HX.out, HO.out]
              have hW2 := hW1.trans (hb2.mono hW1.size)
              have sa2 := sa1.after hb2
              have sb2 := sb1.after hb2
              have sc2 := sc1.after hb2
              go_wp2_with fail
              refine (compare_any _ _ _ _ _ _ _ _ _ _ sb2 sa2 Nb Na).mono ?_
              rintro e w3 ⟨rfl, hb3⟩
              rw [HY.out, HP.out]
              have hW3 := hW2.trans (hb3.mono hW2.size)
              have sa3 := sa2.after hb3
              have sb3 := sb2.after hb3
              have sc3 := sc2.after hb3
              go_wp2_with fail
              refine (is_any _ _ _ _ _ _ sa3 Na).mono ?_
              rintro e w4 ⟨rfl, hb4⟩
              rw [HI.out]
              have hW4 := hW3.trans (hb4.mono hW3.size)
              have sa4 := sa3.after hb4
              have sb4 := sb3.after hb4
              have sc4 := sc3.after hb4
              go_wp2_with fail
              refine (refIs_any _ _ _ _ _ _ sa4 Na).mono ?_
              rintro e w5 ⟨rfl, hb5⟩
              rw [HI.out]
              have hW5 := hW4.trans (hb5.mono hW4.size)
              have sa5 := sa4.after hb5
              have sb5 := sb4.after hb5
              have sc5 := sc4.after hb5
              go_wp2_with fail
              refine (compare_any _ _ _ _ _ _ _ _ _ _ sb5 sc5 Nb Nc).mono ?_
              rintro e w6 ⟨rfl, hb6⟩
              rw [HU.out, HF.out]
              have hW6 := hW5.trans (hb6.mono hW5.size)
              have sa6 := sa5.after hb6
              have sb6 := sb5.after hb6
              have sc6 := sc5.after hb6
              go_wp2_with fail
              refine (compare_any _ _ _ _ _ _ _ _ _ _ sa6 sc6 Na Nc).mono ?_
              rintro e w7 ⟨rfl, hb7⟩
              rw [HV.out, HG.out]
              have hW7 := hW6.trans (hb7.mono hW6.size)
              have sa7 := sa6.after hb7
              have sb7 := sb6.after hb7
              have sc7 := sc6.after hb7
              go_wp2_with fail
              refine (awake_any _).mono ?_
              rintro e w8 ⟨rfl, hb8⟩
              have hW8 := hW7.trans (hb8.mono hW7.size)
              go_wp2_with fail
              go_ret
              exact ⟨rfl, hW8⟩
            · cases G
              · clear hT t2 t3
                go_enter Tryd.func3, Tryd.ntmps3
                go_wp2_with fail
                refine (compare_any _ _ _ _ _ _ _ _ _ _ sa0 sb0 Na Nb).mono ?_
                rintro e w1 ⟨rfl, hb1⟩
                rw [HX.out, HO.out]
                have hW1 := hb1
                have sa1 := sa0.after hb1
                have sb1 := sb0.after hb1
                have sc1 := sc0.after hb1
                go_wp2_with fail
                refine (refCompare_any _ _ _ _ _ _ _ _ _ _ sa1 sb1 Na Nb).mono ?_
                rintro e w2 ⟨rfl, hb2⟩
                rw [HX.out, HO.out]
                have hW2 := hW1.trans (hb2.mono hW1.size)
                have sa2 := sa1.after hb2
                have sb2 := sb1.after hb2
                have sc2 := sc1.after hb2
                go_wp2_with fail
                refine (compare_any _ _ _ _ _ _ _ _ _ _ sb2 sa2 Nb Na).mono ?_
                rintro e w3 ⟨rfl, hb3⟩
                rw [HY.out, HP.out]
                have hW3 := hW2.trans (hb3.mono hW2.size)
                have sa3 := sa2.after hb3
                have sb3 := sb2.after hb3
                have sc3 := sc2.after hb3
                go_wp2_with fail
                refine (is_any _ _ _ _ _ _ sa3 Na).mono ?_
                rintro e w4 ⟨rfl, hb4⟩
                rw [HI.out]
                have hW4 := hW3.trans (hb4.mono hW3.size)
                have sa4 := sa3.after hb4
                have sb4 := sb3.after hb4
                have sc4 := sc3.after hb4
                go_wp2_with fail
                refine (refIs_any _ _ _ _ _ _ sa4 Na).mono ?_
                rintro e w5 ⟨rfl, hb5⟩
                rw [HI.out]
                have hW5 := hW4.trans (hb5.mono hW4.size)
                have sa5 := sa4.after hb5
                have sb5 := sb4.after hb5
                have sc5 := sc4.after hb5
                go_wp2_with fail
                refine (compare_any _ _ _ _ _ _ _ _ _ _ sb5 sc5 Nb Nc).mono ?_
                rintro e w6 ⟨rfl, hb6⟩
                rw [HU.out, HF.out]
                have hW6 := hW5.trans (hb6.mono hW5.size)
                have sa6 := sa5.after hb6
                have sb6 := sb5.after hb6
                have sc6 := sc5.after hb6
                go_wp2_with fail
                refine (compare_any _ _ _ _ _ _ _ _ _ _ sa6 sc6 Na Nc).mono ?_
                rintro e w7 ⟨rfl, hb7⟩
                rw [HV.out, HG.out]
                have hW7 := hW6.trans (hb7.mono hW6.size)
                have sa7 := sa6.after hb7
                have sb7 := sb6.after hb7
                have sc7 := sc6.after hb7
                go_wp2_with fail
                refine (awake_any _).mono ?_
                rintro e w8 ⟨rfl, hb8⟩
                have hW8 := hW7.trans (hb8.mono hW7.size)
                go_wp2_with fail
                go_ret
                exact ⟨rfl, hW8⟩
              · rcases t2 with rfl | rfl | rfl
                all_goals
                  rcases t3 with rfl | rfl | rfl
                  all_goals
                    first
                    | (exfalso; have := hT rfl rfl (by decide) (by decide); revert this; decide)
                    | (clear hT
                       go_enter Tryd.func3, Tryd.ntmps3
                       go_wp2_with fail
                       refine (compare_any _ _ _ _ _ _ _ _ _ _ sa0 sb0 Na Nb).mono ?_
                       rintro e w1 ⟨rfl, hb1⟩
                       rw [HX.out, HO.out]
                       have hW1 := hb1
                       have sa1 := sa0.after hb1
                       have sb1 := sb0.after hb1
                       have sc1 := sc0.after hb1
                       go_wp2_with fail
                       refine (refCompare_any _ _ _ _ _ _ _ _ _ _ sa1 sb1 Na Nb).mono ?_
                       rintro e w2 ⟨rfl, hb2⟩
                       rw [HX.out, HO.out]
                       have hW2 := hW1.trans (hb2.mono hW1.size)
                       have sa2 := sa1.after hb2
                       have sb2 := sb1.after hb2
                       have sc2 := sc1.after hb2
                       go_wp2_with fail
                       refine (compare_any _ _ _ _ _ _ _ _ _ _ sb2 sa2 Nb Na).mono ?_
                       rintro e w3 ⟨rfl, hb3⟩
                       rw [HY.out, HP.out]
                       have hW3 := hW2.trans (hb3.mono hW2.size)
                       have sa3 := sa2.after hb3
                       have sb3 := sb2.after hb3
                       have sc3 := sc2.after hb3
                       go_wp2_with fail
                       refine (is_any _ _ _ _ _ _ sa3 Na).mono ?_
                       rintro e w4 ⟨rfl, hb4⟩
                       rw [HI.out]
                       have hW4 := hW3.trans (hb4.mono hW3.size)
                       have sa4 := sa3.after hb4
                       have sb4 := sb3.after hb4
                       have sc4 := sc3.after hb4
                       go_wp2_with fail
                       refine (refIs_any _ _ _ _ _ _ sa4 Na).mono ?_
                       rintro e w5 ⟨rfl, hb5⟩
                       rw [HI.out]
                       have hW5 := hW4.trans (hb5.mono hW4.size)
                       have sa5 := sa4.after hb5
                       have sb5 := sb4.after hb5
                       have sc5 := sc4.after hb5
                       go_wp2_with fail
                       refine (compare_any _ _ _ _ _ _ _ _ _ _ sb5 sc5 Nb Nc).mono ?_
                       rintro e w6 ⟨rfl, hb6⟩
                       rw [HU.out, HF.out]
                       have hW6 := hW5.trans (hb6.mono hW5.size)
                       have sa6 := sa5.after hb6
                       have sb6 := sb5.after hb6
                       have sc6 := sc5.after hb6
                       go_wp2_with fail
                       refine (compare_any _ _ _ _ _ _ _ _ _ _ sa6 sc6 Na Nc).mono ?_
                       rintro e w7 ⟨rfl, hb7⟩
                       rw [HV.out, HG.out]
                       have hW7 := hW6.trans (hb7.mono hW6.size)
                       have sa7 := sa6.after hb7
                       have sb7 := sb6.after hb7
                       have sc7 := sc6.after hb7
                       go_wp2_with fail
                       refine (awake_any _).mono ?_
                       rintro e w8 ⟨rfl, hb8⟩
                       have hW8 := hW7.trans (hb8.mono hW7.size)
                       go_wp2_with fail
                       go_ret
                       exact ⟨rfl, hW8⟩)
      · have m1 : (an : Int) ≤ 200 := by omega
        have m2 : (bn : Int) ≤ 200 := by omega
        have m3 : (200 : Int) < cn := by omega
        clear n1 n2 n3
        go_enter Tryd.func3, Tryd.ntmps3
        go_wp2_with fail
        refine (awake_any _).mono ?_
        rintro e wz ⟨rfl, hbz⟩
        go_wp2_with fail
        go_ret
        exact ⟨rfl, HB.trans (hbz.mono HB.size)⟩
    · have m1 : (an : Int) ≤ 200 := by omega
      have m2 : (200 : Int) < bn := by omega
      clear n1 n2
      go_enter Tryd.func3, Tryd.ntmps3
      go_wp2_with fail
      refine (awake_any _).mono ?_
      rintro e wz ⟨rfl, hbz⟩
      go_wp2_with fail
      go_ret
      exact ⟨rfl, HB.trans (hbz.mono HB.size)⟩
  · have m1 : (200 : Int) < an := by omega
    clear n1
    go_enter Tryd.func3, Tryd.ntmps3
    go_wp2_with fail
    refine (awake_any _).mono ?_
    rintro e wz ⟨rfl, hbz⟩
    go_wp2_with fail
    go_ret
    exact ⟨rfl, HB.trans (hbz.mono HB.size)⟩


theorem OrderCompares_walk (a0 : Int) (a1 : Option Addr) (len1 cap1 : Nat) (z1 : List Int) (a2 : Option Addr) (len2 cap2 : Nat) (z2 : List Int) (a3 : Option Addr) (len3 cap3 : Nat) (z3 : List Int) (w : World)
    (w0 : (Lit.int .u8 a0).wf = true) (w1 : IsRow .u8 w a1 len1 cap1 z1) (w2 : IsRow .u8 w a2 len2 cap2 z2) (w3 : IsRow .u8 w a3 len3 cap3 z3) :
    Calls Tryd.prog 3 #[.int .u8 a0, .slice a1 len1 cap1, .slice a2 len2 cap2, .slice a3 len3 cap3] w fun e w' => e = .returned (.bool true) ∧ Below w.heap.size w w' := by
  obtain ⟨l1, s1⟩ := w1.sl
  obtain ⟨l2, s2⟩ := w2.sl
  obtain ⟨l3, s3⟩ := w3.sl
  have h0 : 0 ≤ a0 := by simp [Lit.wf, IntKind.min, IntKind.max, IntKind.bits, IntKind.signed] at w0; omega
  obtain ⟨o, rfl⟩ : ∃ o : Nat, a0 = o := ⟨a0.toNat, by omega⟩
  exact OrderCompares_sure o _ _ _ _ _ _ _ _ _ _ _ _ w s1 s2 s3
end Go.Proofs.YtoadpeigomkgiaaDoor

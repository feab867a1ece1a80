/- OrderRanges: the walk. -/
import Derived.Test.YtoadpeigomkgiaaDoorOrdQ
namespace Go.Proofs.YtoadpeigomkgiaaDoor
open Go.RowKit

set_option maxHeartbeats 20000000 in
set_option maxRecDepth 100000 in
theorem OrderRanges_walk (r : Nat) (rli rlo : Bool) (rla : Option Addr) (rln rlc : Nat) (rll : List UInt8) (rhi rho : Bool) (rha : Option Addr) (rhn rhc : Nat) (rhl : List UInt8) (ba : Option Addr) (bn bc : Nat) (z : List Int) (w : World) (Srl : Sl w rla rln rlc rll) (Srh : Sl w rha rhn rhc rhl) (wb : IsRow .u8 w ba bn bc z) :
    Calls Tryd.prog 4 #[.agg #[.int .u8 r, .bool rli, .bool rlo, .slice rla rln rlc, .bool rhi, .bool rho, .slice rha rhn rhc], .slice ba bn bc] w fun e w' => e = .returned (.bool true) ∧ Below w.heap.size w w' := by
  obtain ⟨bl, Sb⟩ := wb.sl
  clear wb
  have hb0 : Below w.heap.size w (w.alloc (.cells #[.int .u8 r, .bool rli, .bool rlo, .slice rla rln rlc, .bool rhi, .bool rho, .slice rha rhn rhc] 31 (0, 0))) := (Below.refl _ _).alloc (Nat.le_refl _) _
  have B0 : Box (w.alloc (.cells #[.int .u8 r, .bool rli, .bool rlo, .slice rla rln rlc, .bool rhi, .bool rho, .slice rha rhn rhc] 31 (0, 0))) w.heap.size 31 #[.int .u8 r, .bool rli, .bool rlo, .slice rla rln rlc, .bool rhi, .bool rho, .slice rha rhn rhc] := Box.new _ _ _
  cases hG : (decide (200 < rln) || decide (200 < rhn))
  · rw [Bool.or_eq_false_iff, decide_eq_false_iff_not, decide_eq_false_iff_not] at hG
    obtain ⟨g1, g2⟩ := hG
    have Nrl : rln ≤ 200 := by omega
    have Nrh : rhn ≤ 200 := by omega
    have hG : (decide (200 < rln) || decide (200 < rhn)) = false := by simp [g1, g2]
    clear g1 g2
    by_cases n2 : bn ≤ 200
    · have Nb := n2
      have m2 : (bn : Int) ≤ 200 := by omega
      clear n2
      obtain ⟨M, hM⟩ : ∃ M, mayB ⟨r, ⟨rli, rlo, rll⟩, ⟨rhi, rho, rhl⟩⟩ = M := ⟨_, rfl⟩
      obtain ⟨I, hI⟩ : ∃ I, inB ⟨r, ⟨rli, rlo, rll⟩, ⟨rhi, rho, rhl⟩⟩ bl = I := ⟨_, rfl⟩
      cases hE : emptyB ⟨r, ⟨rli, rlo, rll⟩, ⟨rhi, rho, rhl⟩⟩
      · go_enter Tryd.func4, Tryd.ntmps4
        go_wp2_with fail
        refine (great_any _ _ _ _ _ _ _ _ _ _ _ _).mono ?_
        rintro e w1 ⟨rfl, hb1⟩
        rw [hG]
        have hW1 := hb0.trans (hb1.mono hb0.size)
        have sl0 := Srl.after hb0
        have B1 := B0.after hb1
        have srl := sl0.after hb1
        have srh := (Srh.after hb0).after hb1
        have sb := (Sb.after hb0).after hb1
        go_upto_region 3 with fail
        refine wp_region_made w1.heap.size w1 rfl (by kernel_rfl) (Below.refl _ _) ?_
        refine wpQ_load_box rfl 31 _ rfl B1 (by rfl) B1.lt Tryd.underlying31 rfl (by kernel_rfl) ?_
        simp only [Act.put, List.setIfInBounds_toArray, List.set_cons_zero, List.set_cons_succ]
        refine wpQ_callB rfl 14 #[.agg #[.int .u8 r, .bool rli, .bool rlo, .slice rla rln rlc, .bool rhi, .bool rho, .slice rha rhn rhc]] (fun w' => by simp [go_sem]) (.bool M) (Nat.le_refl _) (fun w' h' => hM ▸ may_any _ _ _ _ _ _ _ _ _ _ _ _ _ _ (srl.after h') Nrl (srh.after h') Nrh) ?_
        simp only [Act.put, List.setIfInBounds_toArray, List.set_cons_zero, List.set_cons_succ]
        refine wpQ_load_box rfl 31 _ rfl B1 (by rfl) B1.lt Tryd.underlying31 rfl (by kernel_rfl) ?_
        simp only [Act.put, List.setIfInBounds_toArray, List.set_cons_zero, List.set_cons_succ]
        refine wpQ_callB rfl 15 #[.agg #[.int .u8 r, .bool rli, .bool rlo, .slice rla rln rlc, .bool rhi, .bool rho, .slice rha rhn rhc]] (fun w' => by simp [go_sem]) (.bool M) (Nat.le_refl _) (fun w' h' => hM ▸ refMay_any _ _ _ _ _ _ _ _ _ _ _ _ _ _ (srl.after h') Nrl (srh.after h') Nrh) ?_
        simp only [Act.put, List.setIfInBounds_toArray, List.set_cons_zero, List.set_cons_succ]
        refine wpQ_run rfl (.bool true) (fun w' hw' => by simp [go_sem]) ?_
        simp only [Act.put, List.setIfInBounds_toArray, List.set_cons_zero, List.set_cons_succ]
        refine wpQ_run rfl (.bool true) (fun w' hw' => by simp [go_sem]) ?_
        simp only [Act.put, List.setIfInBounds_toArray, List.set_cons_zero, List.set_cons_succ]
        refine wpQ_load_box rfl 31 _ rfl B1 (by rfl) B1.lt Tryd.underlying31 rfl (by kernel_rfl) ?_
        simp only [Act.put, List.setIfInBounds_toArray, List.set_cons_zero, List.set_cons_succ]
        refine wpQ_run rfl (.slice ba bn bc) (fun w' hw' => by simp [go_sem]) ?_
        simp only [Act.put, List.setIfInBounds_toArray, List.set_cons_zero, List.set_cons_succ]
        refine wpQ_callB rfl 16 #[.agg #[.int .u8 r, .bool rli, .bool rlo, .slice rla rln rlc, .bool rhi, .bool rho, .slice rha rhn rhc], .slice ba bn bc] (fun w' => by simp [go_sem]) (.bool I) (Nat.le_refl _) (fun w' h' => hI ▸ in_any _ _ _ _ _ _ _ _ _ _ _ _ _ _ _ _ _ _ (srl.after h') Nrl (srh.after h') Nrh (sb.after h') Nb) ?_
        simp only [Act.put, List.setIfInBounds_toArray, List.set_cons_zero, List.set_cons_succ]
        refine wpQ_load_box rfl 31 _ rfl B1 (by rfl) B1.lt Tryd.underlying31 rfl (by kernel_rfl) ?_
        simp only [Act.put, List.setIfInBounds_toArray, List.set_cons_zero, List.set_cons_succ]
        refine wpQ_run rfl (.slice ba bn bc) (fun w' hw' => by simp [go_sem]) ?_
        simp only [Act.put, List.setIfInBounds_toArray, List.set_cons_zero, List.set_cons_succ]
        refine wpQ_callB rfl 17 #[.agg #[.int .u8 r, .bool rli, .bool rlo, .slice rla rln rlc, .bool rhi, .bool rho, .slice rha rhn rhc], .slice ba bn bc] (fun w' => by simp [go_sem]) (.bool I) (Nat.le_refl _) (fun w' h' => hI ▸ refIn_any _ _ _ _ _ _ _ _ _ _ _ _ _ _ _ _ _ _ (srl.after h') Nrl (srh.after h') Nrh (sb.after h') Nb) ?_
        simp only [Act.put, List.setIfInBounds_toArray, List.set_cons_zero, List.set_cons_succ]
        refine wpQ_run rfl (.bool true) (fun w' hw' => by simp [go_sem]) ?_
        simp only [Act.put, List.setIfInBounds_toArray, List.set_cons_zero, List.set_cons_succ]
        refine wpQ_run rfl (.bool true) (fun w' hw' => by simp [go_sem]) ?_
        simp only [Act.put, List.setIfInBounds_toArray, List.set_cons_zero, List.set_cons_succ]
        refine wpQ_run rfl (.bool true) (fun w' hw' => by simp [go_sem]) ?_
        simp only [Act.put, List.setIfInBounds_toArray, List.set_cons_zero, List.set_cons_succ]
        refine wpQ_load_box rfl 31 _ rfl B1 (by rfl) B1.lt Tryd.underlying31 rfl (by kernel_rfl) ?_
        simp only [Act.put, List.setIfInBounds_toArray, List.set_cons_zero, List.set_cons_succ]
        refine wpQ_callB rfl 18 #[.agg #[.int .u8 r, .bool rli, .bool rlo, .slice rla rln rlc, .bool rhi, .bool rho, .slice rha rhn rhc]] (fun w' => by simp [go_sem]) (.bool false) (Nat.le_refl _) (fun w' h' => hE ▸ empty_any _ _ _ _ _ _ _ _ _ _ _ _ _ _ (srl.after h') Nrl (srh.after h') Nrh) ?_
        simp only [Act.put, List.setIfInBounds_toArray, List.set_cons_zero, List.set_cons_succ]
        refine wpQ_load_box rfl 31 _ rfl B1 (by rfl) B1.lt Tryd.underlying31 rfl (by kernel_rfl) ?_
        simp only [Act.put, List.setIfInBounds_toArray, List.set_cons_zero, List.set_cons_succ]
        refine wpQ_callB rfl 19 #[.agg #[.int .u8 r, .bool rli, .bool rlo, .slice rla rln rlc, .bool rhi, .bool rho, .slice rha rhn rhc]] (fun w' => by simp [go_sem]) (.bool false) (Nat.le_refl _) (fun w' h' => hE ▸ refEmpty_any _ _ _ _ _ _ _ _ _ _ _ _ _ _ (srl.after h') Nrl (srh.after h') Nrh) ?_
        simp only [Act.put, List.setIfInBounds_toArray, List.set_cons_zero, List.set_cons_succ]
        refine wpQ_run rfl (.bool true) (fun w' hw' => by simp [go_sem]) ?_
        simp only [Act.put, List.setIfInBounds_toArray, List.set_cons_zero, List.set_cons_succ]
        refine wpQ_run rfl (.bool true) (fun w' hw' => by simp [go_sem]) ?_
        simp only [Act.put, List.setIfInBounds_toArray, List.set_cons_zero, List.set_cons_succ]
        refine wpQ_run rfl (.bool true) (fun w' hw' => by simp [go_sem]) ?_
        simp only [Act.put, List.setIfInBounds_toArray, List.set_cons_zero, List.set_cons_succ]
        refine wpQ_load_box rfl 31 _ rfl B1 (by rfl) B1.lt Tryd.underlying31 rfl (by kernel_rfl) ?_
        simp only [Act.put, List.setIfInBounds_toArray, List.set_cons_zero, List.set_cons_succ]
        refine wpQ_callB rfl 18 #[.agg #[.int .u8 r, .bool rli, .bool rlo, .slice rla rln rlc, .bool rhi, .bool rho, .slice rha rhn rhc]] (fun w' => by simp [go_sem]) (.bool false) (Nat.le_refl _) (fun w' h' => hE ▸ empty_any _ _ _ _ _ _ _ _ _ _ _ _ _ _ (srl.after h') Nrl (srh.after h') Nrh) ?_
        simp only [Act.put, List.setIfInBounds_toArray, List.set_cons_zero, List.set_cons_succ]
        refine wpQ_run rfl (.bool true) (fun w' hw' => by simp [go_sem]) ?_
        simp only [Act.put, List.setIfInBounds_toArray, List.set_cons_zero, List.set_cons_succ]
        refine wpQ_run rfl (.bool true) (fun w' hw' => by simp [go_sem]) ?_
        simp only [Act.put, List.setIfInBounds_toArray, List.set_cons_zero, List.set_cons_succ]
        refine wpQ_skip rfl ?_
        simp only [Act.put, List.setIfInBounds_toArray, List.set_cons_zero, List.set_cons_succ]
        refine wpQ_skip rfl ?_
        simp only [Act.put, List.setIfInBounds_toArray, List.set_cons_zero, List.set_cons_succ]
        refine wpQ_skip rfl ?_
        simp only [Act.put, List.setIfInBounds_toArray, List.set_cons_zero, List.set_cons_succ]
        refine wpQ_skip rfl ?_
        simp only [Act.put, List.setIfInBounds_toArray, List.set_cons_zero, List.set_cons_succ]
        refine wpQ_run rfl (.bool true) (fun w' hw' => by simp [go_sem]) ?_
        simp only [Act.put, List.setIfInBounds_toArray, List.set_cons_zero, List.set_cons_succ]
        refine wpQ_run rfl (.bool true) (fun w' hw' => by simp [go_sem]) ?_
        simp only [Act.put, List.setIfInBounds_toArray, List.set_cons_zero, List.set_cons_succ]
        refine wpQ_run rfl (.bool true) (fun w' hw' => by simp [go_sem]) ?_
        simp only [Act.put, List.setIfInBounds_toArray, List.set_cons_zero, List.set_cons_succ]
        refine wpQ_callB rfl 8 #[] (fun w' => by simp [go_sem]) (.bool true) (Nat.le_refl _) (fun w' h' => awake_any _) ?_
        simp only [Act.put, List.setIfInBounds_toArray, List.set_cons_zero, List.set_cons_succ]
        refine wpQ_run rfl (.bool true) (fun w' hw' => by simp [go_sem]) ?_
        simp only [Act.put, List.setIfInBounds_toArray, List.set_cons_zero, List.set_cons_succ]
        refine wpQ_run rfl (.bool true) (fun w' hw' => by simp [go_sem]) ?_
        simp only [Act.put, List.setIfInBounds_toArray, List.set_cons_zero, List.set_cons_succ]
        intro w2 hb2
        have hW2 := hW1.trans (hb2.mono hW1.size)
        go_wp2_with fail
        go_ret
        exact ⟨rfl, hW2⟩
      · have hIf : I = false := by rw [← hI]; exact empty_in _ _ hE
        go_enter Tryd.func4, Tryd.ntmps4
        go_wp2_with fail
        refine (great_any _ _ _ _ _ _ _ _ _ _ _ _).mono ?_
        rintro e w1 ⟨rfl, hb1⟩
        rw [hG]
        have hW1 := hb0.trans (hb1.mono hb0.size)
        have B1 := B0.after hb1
        have srl := (Srl.after hb0).after hb1
        have srh := (Srh.after hb0).after hb1
        have sb := (Sb.after hb0).after hb1
        go_upto_region 3 with fail
        refine wp_region_made w1.heap.size w1 rfl (by kernel_rfl) (Below.refl _ _) ?_
        refine wpQ_load_box rfl 31 _ rfl B1 (by rfl) B1.lt Tryd.underlying31 rfl (by kernel_rfl) ?_
        simp only [Act.put, List.setIfInBounds_toArray, List.set_cons_zero, List.set_cons_succ]
        refine wpQ_callB rfl 14 #[.agg #[.int .u8 r, .bool rli, .bool rlo, .slice rla rln rlc, .bool rhi, .bool rho, .slice rha rhn rhc]] (fun w' => by simp [go_sem]) (.bool M) (Nat.le_refl _) (fun w' h' => hM ▸ may_any _ _ _ _ _ _ _ _ _ _ _ _ _ _ (srl.after h') Nrl (srh.after h') Nrh) ?_
        simp only [Act.put, List.setIfInBounds_toArray, List.set_cons_zero, List.set_cons_succ]
        refine wpQ_load_box rfl 31 _ rfl B1 (by rfl) B1.lt Tryd.underlying31 rfl (by kernel_rfl) ?_
        simp only [Act.put, List.setIfInBounds_toArray, List.set_cons_zero, List.set_cons_succ]
        refine wpQ_callB rfl 15 #[.agg #[.int .u8 r, .bool rli, .bool rlo, .slice rla rln rlc, .bool rhi, .bool rho, .slice rha rhn rhc]] (fun w' => by simp [go_sem]) (.bool M) (Nat.le_refl _) (fun w' h' => hM ▸ refMay_any _ _ _ _ _ _ _ _ _ _ _ _ _ _ (srl.after h') Nrl (srh.after h') Nrh) ?_
        simp only [Act.put, List.setIfInBounds_toArray, List.set_cons_zero, List.set_cons_succ]
        refine wpQ_run rfl (.bool true) (fun w' hw' => by simp [go_sem]) ?_
        simp only [Act.put, List.setIfInBounds_toArray, List.set_cons_zero, List.set_cons_succ]
        refine wpQ_run rfl (.bool true) (fun w' hw' => by simp [go_sem]) ?_
        simp only [Act.put, List.setIfInBounds_toArray, List.set_cons_zero, List.set_cons_succ]
        refine wpQ_load_box rfl 31 _ rfl B1 (by rfl) B1.lt Tryd.underlying31 rfl (by kernel_rfl) ?_
        simp only [Act.put, List.setIfInBounds_toArray, List.set_cons_zero, List.set_cons_succ]
        refine wpQ_run rfl (.slice ba bn bc) (fun w' hw' => by simp [go_sem]) ?_
        simp only [Act.put, List.setIfInBounds_toArray, List.set_cons_zero, List.set_cons_succ]
        refine wpQ_callB rfl 16 #[.agg #[.int .u8 r, .bool rli, .bool rlo, .slice rla rln rlc, .bool rhi, .bool rho, .slice rha rhn rhc], .slice ba bn bc] (fun w' => by simp [go_sem]) (.bool I) (Nat.le_refl _) (fun w' h' => hI ▸ in_any _ _ _ _ _ _ _ _ _ _ _ _ _ _ _ _ _ _ (srl.after h') Nrl (srh.after h') Nrh (sb.after h') Nb) ?_
        simp only [Act.put, List.setIfInBounds_toArray, List.set_cons_zero, List.set_cons_succ]
        refine wpQ_load_box rfl 31 _ rfl B1 (by rfl) B1.lt Tryd.underlying31 rfl (by kernel_rfl) ?_
        simp only [Act.put, List.setIfInBounds_toArray, List.set_cons_zero, List.set_cons_succ]
        refine wpQ_run rfl (.slice ba bn bc) (fun w' hw' => by simp [go_sem]) ?_
        simp only [Act.put, List.setIfInBounds_toArray, List.set_cons_zero, List.set_cons_succ]
        refine wpQ_callB rfl 17 #[.agg #[.int .u8 r, .bool rli, .bool rlo, .slice rla rln rlc, .bool rhi, .bool rho, .slice rha rhn rhc], .slice ba bn bc] (fun w' => by simp [go_sem]) (.bool I) (Nat.le_refl _) (fun w' h' => hI ▸ refIn_any _ _ _ _ _ _ _ _ _ _ _ _ _ _ _ _ _ _ (srl.after h') Nrl (srh.after h') Nrh (sb.after h') Nb) ?_
        simp only [Act.put, List.setIfInBounds_toArray, List.set_cons_zero, List.set_cons_succ]
        refine wpQ_run rfl (.bool true) (fun w' hw' => by simp [go_sem]) ?_
        simp only [Act.put, List.setIfInBounds_toArray, List.set_cons_zero, List.set_cons_succ]
        refine wpQ_run rfl (.bool true) (fun w' hw' => by simp [go_sem]) ?_
        simp only [Act.put, List.setIfInBounds_toArray, List.set_cons_zero, List.set_cons_succ]
        refine wpQ_run rfl (.bool true) (fun w' hw' => by simp [go_sem]) ?_
        simp only [Act.put, List.setIfInBounds_toArray, List.set_cons_zero, List.set_cons_succ]
        refine wpQ_load_box rfl 31 _ rfl B1 (by rfl) B1.lt Tryd.underlying31 rfl (by kernel_rfl) ?_
        simp only [Act.put, List.setIfInBounds_toArray, List.set_cons_zero, List.set_cons_succ]
        refine wpQ_callB rfl 18 #[.agg #[.int .u8 r, .bool rli, .bool rlo, .slice rla rln rlc, .bool rhi, .bool rho, .slice rha rhn rhc]] (fun w' => by simp [go_sem]) (.bool true) (Nat.le_refl _) (fun w' h' => hE ▸ empty_any _ _ _ _ _ _ _ _ _ _ _ _ _ _ (srl.after h') Nrl (srh.after h') Nrh) ?_
        simp only [Act.put, List.setIfInBounds_toArray, List.set_cons_zero, List.set_cons_succ]
        refine wpQ_load_box rfl 31 _ rfl B1 (by rfl) B1.lt Tryd.underlying31 rfl (by kernel_rfl) ?_
        simp only [Act.put, List.setIfInBounds_toArray, List.set_cons_zero, List.set_cons_succ]
        refine wpQ_callB rfl 19 #[.agg #[.int .u8 r, .bool rli, .bool rlo, .slice rla rln rlc, .bool rhi, .bool rho, .slice rha rhn rhc]] (fun w' => by simp [go_sem]) (.bool true) (Nat.le_refl _) (fun w' h' => hE ▸ refEmpty_any _ _ _ _ _ _ _ _ _ _ _ _ _ _ (srl.after h') Nrl (srh.after h') Nrh) ?_
        simp only [Act.put, List.setIfInBounds_toArray, List.set_cons_zero, List.set_cons_succ]
        refine wpQ_run rfl (.bool true) (fun w' hw' => by simp [go_sem]) ?_
        simp only [Act.put, List.setIfInBounds_toArray, List.set_cons_zero, List.set_cons_succ]
        refine wpQ_run rfl (.bool true) (fun w' hw' => by simp [go_sem]) ?_
        simp only [Act.put, List.setIfInBounds_toArray, List.set_cons_zero, List.set_cons_succ]
        refine wpQ_run rfl (.bool true) (fun w' hw' => by simp [go_sem]) ?_
        simp only [Act.put, List.setIfInBounds_toArray, List.set_cons_zero, List.set_cons_succ]
        refine wpQ_load_box rfl 31 _ rfl B1 (by rfl) B1.lt Tryd.underlying31 rfl (by kernel_rfl) ?_
        simp only [Act.put, List.setIfInBounds_toArray, List.set_cons_zero, List.set_cons_succ]
        refine wpQ_callB rfl 18 #[.agg #[.int .u8 r, .bool rli, .bool rlo, .slice rla rln rlc, .bool rhi, .bool rho, .slice rha rhn rhc]] (fun w' => by simp [go_sem]) (.bool true) (Nat.le_refl _) (fun w' h' => hE ▸ empty_any _ _ _ _ _ _ _ _ _ _ _ _ _ _ (srl.after h') Nrl (srh.after h') Nrh) ?_
        simp only [Act.put, List.setIfInBounds_toArray, List.set_cons_zero, List.set_cons_succ]
        refine wpQ_run rfl (.bool false) (fun w' hw' => by simp [go_sem]) ?_
        simp only [Act.put, List.setIfInBounds_toArray, List.set_cons_zero, List.set_cons_succ]
        refine wpQ_run rfl (.bool false) (fun w' hw' => by simp [go_sem]) ?_
        simp only [Act.put, List.setIfInBounds_toArray, List.set_cons_zero, List.set_cons_succ]
        refine wpQ_load_box rfl 31 _ rfl B1 (by rfl) B1.lt Tryd.underlying31 rfl (by kernel_rfl) ?_
        simp only [Act.put, List.setIfInBounds_toArray, List.set_cons_zero, List.set_cons_succ]
        refine wpQ_run rfl (.slice ba bn bc) (fun w' hw' => by simp [go_sem]) ?_
        simp only [Act.put, List.setIfInBounds_toArray, List.set_cons_zero, List.set_cons_succ]
        refine wpQ_callB rfl 16 #[.agg #[.int .u8 r, .bool rli, .bool rlo, .slice rla rln rlc, .bool rhi, .bool rho, .slice rha rhn rhc], .slice ba bn bc] (fun w' => by simp [go_sem]) (.bool I) (Nat.le_refl _) (fun w' h' => hI ▸ in_any _ _ _ _ _ _ _ _ _ _ _ _ _ _ _ _ _ _ (srl.after h') Nrl (srh.after h') Nrh (sb.after h') Nb) ?_
        simp only [Act.put, List.setIfInBounds_toArray, List.set_cons_zero, List.set_cons_succ]
        refine wpQ_run rfl (.bool true) (fun w' hw' => by simp [go_sem, hIf]) ?_
        simp only [Act.put, List.setIfInBounds_toArray, List.set_cons_zero, List.set_cons_succ]
        refine wpQ_run rfl (.bool true) (fun w' hw' => by simp [go_sem]) ?_
        simp only [Act.put, List.setIfInBounds_toArray, List.set_cons_zero, List.set_cons_succ]
        refine wpQ_run rfl (.bool true) (fun w' hw' => by simp [go_sem]) ?_
        simp only [Act.put, List.setIfInBounds_toArray, List.set_cons_zero, List.set_cons_succ]
        refine wpQ_run rfl (.bool true) (fun w' hw' => by simp [go_sem]) ?_
        simp only [Act.put, List.setIfInBounds_toArray, List.set_cons_zero, List.set_cons_succ]
        refine wpQ_callB rfl 8 #[] (fun w' => by simp [go_sem]) (.bool true) (Nat.le_refl _) (fun w' h' => awake_any _) ?_
        simp only [Act.put, List.setIfInBounds_toArray, List.set_cons_zero, List.set_cons_succ]
        refine wpQ_run rfl (.bool true) (fun w' hw' => by simp [go_sem]) ?_
        simp only [Act.put, List.setIfInBounds_toArray, List.set_cons_zero, List.set_cons_succ]
        refine wpQ_run rfl (.bool true) (fun w' hw' => by simp [go_sem]) ?_
        simp only [Act.put, List.setIfInBounds_toArray, List.set_cons_zero, List.set_cons_succ]
        intro w2 hb2
        have hW2 := hW1.trans (hb2.mono hW1.size)
        go_wp2_with fail
        go_ret
        exact ⟨rfl, hW2⟩
    · have m2 : (200 : Int) < bn := by omega
      clear n2
      go_enter Tryd.func4, Tryd.ntmps4
      go_wp2_with fail
      refine (great_any _ _ _ _ _ _ _ _ _ _ _ _).mono ?_
      rintro e w1 ⟨rfl, hb1⟩
      rw [hG]
      have hW1 := hb0.trans (hb1.mono hb0.size)
      go_wp2_with fail
      refine (awake_any _).mono ?_
      rintro e wz ⟨rfl, hbz⟩
      go_wp2_with fail
      go_ret
      exact ⟨rfl, hW1.trans (hbz.mono hW1.size)⟩
  · go_enter Tryd.func4, Tryd.ntmps4
    go_wp2_with fail
    refine (great_any _ _ _ _ _ _ _ _ _ _ _ _).mono ?_
    rintro e w1 ⟨rfl, hb1⟩
    rw [hG]
    have hW1 := hb0.trans (hb1.mono hb0.size)
    go_wp2_with fail
    refine (awake_any _).mono ?_
    rintro e wz ⟨rfl, hbz⟩
    go_wp2_with fail
    go_ret
    exact ⟨rfl, hW1.trans (hbz.mono hW1.size)⟩
end Go.Proofs.YtoadpeigomkgiaaDoor

/- The document's Meet, and the law's example: what they compute. -/
import Derived.Test.YtoadpeigomkgiaaDoorOrdC
namespace Go.Proofs.YtoadpeigomkgiaaDoor
open Go.RowKit

/-- the end that is kept -/
theorem keptR (o : Nat) (xi xo : Bool) (xa : Option Addr) (xn xc : Nat) (xl : List UInt8) (yi yo : Bool) (ya : Option Addr) (yn yc : Nat) (yl : List UInt8) (t : Bool) (S : World → Prop)
    (hx : ∀ w, S w → Sl w xa xn xc xl) (nx : xn ≤ 200) (hy : ∀ w, S w → Sl w ya yn yc yl) (ny : yn ≤ 200) :
    ∃ (i p : Bool) (a : Option Addr) (n c : Nat) (l : List UInt8), (if refYB o ⟨xi, xo, xl⟩ ⟨yi, yo, yl⟩ t then (.agg #[.bool yi, .bool yo, .slice ya yn yc] : Value) else .agg #[.bool xi, .bool xo, .slice xa xn xc]) = .agg #[.bool i, .bool p, .slice a n c] ∧
      refEnd o ⟨xi, xo, xl⟩ ⟨yi, yo, yl⟩ t = ⟨i, p, l⟩ ∧ (∀ w, S w → Sl w a n c l) ∧ n ≤ 200 := by
  unfold refEnd
  cases refYB o ⟨xi, xo, xl⟩ ⟨yi, yo, yl⟩ t
  · exact ⟨xi, xo, xa, xn, xc, xl, rfl, rfl, hx, nx⟩
  · exact ⟨yi, yo, ya, yn, yc, yl, rfl, rfl, hy, ny⟩

set_option maxHeartbeats 20000000 in
set_option maxRecDepth 100000 in
theorem refMeet_any (r : Nat) (rli rlo : Bool) (rla : Option Addr) (rln rlc : Nat) (rll : List UInt8) (rhi rho : Bool) (rha : Option Addr) (rhn rhc : Nat) (rhl : List UInt8) (s : Nat) (sli slo : Bool) (sla : Option Addr) (sln slc : Nat) (sll : List UInt8) (shi sho : Bool) (sha : Option Addr) (shn shc : Nat) (shl : List UInt8) (w : World) (Srl : Sl w rla rln rlc rll) (Nrl : rln ≤ 200) (Srh : Sl w rha rhn rhc rhl) (Nrh : rhn ≤ 200) (Ssl : Sl w sla sln slc sll) (Nsl : sln ≤ 200) (Ssh : Sl w sha shn shc shl) (Nsh : shn ≤ 200) :
    Calls Tryd.prog 21 #[.agg #[.int .u8 r, .bool rli, .bool rlo, .slice rla rln rlc, .bool rhi, .bool rho, .slice rha rhn rhc], .agg #[.int .u8 s, .bool sli, .bool slo, .slice sla sln slc, .bool shi, .bool sho, .slice sha shn shc]] w (MeetP (refMeet ⟨r, ⟨rli, rlo, rll⟩, ⟨rhi, rho, rhl⟩⟩ ⟨s, ⟨sli, slo, sll⟩, ⟨shi, sho, shl⟩⟩) (okB ⟨r, ⟨rli, rlo, rll⟩, ⟨rhi, rho, rhl⟩⟩ ⟨s, ⟨sli, slo, sll⟩, ⟨shi, sho, shl⟩⟩) w) := by
  have hb0 : Below w.heap.size w (((w.alloc (.cells #[.int .u8 r, .bool rli, .bool rlo, .slice rla rln rlc, .bool rhi, .bool rho, .slice rha rhn rhc] 31)).alloc (.cells #[.int .u8 s, .bool sli, .bool slo, .slice sla sln slc, .bool shi, .bool sho, .slice sha shn shc] 31)).alloc (.cells #[.int .u8 0, .bool false, .bool false, .slice none 0 0, .bool false, .bool false, .slice none 0 0] 31)) := (((Below.refl _ _).alloc (Nat.le_refl _) _).alloc (by simp) _).alloc (by simp; omega) _
  have hr1 := Srl.after hb0
  have hr2 := Srh.after hb0
  have hs1 := Ssl.after hb0
  have hs2 := Ssh.after hb0
  have A0 : Box (((w.alloc (.cells #[.int .u8 r, .bool rli, .bool rlo, .slice rla rln rlc, .bool rhi, .bool rho, .slice rha rhn rhc] 31)).alloc (.cells #[.int .u8 s, .bool sli, .bool slo, .slice sla sln slc, .bool shi, .bool sho, .slice sha shn shc] 31)).alloc (.cells #[.int .u8 0, .bool false, .bool false, .slice none 0 0, .bool false, .bool false, .slice none 0 0] 31)) w.heap.size 31 #[.int .u8 r, .bool rli, .bool rlo, .slice rla rln rlc, .bool rhi, .bool rho, .slice rha rhn rhc] := ((Box.new _ _ _).alloc _).alloc _
  have B0 : Box (((w.alloc (.cells #[.int .u8 r, .bool rli, .bool rlo, .slice rla rln rlc, .bool rhi, .bool rho, .slice rha rhn rhc] 31)).alloc (.cells #[.int .u8 s, .bool sli, .bool slo, .slice sla sln slc, .bool shi, .bool sho, .slice sha shn shc] 31)).alloc (.cells #[.int .u8 0, .bool false, .bool false, .slice none 0 0, .bool false, .bool false, .slice none 0 0] 31)) (w.heap.size + 1) 31 #[.int .u8 s, .bool sli, .bool slo, .slice sla sln slc, .bool shi, .bool sho, .slice sha shn shc] := (box_at (by simp)).alloc _
  have C0 : Box (((w.alloc (.cells #[.int .u8 r, .bool rli, .bool rlo, .slice rla rln rlc, .bool rhi, .bool rho, .slice rha rhn rhc] 31)).alloc (.cells #[.int .u8 s, .bool sli, .bool slo, .slice sla sln slc, .bool shi, .bool sho, .slice sha shn shc] 31)).alloc (.cells #[.int .u8 0, .bool false, .bool false, .slice none 0 0, .bool false, .bool false, .slice none 0 0] 31)) (w.heap.size + 2) 31 #[.int .u8 0, .bool false, .bool false, .slice none 0 0, .bool false, .bool false, .slice none 0 0] := box_at (by simp)
  have q0 : okB ⟨r, ⟨rli, rlo, rll⟩, ⟨rhi, rho, rhl⟩⟩ ⟨s, ⟨sli, slo, sll⟩, ⟨shi, sho, shl⟩⟩ = (mayB ⟨r, ⟨rli, rlo, rll⟩, ⟨rhi, rho, rhl⟩⟩ && mayB ⟨s, ⟨sli, slo, sll⟩, ⟨shi, sho, shl⟩⟩ && decide (r = s)) := rfl
  have qn : okB ⟨r, ⟨rli, rlo, rll⟩, ⟨rhi, rho, rhl⟩⟩ ⟨s, ⟨sli, slo, sll⟩, ⟨shi, sho, shl⟩⟩ = false → refMeet ⟨r, ⟨rli, rlo, rll⟩, ⟨rhi, rho, rhl⟩⟩ ⟨s, ⟨sli, slo, sll⟩, ⟨shi, sho, shl⟩⟩ = noR := fun h => by unfold refMeet; rw [h]; rfl
  cases hM : mayB ⟨r, ⟨rli, rlo, rll⟩, ⟨rhi, rho, rhl⟩⟩
  · have q : okB ⟨r, ⟨rli, rlo, rll⟩, ⟨rhi, rho, rhl⟩⟩ ⟨s, ⟨sli, slo, sll⟩, ⟨shi, sho, shl⟩⟩ = false := by rw [q0, hM]; rfl
    rw [qn q, q]
    clear q q0 qn
    go_enter Tryd.func21, Tryd.ntmps21
    go_wp2_with fail
    refine (refMay_any _ _ _ _ _ _ _ _ _ _ _ _ _ _ hr1 Nrl hr2 Nrh).mono ?_
    rintro e w1 ⟨rfl, hb1⟩
    rw [hM]
    have hW := hb0.trans (hb1.mono hb0.size)
    have A1 := A0.after hb1
    have B1 := B0.after hb1
    have C1 := C0.after hb1
    have k0 := C1.cell 0 rfl
    have k1 := C1.cell 1 rfl
    have k2 := C1.cell 2 rfl
    have k3 := C1.cell 3 rfl
    have k4 := C1.cell 4 rfl
    have k5 := C1.cell 5 rfl
    have k6 := C1.cell 6 rfl
    have f0 := C1.frozen 0
    have f1 := C1.frozen 1
    have f2 := C1.frozen 2
    have f3 := C1.frozen 3
    have f4 := C1.frozen 4
    have f5 := C1.frozen 5
    have f6 := C1.frozen 6
    have kB : ∀ j v W, Below w.heap.size w W → Below w.heap.size w (W.setCell ⟨w.heap.size + 1 + 1, j, none⟩ v) := fun j v W h => h.setCell (by dsimp only; omega) v
    go_wp2_with fail
    exact bodyPost_ret (box_result2 Tryd.results21 _ _ rfl (((((((C1.set 0 _).set 1 _).set 2 _).set 3 _).set 4 _).set 5 _).set 6 _) Tryd.underlying31 rfl (by kernel_rfl)) rfl ⟨vNo, rfl, rfl, vNo_at _, kB _ _ _ (kB _ _ _ (kB _ _ _ (kB _ _ _ (kB _ _ _ (kB _ _ _ (kB _ _ _ hW))))))⟩
  · cases hM2 : mayB ⟨s, ⟨sli, slo, sll⟩, ⟨shi, sho, shl⟩⟩
    · have q : okB ⟨r, ⟨rli, rlo, rll⟩, ⟨rhi, rho, rhl⟩⟩ ⟨s, ⟨sli, slo, sll⟩, ⟨shi, sho, shl⟩⟩ = false := by rw [q0, hM, hM2]; rfl
      rw [qn q, q]
      clear q q0 qn
      go_enter Tryd.func21, Tryd.ntmps21
      go_wp2_with fail
      refine (refMay_any _ _ _ _ _ _ _ _ _ _ _ _ _ _ hr1 Nrl hr2 Nrh).mono ?_
      rintro e w1 ⟨rfl, hb1⟩
      rw [hM]
      have hW := hb0.trans (hb1.mono hb0.size)
      have A1 := A0.after hb1
      have B1 := B0.after hb1
      have C1 := C0.after hb1
      have c0 := B1.cell 0 rfl
      have c1 := B1.cell 1 rfl
      have c2 := B1.cell 2 rfl
      have c3 := B1.cell 3 rfl
      have c4 := B1.cell 4 rfl
      have c5 := B1.cell 5 rfl
      have c6 := B1.cell 6 rfl
      go_wp2_with fail
      refine (refMay_any _ _ _ _ _ _ _ _ _ _ _ _ _ _ (hs1.after hb1) Nsl (hs2.after hb1) Nsh).mono ?_
      rintro e w2 ⟨rfl, hb2⟩
      rw [hM2]
      have hW2 := hW.trans (hb2.mono hW.size)
      have A2 := A1.after hb2
      have B2 := B1.after hb2
      have C2 := C1.after hb2
      have k0 := C2.cell 0 rfl
      have k1 := C2.cell 1 rfl
      have k2 := C2.cell 2 rfl
      have k3 := C2.cell 3 rfl
      have k4 := C2.cell 4 rfl
      have k5 := C2.cell 5 rfl
      have k6 := C2.cell 6 rfl
      have f0 := C2.frozen 0
      have f1 := C2.frozen 1
      have f2 := C2.frozen 2
      have f3 := C2.frozen 3
      have f4 := C2.frozen 4
      have f5 := C2.frozen 5
      have f6 := C2.frozen 6
      have kB : ∀ j v W, Below w.heap.size w W → Below w.heap.size w (W.setCell ⟨w.heap.size + 1 + 1, j, none⟩ v) := fun j v W h => h.setCell (by dsimp only; omega) v
      go_wp2_with fail
      exact bodyPost_ret (box_result2 Tryd.results21 _ _ rfl (((((((C2.set 0 _).set 1 _).set 2 _).set 3 _).set 4 _).set 5 _).set 6 _) Tryd.underlying31 rfl (by kernel_rfl)) rfl ⟨vNo, rfl, rfl, vNo_at _, kB _ _ _ (kB _ _ _ (kB _ _ _ (kB _ _ _ (kB _ _ _ (kB _ _ _ (kB _ _ _ hW2))))))⟩
    · by_cases ho : r = s
      · subst ho
        have hne : ((r : Int) != (r : Int)) = false := by simp
        have q : okB ⟨r, ⟨rli, rlo, rll⟩, ⟨rhi, rho, rhl⟩⟩ ⟨r, ⟨sli, slo, sll⟩, ⟨shi, sho, shl⟩⟩ = true := by rw [q0, hM, hM2]; simp
        have hq : refMeet ⟨r, ⟨rli, rlo, rll⟩, ⟨rhi, rho, rhl⟩⟩ ⟨r, ⟨sli, slo, sll⟩, ⟨shi, sho, shl⟩⟩ = ⟨r, refEnd r ⟨rli, rlo, rll⟩ ⟨sli, slo, sll⟩ true, refEnd r ⟨rhi, rho, rhl⟩ ⟨shi, sho, shl⟩ false⟩ := by unfold refMeet; rw [q]; rfl
        rw [q]
        clear q q0 qn
        go_enter Tryd.func21, Tryd.ntmps21
        go_wp2_with fail
        refine (refMay_any _ _ _ _ _ _ _ _ _ _ _ _ _ _ hr1 Nrl hr2 Nrh).mono ?_
        rintro e w1 ⟨rfl, hb1⟩
        rw [hM]
        have hW := hb0.trans (hb1.mono hb0.size)
        have A1 := A0.after hb1
        have B1 := B0.after hb1
        have C1 := C0.after hb1
        have c0 := B1.cell 0 rfl
        have c1 := B1.cell 1 rfl
        have c2 := B1.cell 2 rfl
        have c3 := B1.cell 3 rfl
        have c4 := B1.cell 4 rfl
        have c5 := B1.cell 5 rfl
        have c6 := B1.cell 6 rfl
        go_wp2_with fail
        refine (refMay_any _ _ _ _ _ _ _ _ _ _ _ _ _ _ (hs1.after hb1) Nsl (hs2.after hb1) Nsh).mono ?_
        rintro e w2 ⟨rfl, hb2⟩
        rw [hM2]
        have hW2 := hW.trans (hb2.mono hW.size)
        have A2 := A1.after hb2
        have B2 := B1.after hb2
        have C2 := C1.after hb2
        have d0 := A2.cell 0 rfl
        have e0 := B2.cell 0 rfl
        have k1 : ∀ w', Below (w.heap.size + 2) w2 w' → Sl w' rla rln rlc rll := fun w' h => ((hr1.after hb1).after hb2).below h (fun b o h0 e => by have := Srl.lt b o h0 e; omega)
        have k2 : ∀ w', Below (w.heap.size + 2) w2 w' → Sl w' rha rhn rhc rhl := fun w' h => ((hr2.after hb1).after hb2).below h (fun b o h0 e => by have := Srh.lt b o h0 e; omega)
        have k3 : ∀ w', Below (w.heap.size + 2) w2 w' → Sl w' sla sln slc sll := fun w' h => ((hs1.after hb1).after hb2).below h (fun b o h0 e => by have := Ssl.lt b o h0 e; omega)
        have k4 : ∀ w', Below (w.heap.size + 2) w2 w' → Sl w' sha shn shc shl := fun w' h => ((hs2.after hb1).after hb2).below h (fun b o h0 e => by have := Ssh.lt b o h0 e; omega)
        have AA : ∀ w', Below (w.heap.size + 2) w2 w' → Box w' w.heap.size 31 #[.int .u8 r, .bool rli, .bool rlo, .slice rla rln rlc, .bool rhi, .bool rho, .slice rha rhn rhc] := fun w' h => A2.below h (by omega)
        have BB : ∀ w', Below (w.heap.size + 2) w2 w' → Box w' (w.heap.size + 1) 31 #[.int .u8 r, .bool sli, .bool slo, .slice sla sln slc, .bool shi, .bool sho, .slice sha shn shc] := fun w' h => B2.below h (by omega)
        have hle : w.heap.size ≤ w2.heap.size := hW2.size
        have hle3 : w.heap.size + 3 ≤ w2.heap.size := by have := C2.lt; omega
        have hKS : Keeps (fun w' => Below (w.heap.size + 2) w2 w') := fun w1 w' h hb => h.trans (hb.mono (by have := h.size; omega))
        obtain ⟨xi, xo, xa, xn, xc, xl, hx1, hx2, hx3, hx4⟩ := keptR r rli rlo rla rln rlc rll sli slo sla sln slc sll true (fun w' => Below (w.heap.size + 2) w2 w') k1 Nrl k3 Nsl
        obtain ⟨yi, yo, ya, yn, yc, yl, hy1, hy2, hy3, hy4⟩ := keptR r rhi rho rha rhn rhc rhl shi sho sha shn shc shl false (fun w' => Below (w.heap.size + 2) w2 w') k2 Nrh k4 Nsh
        go_upto_region 3 with fail
        refine wp_region_U (w := w2) (fun w' => Below (w.heap.size + 2) w2 w') rfl (Below.refl _ _).drew ?_
        refine wpU_val 0 hKS rfl (by kernel_rfl) (by kernel_rfl) (by kernel_rfl) rfl (fun _ _ _ _ h => h) (.pointer (some ⟨w.heap.size, 0, none⟩)) (fun w' h => by simp [go_sem]) ?_
        simp only [Act.put, List.setIfInBounds_toArray, List.set_cons_zero, List.set_cons_succ]
        refine wpU_val 1 hKS rfl (by kernel_rfl) (by kernel_rfl) (by kernel_rfl) rfl (fun _ _ _ _ h => h) (.int .u8 r) (fun w' h => by simp [go_sem, (AA w' h).cell 0 rfl]) ?_
        simp only [Act.put, List.setIfInBounds_toArray, List.set_cons_zero, List.set_cons_succ]
        refine wpU_val 2 hKS rfl (by kernel_rfl) (by kernel_rfl) (by kernel_rfl) rfl (fun _ _ _ _ h => h) (.pointer (some ⟨w.heap.size, 0, none⟩)) (fun w' h => by simp [go_sem]) ?_
        simp only [Act.put, List.setIfInBounds_toArray, List.set_cons_zero, List.set_cons_succ]
        refine wpU_val 3 hKS rfl (by kernel_rfl) (by kernel_rfl) (by kernel_rfl) rfl (fun _ _ _ _ h => h) (.int .u8 r) (fun w' h => by simp [go_sem, (AA w' h).cell 0 rfl]) ?_
        simp only [Act.put, List.setIfInBounds_toArray, List.set_cons_zero, List.set_cons_succ]
        refine wpU_val 4 hKS rfl (by kernel_rfl) (by kernel_rfl) (by kernel_rfl) rfl (fun _ _ _ _ h => h) (.pointer (some ⟨w.heap.size, 1, none⟩)) (fun w' h => by simp [go_sem]) ?_
        simp only [Act.put, List.setIfInBounds_toArray, List.set_cons_zero, List.set_cons_succ]
        refine wpU_val 5 hKS rfl (by kernel_rfl) (by kernel_rfl) (by kernel_rfl) rfl (fun _ _ _ _ h => h) (.agg #[.bool rli, .bool rlo, .slice rla rln rlc]) (fun w' h => by simp [go_sem, (AA w' h).cell 1 rfl, (AA w' h).cell 2 rfl, (AA w' h).cell 3 rfl]) ?_
        simp only [Act.put, List.setIfInBounds_toArray, List.set_cons_zero, List.set_cons_succ]
        refine wpU_val 6 hKS rfl (by kernel_rfl) (by kernel_rfl) (by kernel_rfl) rfl (fun _ _ _ _ h => h) (.pointer (some ⟨w.heap.size + 1, 1, none⟩)) (fun w' h => by simp [go_sem]) ?_
        simp only [Act.put, List.setIfInBounds_toArray, List.set_cons_zero, List.set_cons_succ]
        refine wpU_val 7 hKS rfl (by kernel_rfl) (by kernel_rfl) (by kernel_rfl) rfl (fun _ _ _ _ h => h) (.agg #[.bool sli, .bool slo, .slice sla sln slc]) (fun w' h => by simp [go_sem, (BB w' h).cell 1 rfl, (BB w' h).cell 2 rfl, (BB w' h).cell 3 rfl]) ?_
        simp only [Act.put, List.setIfInBounds_toArray, List.set_cons_zero, List.set_cons_succ]
        refine wpU_callS 8 hKS rfl (by kernel_rfl) (by kernel_rfl) (by kernel_rfl) rfl (fun _ _ _ _ h => h) 34 #[.int .u8 r, .agg #[.bool rli, .bool rlo, .slice rla rln rlc], .agg #[.bool sli, .bool slo, .slice sla sln slc], .bool true] (fun w => by simp [go_sem]) (.agg #[.bool xi, .bool xo, .slice xa xn xc]) (fun w' h => hx1 ▸ refEnd_any _ _ _ _ _ _ _ _ _ _ _ _ _ _ _ (k1 w' h) Nrl (k3 w' h) Nsl) ?_
        simp only [Act.put, List.setIfInBounds_toArray, List.set_cons_zero, List.set_cons_succ]
        refine wpU_val 9 hKS rfl (by kernel_rfl) (by kernel_rfl) (by kernel_rfl) rfl (fun _ _ _ _ h => h) (.pointer (some ⟨w.heap.size, 0, none⟩)) (fun w' h => by simp [go_sem]) ?_
        simp only [Act.put, List.setIfInBounds_toArray, List.set_cons_zero, List.set_cons_succ]
        refine wpU_val 10 hKS rfl (by kernel_rfl) (by kernel_rfl) (by kernel_rfl) rfl (fun _ _ _ _ h => h) (.int .u8 r) (fun w' h => by simp [go_sem, (AA w' h).cell 0 rfl]) ?_
        simp only [Act.put, List.setIfInBounds_toArray, List.set_cons_zero, List.set_cons_succ]
        refine wpU_val 11 hKS rfl (by kernel_rfl) (by kernel_rfl) (by kernel_rfl) rfl (fun _ _ _ _ h => h) (.pointer (some ⟨w.heap.size, 4, none⟩)) (fun w' h => by simp [go_sem]) ?_
        simp only [Act.put, List.setIfInBounds_toArray, List.set_cons_zero, List.set_cons_succ]
        refine wpU_val 12 hKS rfl (by kernel_rfl) (by kernel_rfl) (by kernel_rfl) rfl (fun _ _ _ _ h => h) (.agg #[.bool rhi, .bool rho, .slice rha rhn rhc]) (fun w' h => by simp [go_sem, (AA w' h).cell 4 rfl, (AA w' h).cell 5 rfl, (AA w' h).cell 6 rfl]) ?_
        simp only [Act.put, List.setIfInBounds_toArray, List.set_cons_zero, List.set_cons_succ]
        refine wpU_val 13 hKS rfl (by kernel_rfl) (by kernel_rfl) (by kernel_rfl) rfl (fun _ _ _ _ h => h) (.pointer (some ⟨w.heap.size + 1, 4, none⟩)) (fun w' h => by simp [go_sem]) ?_
        simp only [Act.put, List.setIfInBounds_toArray, List.set_cons_zero, List.set_cons_succ]
        refine wpU_val 14 hKS rfl (by kernel_rfl) (by kernel_rfl) (by kernel_rfl) rfl (fun _ _ _ _ h => h) (.agg #[.bool shi, .bool sho, .slice sha shn shc]) (fun w' h => by simp [go_sem, (BB w' h).cell 4 rfl, (BB w' h).cell 5 rfl, (BB w' h).cell 6 rfl]) ?_
        simp only [Act.put, List.setIfInBounds_toArray, List.set_cons_zero, List.set_cons_succ]
        refine wpU_callS 15 hKS rfl (by kernel_rfl) (by kernel_rfl) (by kernel_rfl) rfl (fun _ _ _ _ h => h) 34 #[.int .u8 r, .agg #[.bool rhi, .bool rho, .slice rha rhn rhc], .agg #[.bool shi, .bool sho, .slice sha shn shc], .bool false] (fun w => by simp [go_sem]) (.agg #[.bool yi, .bool yo, .slice ya yn yc]) (fun w' h => hy1 ▸ refEnd_any _ _ _ _ _ _ _ _ _ _ _ _ _ _ _ (k2 w' h) Nrh (k4 w' h) Nsh) ?_
        simp only [Act.put, List.setIfInBounds_toArray, List.set_cons_zero, List.set_cons_succ]
        refine wpU_val 16 hKS rfl (by kernel_rfl) (by kernel_rfl) (by kernel_rfl) rfl (fun _ _ _ _ h => h) (.agg #[.int .u8 r, .bool xi, .bool xo, .slice xa xn xc, .bool yi, .bool yo, .slice ya yn yc]) (fun w' h => by simp [go_sem]) ?_
        simp only [Act.put, List.setIfInBounds_toArray, List.set_cons_zero, List.set_cons_succ]
        refine wpU_store_box (cells := #[.int .u8 r, .bool xi, .bool xo, .slice xa xn xc, .bool yi, .bool yo, .slice ya yn yc]) 17 rfl (by kernel_rfl) rfl 31 (.tmp 4) (.tmp 38) rfl C2.drew (by simp [go_sem]) (by simp [go_sem]) rfl (by kernel_rfl) (by simp [Value.oneCell']) ?_
        intro u5 u6 b5 s5 hbx st
        refine ⟨st.below _ _ (Nat.le_refl _) s5, ?_⟩
        simp only [Act.put]
        refine wpU_val 18 hKS rfl (by kernel_rfl) (by kernel_rfl) (by kernel_rfl) rfl (fun _ _ _ _ h => h) (.bool true) (fun w' h => by simp [go_sem]) ?_
        simp only [Act.put, List.setIfInBounds_toArray, List.set_cons_zero, List.set_cons_succ]
        refine wpU_done (by kernel_rfl) ?_
        intro u7 b7 s7
        have z1 := b5.size
        have hV : Below w.heap.size w u7 := (st.below _ _ (by omega) (hW2.drew.trans (b5.mono hle))).trans (b7.mono (by have := st.size; simp at z1; omega))
        have Fp := hx3 _ s7
        have Fq := hy3 _ s7
        have hbx7 := hbx.after b7
        rename_i a1
        refine a1 _ _ ?_
        refine wp_ret ?_
        exact bodyPost_ret (box_result2 rfl _ _ rfl hbx7 Tryd.underlying31 rfl (by kernel_rfl)) rfl ⟨⟨r, xi, xo, xa, xn, xc, xl, yi, yo, ya, yn, yc, yl⟩, rfl, by rw [hq, hx2, hy2]; rfl, ⟨Fp, hx4, Fq, hy4⟩, hV⟩
      · have q : okB ⟨r, ⟨rli, rlo, rll⟩, ⟨rhi, rho, rhl⟩⟩ ⟨s, ⟨sli, slo, sll⟩, ⟨shi, sho, shl⟩⟩ = false := by rw [q0, decide_eq_false ho]; simp
        rw [qn q, q]
        have hne : ((r : Int) != (s : Int)) = true := by rw [bne_iff_ne]; omega
        clear ho q q0 qn
        go_enter Tryd.func21, Tryd.ntmps21
        go_wp2_with fail
        refine (refMay_any _ _ _ _ _ _ _ _ _ _ _ _ _ _ hr1 Nrl hr2 Nrh).mono ?_
        rintro e w1 ⟨rfl, hb1⟩
        rw [hM]
        have hW := hb0.trans (hb1.mono hb0.size)
        have A1 := A0.after hb1
        have B1 := B0.after hb1
        have C1 := C0.after hb1
        have c0 := B1.cell 0 rfl
        have c1 := B1.cell 1 rfl
        have c2 := B1.cell 2 rfl
        have c3 := B1.cell 3 rfl
        have c4 := B1.cell 4 rfl
        have c5 := B1.cell 5 rfl
        have c6 := B1.cell 6 rfl
        go_wp2_with fail
        refine (refMay_any _ _ _ _ _ _ _ _ _ _ _ _ _ _ (hs1.after hb1) Nsl (hs2.after hb1) Nsh).mono ?_
        rintro e w2 ⟨rfl, hb2⟩
        rw [hM2]
        have hW2 := hW.trans (hb2.mono hW.size)
        have A2 := A1.after hb2
        have B2 := B1.after hb2
        have C2 := C1.after hb2
        have d0 := A2.cell 0 rfl
        have e0 := B2.cell 0 rfl
        have k0 := C2.cell 0 rfl
        have k1 := C2.cell 1 rfl
        have k2 := C2.cell 2 rfl
        have k3 := C2.cell 3 rfl
        have k4 := C2.cell 4 rfl
        have k5 := C2.cell 5 rfl
        have k6 := C2.cell 6 rfl
        have f0 := C2.frozen 0
        have f1 := C2.frozen 1
        have f2 := C2.frozen 2
        have f3 := C2.frozen 3
        have f4 := C2.frozen 4
        have f5 := C2.frozen 5
        have f6 := C2.frozen 6
        have kB : ∀ j v W, Below w.heap.size w W → Below w.heap.size w (W.setCell ⟨w.heap.size + 1 + 1, j, none⟩ v) := fun j v W h => h.setCell (by dsimp only; omega) v
        go_wp2_with fail
        exact bodyPost_ret (box_result2 Tryd.results21 _ _ rfl (((((((C2.set 0 _).set 1 _).set 2 _).set 3 _).set 4 _).set 5 _).set 6 _) Tryd.underlying31 rfl (by kernel_rfl)) rfl ⟨vNo, rfl, rfl, vNo_at _, kB _ _ _ (kB _ _ _ (kB _ _ _ (kB _ _ _ (kB _ _ _ (kB _ _ _ (kB _ _ _ hW2))))))⟩

theorem aw1 : inB ⟨2, ⟨true, false, [50]⟩, ⟨true, true, [49, 48]⟩⟩ [57, 46, 53] = true := by decide +kernel
theorem aw2 : inB ⟨2, ⟨true, false, [50]⟩, ⟨true, true, [49, 48]⟩⟩ [49, 48] = false := by decide +kernel
theorem aw3 : inB ⟨2, ⟨true, false, [50]⟩, ⟨true, true, [49, 48]⟩⟩ [50, 46, 48] = true := by decide +kernel

set_option maxHeartbeats 20000000 in
set_option maxRecDepth 100000 in
theorem awake_any (w : World) : Calls Tryd.prog 8 #[] w fun e w' => e = .returned (.bool true) ∧ Below w.heap.size w w' := by
  have kc := fun (w : World) (C : Array Value) (n c : Nat) => Lib.run_convert_bytes_const (P := Tryd.prog) w 22 5 C n c Tryd.underlying22 Tryd.underlying5
  have h1 := Lib.hid aw1
  have h2 := Lib.hid aw2
  have h3 := Lib.hid aw3
  have bA : Below w.heap.size w (w.alloc (.cells #[.int .u8 50] 5 (1, 2))) := (Below.refl _ _).alloc (Nat.le_refl _) _
  have bB : Below w.heap.size w ((w.alloc (.cells #[.int .u8 50] 5 (1, 2))).alloc (.cells #[.int .u8 49, .int .u8 48] 5 (2, 3))) := bA.alloc (by simp) _
  have bC : Below w.heap.size w (((w.alloc (.cells #[.int .u8 50] 5 (1, 2))).alloc (.cells #[.int .u8 49, .int .u8 48] 5 (2, 3))).alloc (.cells #[.int .u8 2, .bool true, .bool false, .slice (some ⟨w.heap.size, 0, none⟩) 1 1, .bool true, .bool true, .slice (some ⟨w.heap.size + 1, 0, none⟩) 2 2] 31)) := bB.alloc (by simp; omega) _
  have bD : Below w.heap.size w ((((w.alloc (.cells #[.int .u8 50] 5 (1, 2))).alloc (.cells #[.int .u8 49, .int .u8 48] 5 (2, 3))).alloc (.cells #[.int .u8 2, .bool true, .bool false, .slice (some ⟨w.heap.size, 0, none⟩) 1 1, .bool true, .bool true, .slice (some ⟨w.heap.size + 1, 0, none⟩) 2 2] 31)).alloc (.cells #[.int .u8 57, .int .u8 46, .int .u8 53] 5 (3, 4))) := bC.alloc (by simp; omega) _
  have sA : Sl (w.alloc (.cells #[.int .u8 50] 5 (1, 2))) (some ⟨w.heap.size, 0, none⟩) 1 1 [50] := sl_lit w [50] (1, 2) (by decide)
  have sB : Sl ((w.alloc (.cells #[.int .u8 50] 5 (1, 2))).alloc (.cells #[.int .u8 49, .int .u8 48] 5 (2, 3))) (some ⟨w.heap.size + 1, 0, none⟩) 2 2 [49, 48] := by
    have := sl_lit (w.alloc (.cells #[.int .u8 50] 5 (1, 2))) [49, 48] (2, 3) (by decide)
    rw [show ((w.alloc (.cells #[.int .u8 50] 5 (1, 2)))).heap.size = w.heap.size + 1 by simp] at this
    exact this
  have sAB := sA.after ((Below.refl _ _).alloc (Nat.le_refl _) (.cells #[.int .u8 49, .int .u8 48] 5 (2, 3)))
  have sAC := sAB.after ((Below.refl _ _).alloc (Nat.le_refl _) (.cells #[.int .u8 2, .bool true, .bool false, .slice (some ⟨w.heap.size, 0, none⟩) 1 1, .bool true, .bool true, .slice (some ⟨w.heap.size + 1, 0, none⟩) 2 2] 31))
  have sBC := sB.after ((Below.refl _ _).alloc (Nat.le_refl _) (.cells #[.int .u8 2, .bool true, .bool false, .slice (some ⟨w.heap.size, 0, none⟩) 1 1, .bool true, .bool true, .slice (some ⟨w.heap.size + 1, 0, none⟩) 2 2] 31))
  have sAD := sAC.after ((Below.refl _ _).alloc (Nat.le_refl _) (.cells #[.int .u8 57, .int .u8 46, .int .u8 53] 5 (3, 4)))
  have sBD := sBC.after ((Below.refl _ _).alloc (Nat.le_refl _) (.cells #[.int .u8 57, .int .u8 46, .int .u8 53] 5 (3, 4)))
  have sD : Sl ((((w.alloc (.cells #[.int .u8 50] 5 (1, 2))).alloc (.cells #[.int .u8 49, .int .u8 48] 5 (2, 3))).alloc (.cells #[.int .u8 2, .bool true, .bool false, .slice (some ⟨w.heap.size, 0, none⟩) 1 1, .bool true, .bool true, .slice (some ⟨w.heap.size + 1, 0, none⟩) 2 2] 31)).alloc (.cells #[.int .u8 57, .int .u8 46, .int .u8 53] 5 (3, 4))) (some ⟨w.heap.size + 3, 0, none⟩) 3 3 [57, 46, 53] := by
    have := sl_lit (((w.alloc (.cells #[.int .u8 50] 5 (1, 2))).alloc (.cells #[.int .u8 49, .int .u8 48] 5 (2, 3))).alloc (.cells #[.int .u8 2, .bool true, .bool false, .slice (some ⟨w.heap.size, 0, none⟩) 1 1, .bool true, .bool true, .slice (some ⟨w.heap.size + 1, 0, none⟩) 2 2] 31)) [57, 46, 53] (3, 4) (by decide)
    rw [show ((((w.alloc (.cells #[.int .u8 50] 5 (1, 2))).alloc (.cells #[.int .u8 49, .int .u8 48] 5 (2, 3))).alloc (.cells #[.int .u8 2, .bool true, .bool false, .slice (some ⟨w.heap.size, 0, none⟩) 1 1, .bool true, .bool true, .slice (some ⟨w.heap.size + 1, 0, none⟩) 2 2] 31))).heap.size = w.heap.size + 3 by simp] at this
    exact this
  have BD : Box ((((w.alloc (.cells #[.int .u8 50] 5 (1, 2))).alloc (.cells #[.int .u8 49, .int .u8 48] 5 (2, 3))).alloc (.cells #[.int .u8 2, .bool true, .bool false, .slice (some ⟨w.heap.size, 0, none⟩) 1 1, .bool true, .bool true, .slice (some ⟨w.heap.size + 1, 0, none⟩) 2 2] 31)).alloc (.cells #[.int .u8 57, .int .u8 46, .int .u8 53] 5 (3, 4))) (w.heap.size + 2) 31 #[.int .u8 2, .bool true, .bool false, .slice (some ⟨w.heap.size, 0, none⟩) 1 1, .bool true, .bool true, .slice (some ⟨w.heap.size + 1, 0, none⟩) 2 2] := (box_at (by simp)).alloc _
  have HAD := Lib.hid sAD
  have HBD := Lib.hid sBD
  have HD := Lib.hid sD
  clear sA sB sAB sAC sBC sAD sBD sD bA bB bC
  have kB : (convert 22 22 (.slice (some ⟨w.heap.size + 1, 0, none⟩) 2 2)).run Tryd.prog ((w.alloc (.cells #[.int .u8 50] 5 (1, 2))).alloc (.cells #[.int .u8 49, .int .u8 48] 5)) = .ok (.slice (some ⟨w.heap.size + 1, 0, none⟩) 2 2) ((w.alloc (.cells #[.int .u8 50] 5 (1, 2))).alloc (.cells #[.int .u8 49, .int .u8 48] 5 (2, 3))) := by
    have := kc (w.alloc (.cells #[.int .u8 50] 5 (1, 2))) #[.int .u8 49, .int .u8 48] 2 2
    rw [show ((w.alloc (.cells #[.int .u8 50] 5 (1, 2)))).heap.size = w.heap.size + 1 by simp] at this
    exact this
  have kD : (convert 22 22 (.slice (some ⟨w.heap.size + 1 + 1 + 1, 0, none⟩) 3 3)).run Tryd.prog ((((w.alloc (.cells #[.int .u8 50] 5 (1, 2))).alloc (.cells #[.int .u8 49, .int .u8 48] 5 (2, 3))).alloc (.cells #[.int .u8 2, .bool true, .bool false, .slice (some ⟨w.heap.size, 0, none⟩) 1 1, .bool true, .bool true, .slice (some ⟨w.heap.size + 1, 0, none⟩) 2 2] 31)).alloc (.cells #[.int .u8 57, .int .u8 46, .int .u8 53] 5)) = .ok (.slice (some ⟨w.heap.size + 1 + 1 + 1, 0, none⟩) 3 3) ((((w.alloc (.cells #[.int .u8 50] 5 (1, 2))).alloc (.cells #[.int .u8 49, .int .u8 48] 5 (2, 3))).alloc (.cells #[.int .u8 2, .bool true, .bool false, .slice (some ⟨w.heap.size, 0, none⟩) 1 1, .bool true, .bool true, .slice (some ⟨w.heap.size + 1, 0, none⟩) 2 2] 31)).alloc (.cells #[.int .u8 57, .int .u8 46, .int .u8 53] 5 (3, 4))) := by
    have := kc (((w.alloc (.cells #[.int .u8 50] 5 (1, 2))).alloc (.cells #[.int .u8 49, .int .u8 48] 5 (2, 3))).alloc (.cells #[.int .u8 2, .bool true, .bool false, .slice (some ⟨w.heap.size, 0, none⟩) 1 1, .bool true, .bool true, .slice (some ⟨w.heap.size + 1, 0, none⟩) 2 2] 31)) #[.int .u8 57, .int .u8 46, .int .u8 53] 3 3
    rw [show ((((w.alloc (.cells #[.int .u8 50] 5 (1, 2))).alloc (.cells #[.int .u8 49, .int .u8 48] 5 (2, 3))).alloc (.cells #[.int .u8 2, .bool true, .bool false, .slice (some ⟨w.heap.size, 0, none⟩) 1 1, .bool true, .bool true, .slice (some ⟨w.heap.size + 1, 0, none⟩) 2 2] 31))).heap.size = w.heap.size + 1 + 1 + 1 by simp] at this
    exact this
  go_enter Tryd.func8, Tryd.ntmps8
  go_wp2_with fail
  refine (in_any 2 true false _ _ _ [50] true true _ _ _ [49, 48] _ _ _ [57, 46, 53] _ HAD.out (by decide) HBD.out (by decide) HD.out (by decide)).mono ?_
  rintro e w1 ⟨rfl, hb1⟩
  rw [h1.out]
  have hW1 := bD.trans (hb1.mono bD.size)
  have B1 := BD.after hb1
  have c0 := B1.cell 0 rfl
  have c1 := B1.cell 1 rfl
  have c2 := B1.cell 2 rfl
  have c3 := B1.cell 3 rfl
  have c4 := B1.cell 4 rfl
  have c5 := B1.cell 5 rfl
  have c6 := B1.cell 6 rfl
  have sA1 := HAD.out.after hb1
  have sB1 := HBD.out.after hb1
  have f2 : Below w1.heap.size w1 (w1.alloc (.cells #[.int .u8 49, .int .u8 48] 5 (2, 3))) := (Below.refl _ _).alloc (Nat.le_refl _) _
  have B2 := B1.after f2
  have HA2 := Lib.hid (sA1.after f2)
  have HB2 := Lib.hid (sB1.after f2)
  have H2 := Lib.hid (sl_lit w1 [49, 48] (2, 3) (by decide))
  have hW2 := hW1.trans (f2.mono hW1.size)
  clear sA1 sB1 HAD HBD HD
  go_wp2_with fail
  refine (in_any 2 true false _ _ _ [50] true true _ _ _ [49, 48] _ _ _ [49, 48] _ HA2.out (by decide) HB2.out (by decide) H2.out (by decide)).mono ?_
  rintro e w3 ⟨rfl, hb3⟩
  rw [h2.out]
  have hW3 := hW2.trans (hb3.mono hW2.size)
  have B3 := B2.after hb3
  have d0 := B3.cell 0 rfl
  have d1 := B3.cell 1 rfl
  have d2 := B3.cell 2 rfl
  have d3 := B3.cell 3 rfl
  have d4 := B3.cell 4 rfl
  have d5 := B3.cell 5 rfl
  have d6 := B3.cell 6 rfl
  have f4 : Below w3.heap.size w3 (w3.alloc (.cells #[.int .u8 50, .int .u8 46, .int .u8 48] 5 (3, 4))) := (Below.refl _ _).alloc (Nat.le_refl _) _
  have HA4 := Lib.hid ((HA2.out.after hb3).after f4)
  have HB4 := Lib.hid ((HB2.out.after hb3).after f4)
  have H4 := Lib.hid (sl_lit w3 [50, 46, 48] (3, 4) (by decide))
  have hW4 := hW3.trans (f4.mono hW3.size)
  clear HA2 HB2 H2
  go_wp2_with fail
  refine (in_any 2 true false _ _ _ [50] true true _ _ _ [49, 48] _ _ _ [50, 46, 48] _ HA4.out (by decide) HB4.out (by decide) H4.out (by decide)).mono ?_
  rintro e w5 ⟨rfl, hb5⟩
  rw [h3.out]
  have hW5 := hW4.trans (hb5.mono hW4.size)
  go_wp2_with fail
  go_ret
  exact ⟨rfl, hW5⟩
end Go.Proofs.YtoadpeigomkgiaaDoor

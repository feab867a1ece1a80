/- Meet of the program: what it computes. -/
import Derived.Test.YtoadpeigomkgiaaDoorOrd8
namespace Go.Proofs.YtoadpeigomkgiaaDoor
open Go.RowKit

/-- a range that is handed back: the parts, and what they read as -/
structure RgV where
  o : Nat
  li : Bool
  lo : Bool
  la : Option Addr
  ln : Nat
  lc : Nat
  ll : List UInt8
  hi : Bool
  ho : Bool
  ha : Option Addr
  hn : Nat
  hc : Nat
  hl : List UInt8
def RgV.val (v : RgV) : Value := .agg #[.int .u8 v.o, .bool v.li, .bool v.lo, .slice v.la v.ln v.lc, .bool v.hi, .bool v.ho, .slice v.ha v.hn v.hc]
def RgV.rg (v : RgV) : Rg := ⟨v.o, ⟨v.li, v.lo, v.ll⟩, ⟨v.hi, v.ho, v.hl⟩⟩
def RgV.at (v : RgV) (w : World) : Prop := Sl w v.la v.ln v.lc v.ll ∧ v.ln ≤ 200 ∧ Sl w v.ha v.hn v.hc v.hl ∧ v.hn ≤ 200
theorem RgV.at.after {v : RgV} {w w' : World} (h : v.at w) (hb : Below w.heap.size w w') : v.at w' := ⟨h.1.after hb, h.2.1, h.2.2.1.after hb, h.2.2.2⟩
def MeetP (m : Rg) (ok : Bool) (w : World) (e : Ending) (w' : World) : Prop := ∃ v : RgV, e = .returned (.tuple #[v.val, .bool ok]) ∧ v.rg = m ∧ v.at w' ∧ Below w.heap.size w w'
def vNo : RgV := ⟨0, false, false, none, 0, 0, [], false, false, none, 0, 0, []⟩
theorem vNo_at (w : World) : vNo.at w := ⟨⟨rfl, Nat.le_refl _, Nat.zero_le _, fun _ => rfl, .inl rfl⟩, Nat.zero_le _, ⟨rfl, Nat.le_refl _, Nat.zero_le _, fun _ => rfl, .inl rfl⟩, Nat.zero_le _⟩

/-- the end that is kept -/
theorem kept (o : Nat) (xi xo : Bool) (xa : Option Addr) (xn xc : Nat) (xl : List UInt8) (yi yo : Bool) (ya : Option Addr) (yn yc : Nat) (yl : List UInt8) (t : Int) (S : World → Prop)
    (hx : ∀ w, S w → Sl w xa xn xc xl) (nx : xn ≤ 200) (hy : ∀ w, S w → Sl w ya yn yc yl) (ny : yn ≤ 200) :
    ∃ (i p : Bool) (a : Option Addr) (n c : Nat) (l : List UInt8), (if yB o ⟨xi, xo, xl⟩ ⟨yi, yo, yl⟩ t then (.agg #[.bool yi, .bool yo, .slice ya yn yc] : Value) else .agg #[.bool xi, .bool xo, .slice xa xn xc]) = .agg #[.bool i, .bool p, .slice a n c] ∧
      tiB o ⟨xi, xo, xl⟩ ⟨yi, yo, yl⟩ t = ⟨i, p, l⟩ ∧ (∀ w, S w → Sl w a n c l) ∧ n ≤ 200 := by
  unfold tiB
  cases yB o ⟨xi, xo, xl⟩ ⟨yi, yo, yl⟩ t
  · exact ⟨xi, xo, xa, xn, xc, xl, rfl, rfl, hx, nx⟩
  · exact ⟨yi, yo, ya, yn, yc, yl, rfl, rfl, hy, ny⟩

set_option maxHeartbeats 20000000 in
set_option maxRecDepth 100000 in
theorem meet_any (r : Nat) (rli rlo : Bool) (rla : Option Addr) (rln rlc : Nat) (rll : List UInt8) (rhi rho : Bool) (rha : Option Addr) (rhn rhc : Nat) (rhl : List UInt8) (s : Nat) (sli slo : Bool) (sla : Option Addr) (sln slc : Nat) (sll : List UInt8) (shi sho : Bool) (sha : Option Addr) (shn shc : Nat) (shl : List UInt8) (w : World) (Srl : Sl w rla rln rlc rll) (Nrl : rln ≤ 200) (Srh : Sl w rha rhn rhc rhl) (Nrh : rhn ≤ 200) (Ssl : Sl w sla sln slc sll) (Nsl : sln ≤ 200) (Ssh : Sl w sha shn shc shl) (Nsh : shn ≤ 200) :
    Calls Tryd.prog 23 #[.agg #[.int .u8 r, .bool rli, .bool rlo, .slice rla rln rlc, .bool rhi, .bool rho, .slice rha rhn rhc], .agg #[.int .u8 s, .bool sli, .bool slo, .slice sla sln slc, .bool shi, .bool sho, .slice sha shn shc]] w (MeetP (meetR ⟨r, ⟨rli, rlo, rll⟩, ⟨rhi, rho, rhl⟩⟩ ⟨s, ⟨sli, slo, sll⟩, ⟨shi, sho, shl⟩⟩) (okB ⟨r, ⟨rli, rlo, rll⟩, ⟨rhi, rho, rhl⟩⟩ ⟨s, ⟨sli, slo, sll⟩, ⟨shi, sho, shl⟩⟩) w) := by
  have hb0 : Below w.heap.size w (((w.alloc (.cells #[.int .u8 r, .bool rli, .bool rlo, .slice rla rln rlc, .bool rhi, .bool rho, .slice rha rhn rhc] 31)).alloc (.cells #[.int .u8 s, .bool sli, .bool slo, .slice sla sln slc, .bool shi, .bool sho, .slice sha shn shc] 31)).alloc (.cells #[.int .u8 0, .bool false, .bool false, .slice none 0 0, .bool false, .bool false, .slice none 0 0] 31)) := (((Below.refl _ _).alloc (Nat.le_refl _) _).alloc (by simp) _).alloc (by simp; omega) _
  have hr1 := Srl.after hb0
  have hr2 := Srh.after hb0
  have hs1 := Ssl.after hb0
  have hs2 := Ssh.after hb0
  have A0 : Box (((w.alloc (.cells #[.int .u8 r, .bool rli, .bool rlo, .slice rla rln rlc, .bool rhi, .bool rho, .slice rha rhn rhc] 31)).alloc (.cells #[.int .u8 s, .bool sli, .bool slo, .slice sla sln slc, .bool shi, .bool sho, .slice sha shn shc] 31)).alloc (.cells #[.int .u8 0, .bool false, .bool false, .slice none 0 0, .bool false, .bool false, .slice none 0 0] 31)) w.heap.size 31 #[.int .u8 r, .bool rli, .bool rlo, .slice rla rln rlc, .bool rhi, .bool rho, .slice rha rhn rhc] := ((Box.new _ _ _).alloc _).alloc _
  have B0 : Box (((w.alloc (.cells #[.int .u8 r, .bool rli, .bool rlo, .slice rla rln rlc, .bool rhi, .bool rho, .slice rha rhn rhc] 31)).alloc (.cells #[.int .u8 s, .bool sli, .bool slo, .slice sla sln slc, .bool shi, .bool sho, .slice sha shn shc] 31)).alloc (.cells #[.int .u8 0, .bool false, .bool false, .slice none 0 0, .bool false, .bool false, .slice none 0 0] 31)) (w.heap.size + 1) 31 #[.int .u8 s, .bool sli, .bool slo, .slice sla sln slc, .bool shi, .bool sho, .slice sha shn shc] := (box_at (by simp)).alloc _
  have C0 : Box (((w.alloc (.cells #[.int .u8 r, .bool rli, .bool rlo, .slice rla rln rlc, .bool rhi, .bool rho, .slice rha rhn rhc] 31)).alloc (.cells #[.int .u8 s, .bool sli, .bool slo, .slice sla sln slc, .bool shi, .bool sho, .slice sha shn shc] 31)).alloc (.cells #[.int .u8 0, .bool false, .bool false, .slice none 0 0, .bool false, .bool false, .slice none 0 0] 31)) (w.heap.size + 2) 31 #[.int .u8 0, .bool false, .bool false, .slice none 0 0, .bool false, .bool false, .slice none 0 0] := box_at (by simp)
  have q0 : okB ⟨r, ⟨rli, rlo, rll⟩, ⟨rhi, rho, rhl⟩⟩ ⟨s, ⟨sli, slo, sll⟩, ⟨shi, sho, shl⟩⟩ = (mayB ⟨r, ⟨rli, rlo, rll⟩, ⟨rhi, rho, rhl⟩⟩ && mayB ⟨s, ⟨sli, slo, sll⟩, ⟨shi, sho, shl⟩⟩ && decide (r = s)) := rfl
  have qn : okB ⟨r, ⟨rli, rlo, rll⟩, ⟨rhi, rho, rhl⟩⟩ ⟨s, ⟨sli, slo, sll⟩, ⟨shi, sho, shl⟩⟩ = false → meetR ⟨r, ⟨rli, rlo, rll⟩, ⟨rhi, rho, rhl⟩⟩ ⟨s, ⟨sli, slo, sll⟩, ⟨shi, sho, shl⟩⟩ = noR := fun h => by unfold meetR; rw [h]; rfl
  cases hM : mayB ⟨r, ⟨rli, rlo, rll⟩, ⟨rhi, rho, rhl⟩⟩
  · have q : okB ⟨r, ⟨rli, rlo, rll⟩, ⟨rhi, rho, rhl⟩⟩ ⟨s, ⟨sli, slo, sll⟩, ⟨shi, sho, shl⟩⟩ = false := by rw [q0, hM]; rfl
    rw [qn q, q]
    clear q q0 qn
    go_enter Tryd.func23, Tryd.ntmps23
    go_wp2_with fail
    refine (may_any _ _ _ _ _ _ _ _ _ _ _ _ _ _ hr1 Nrl hr2 Nrh).mono ?_
    rintro e w1 ⟨rfl, hb1⟩
    rw [hM]
    have hW := hb0.trans (hb1.mono hb0.size)
    have A1 := A0.after hb1
    have B1 := B0.after hb1
    have C1 := C0.after hb1
    have k0 := C1.cell 0 rfl
    have k1 := C1.cell 1 rfl
    have k2 := C1.cell 2 rfl
    have k3 := C1.cell 3 rfl
    have k4 := C1.cell 4 rfl
    have k5 := C1.cell 5 rfl
    have k6 := C1.cell 6 rfl
    have f0 := C1.frozen 0
    have f1 := C1.frozen 1
    have f2 := C1.frozen 2
    have f3 := C1.frozen 3
    have f4 := C1.frozen 4
    have f5 := C1.frozen 5
    have f6 := C1.frozen 6
    have kB : ∀ j v W, Below w.heap.size w W → Below w.heap.size w (W.setCell ⟨w.heap.size + 1 + 1, j, none⟩ v) := fun j v W h => h.setCell (by dsimp only; omega) v
    go_wp2_with fail
    exact bodyPost_ret (box_result2 Tryd.results23 _ _ rfl (((((((C1.set 0 _).set 1 _).set 2 _).set 3 _).set 4 _).set 5 _).set 6 _) Tryd.underlying31 rfl (by kernel_rfl)) rfl ⟨vNo, rfl, rfl, vNo_at _, kB _ _ _ (kB _ _ _ (kB _ _ _ (kB _ _ _ (kB _ _ _ (kB _ _ _ (kB _ _ _ hW))))))⟩
  · cases hM2 : mayB ⟨s, ⟨sli, slo, sll⟩, ⟨shi, sho, shl⟩⟩
    · have q : okB ⟨r, ⟨rli, rlo, rll⟩, ⟨rhi, rho, rhl⟩⟩ ⟨s, ⟨sli, slo, sll⟩, ⟨shi, sho, shl⟩⟩ = false := by rw [q0, hM, hM2]; rfl
      rw [qn q, q]
      clear q q0 qn
      go_enter Tryd.func23, Tryd.ntmps23
      go_wp2_with fail
      refine (may_any _ _ _ _ _ _ _ _ _ _ _ _ _ _ hr1 Nrl hr2 Nrh).mono ?_
      rintro e w1 ⟨rfl, hb1⟩
      rw [hM]
      have hW := hb0.trans (hb1.mono hb0.size)
      have A1 := A0.after hb1
      have B1 := B0.after hb1
      have C1 := C0.after hb1
      have c0 := B1.cell 0 rfl
      have c1 := B1.cell 1 rfl
      have c2 := B1.cell 2 rfl
      have c3 := B1.cell 3 rfl
      have c4 := B1.cell 4 rfl
      have c5 := B1.cell 5 rfl
      have c6 := B1.cell 6 rfl
      go_wp2_with fail
      refine (may_any _ _ _ _ _ _ _ _ _ _ _ _ _ _ (hs1.after hb1) Nsl (hs2.after hb1) Nsh).mono ?_
      rintro e w2 ⟨rfl, hb2⟩
      rw [hM2]
      have hW2 := hW.trans (hb2.mono hW.size)
      have A2 := A1.after hb2
      have B2 := B1.after hb2
      have C2 := C1.after hb2
      have k0 := C2.cell 0 rfl
      have k1 := C2.cell 1 rfl
      have k2 := C2.cell 2 rfl
      have k3 := C2.cell 3 rfl
      have k4 := C2.cell 4 rfl
      have k5 := C2.cell 5 rfl
      have k6 := C2.cell 6 rfl
      have f0 := C2.frozen 0
      have f1 := C2.frozen 1
      have f2 := C2.frozen 2
      have f3 := C2.frozen 3
      have f4 := C2.frozen 4
      have f5 := C2.frozen 5
      have f6 := C2.frozen 6
      have kB : ∀ j v W, Below w.heap.size w W → Below w.heap.size w (W.setCell ⟨w.heap.size + 1 + 1, j, none⟩ v) := fun j v W h => h.setCell (by dsimp only; omega) v
      go_wp2_with fail
      exact bodyPost_ret (box_result2 Tryd.results23 _ _ rfl (((((((C2.set 0 _).set 1 _).set 2 _).set 3 _).set 4 _).set 5 _).set 6 _) Tryd.underlying31 rfl (by kernel_rfl)) rfl ⟨vNo, rfl, rfl, vNo_at _, kB _ _ _ (kB _ _ _ (kB _ _ _ (kB _ _ _ (kB _ _ _ (kB _ _ _ (kB _ _ _ hW2))))))⟩
    · by_cases ho : r = s
      · subst ho
        have hne : ((r : Int) != (r : Int)) = false := by simp
        have q : okB ⟨r, ⟨rli, rlo, rll⟩, ⟨rhi, rho, rhl⟩⟩ ⟨r, ⟨sli, slo, sll⟩, ⟨shi, sho, shl⟩⟩ = true := by rw [q0, hM, hM2]; simp
        have hq : meetR ⟨r, ⟨rli, rlo, rll⟩, ⟨rhi, rho, rhl⟩⟩ ⟨r, ⟨sli, slo, sll⟩, ⟨shi, sho, shl⟩⟩ = ⟨r, tiB r ⟨rli, rlo, rll⟩ ⟨sli, slo, sll⟩ 1, tiB r ⟨rhi, rho, rhl⟩ ⟨shi, sho, shl⟩ (-1)⟩ := by unfold meetR; rw [q]; rfl
        rw [q]
        clear q q0 qn
        go_enter Tryd.func23, Tryd.ntmps23
        go_wp2_with fail
        refine (may_any _ _ _ _ _ _ _ _ _ _ _ _ _ _ hr1 Nrl hr2 Nrh).mono ?_
        rintro e w1 ⟨rfl, hb1⟩
        rw [hM]
        have hW := hb0.trans (hb1.mono hb0.size)
        have A1 := A0.after hb1
        have B1 := B0.after hb1
        have C1 := C0.after hb1
        have c0 := B1.cell 0 rfl
        have c1 := B1.cell 1 rfl
        have c2 := B1.cell 2 rfl
        have c3 := B1.cell 3 rfl
        have c4 := B1.cell 4 rfl
        have c5 := B1.cell 5 rfl
        have c6 := B1.cell 6 rfl
        go_wp2_with fail
        refine (may_any _ _ _ _ _ _ _ _ _ _ _ _ _ _ (hs1.after hb1) Nsl (hs2.after hb1) Nsh).mono ?_
        rintro e w2 ⟨rfl, hb2⟩
        rw [hM2]
        have hW2 := hW.trans (hb2.mono hW.size)
        have A2 := A1.after hb2
        have B2 := B1.after hb2
        have C2 := C1.after hb2
        have d0 := A2.cell 0 rfl
        have e0 := B2.cell 0 rfl
        have k1 : ∀ w', Below (w.heap.size + 2) w2 w' → Sl w' rla rln rlc rll := fun w' h => ((hr1.after hb1).after hb2).below h (fun b o h0 e => by have := Srl.lt b o h0 e; omega)
        have k2 : ∀ w', Below (w.heap.size + 2) w2 w' → Sl w' rha rhn rhc rhl := fun w' h => ((hr2.after hb1).after hb2).below h (fun b o h0 e => by have := Srh.lt b o h0 e; omega)
        have k3 : ∀ w', Below (w.heap.size + 2) w2 w' → Sl w' sla sln slc sll := fun w' h => ((hs1.after hb1).after hb2).below h (fun b o h0 e => by have := Ssl.lt b o h0 e; omega)
        have k4 : ∀ w', Below (w.heap.size + 2) w2 w' → Sl w' sha shn shc shl := fun w' h => ((hs2.after hb1).after hb2).below h (fun b o h0 e => by have := Ssh.lt b o h0 e; omega)
        have AA : ∀ w', Below (w.heap.size + 2) w2 w' → Box w' w.heap.size 31 #[.int .u8 r, .bool rli, .bool rlo, .slice rla rln rlc, .bool rhi, .bool rho, .slice rha rhn rhc] := fun w' h => A2.below h (by omega)
        have BB : ∀ w', Below (w.heap.size + 2) w2 w' → Box w' (w.heap.size + 1) 31 #[.int .u8 r, .bool sli, .bool slo, .slice sla sln slc, .bool shi, .bool sho, .slice sha shn shc] := fun w' h => B2.below h (by omega)
        have hle : w.heap.size ≤ w2.heap.size := hW2.size
        have hle3 : w.heap.size + 3 ≤ w2.heap.size := by have := C2.lt; omega
        have hKS : Keeps (fun w' => Below (w.heap.size + 2) w2 w') := fun w1 w' h hb => h.trans (hb.mono (by have := h.size; omega))
        obtain ⟨xi, xo, xa, xn, xc, xl, hx1, hx2, hx3, hx4⟩ := kept r rli rlo rla rln rlc rll sli slo sla sln slc sll 1 (fun w' => Below (w.heap.size + 2) w2 w') k1 Nrl k3 Nsl
        obtain ⟨yi, yo, ya, yn, yc, yl, hy1, hy2, hy3, hy4⟩ := kept r rhi rho rha rhn rhc rhl shi sho sha shn shc shl (-1) (fun w' => Below (w.heap.size + 2) w2 w') k2 Nrh k4 Nsh
        go_upto_region 3 with fail
        refine wp_region_U (w := w2) (fun w' => Below (w.heap.size + 2) w2 w') rfl (Below.refl _ _).drew ?_
        refine wpU_val 0 hKS rfl (by kernel_rfl) (by kernel_rfl) (by kernel_rfl) rfl (fun _ _ _ _ h => h) (.pointer (some ⟨w.heap.size, 0, none⟩)) (fun w' h => by simp [go_sem]) ?_
        simp only [Act.put, List.setIfInBounds_toArray, List.set_cons_zero, List.set_cons_succ]
        refine wpU_val 1 hKS rfl (by kernel_rfl) (by kernel_rfl) (by kernel_rfl) rfl (fun _ _ _ _ h => h) (.int .u8 r) (fun w' h => by simp [go_sem, (AA w' h).cell 0 rfl]) ?_
        simp only [Act.put, List.setIfInBounds_toArray, List.set_cons_zero, List.set_cons_succ]
        refine wpU_val 2 hKS rfl (by kernel_rfl) (by kernel_rfl) (by kernel_rfl) rfl (fun _ _ _ _ h => h) (.pointer (some ⟨w.heap.size, 0, none⟩)) (fun w' h => by simp [go_sem]) ?_
        simp only [Act.put, List.setIfInBounds_toArray, List.set_cons_zero, List.set_cons_succ]
        refine wpU_val 3 hKS rfl (by kernel_rfl) (by kernel_rfl) (by kernel_rfl) rfl (fun _ _ _ _ h => h) (.int .u8 r) (fun w' h => by simp [go_sem, (AA w' h).cell 0 rfl]) ?_
        simp only [Act.put, List.setIfInBounds_toArray, List.set_cons_zero, List.set_cons_succ]
        refine wpU_val 4 hKS rfl (by kernel_rfl) (by kernel_rfl) (by kernel_rfl) rfl (fun _ _ _ _ h => h) (.pointer (some ⟨w.heap.size, 1, none⟩)) (fun w' h => by simp [go_sem]) ?_
        simp only [Act.put, List.setIfInBounds_toArray, List.set_cons_zero, List.set_cons_succ]
        refine wpU_val 5 hKS rfl (by kernel_rfl) (by kernel_rfl) (by kernel_rfl) rfl (fun _ _ _ _ h => h) (.agg #[.bool rli, .bool rlo, .slice rla rln rlc]) (fun w' h => by simp [go_sem, (AA w' h).cell 1 rfl, (AA w' h).cell 2 rfl, (AA w' h).cell 3 rfl]) ?_
        simp only [Act.put, List.setIfInBounds_toArray, List.set_cons_zero, List.set_cons_succ]
        refine wpU_val 6 hKS rfl (by kernel_rfl) (by kernel_rfl) (by kernel_rfl) rfl (fun _ _ _ _ h => h) (.pointer (some ⟨w.heap.size + 1, 1, none⟩)) (fun w' h => by simp [go_sem]) ?_
        simp only [Act.put, List.setIfInBounds_toArray, List.set_cons_zero, List.set_cons_succ]
        refine wpU_val 7 hKS rfl (by kernel_rfl) (by kernel_rfl) (by kernel_rfl) rfl (fun _ _ _ _ h => h) (.agg #[.bool sli, .bool slo, .slice sla sln slc]) (fun w' h => by simp [go_sem, (BB w' h).cell 1 rfl, (BB w' h).cell 2 rfl, (BB w' h).cell 3 rfl]) ?_
        simp only [Act.put, List.setIfInBounds_toArray, List.set_cons_zero, List.set_cons_succ]
        refine wpU_val 10 hKS rfl (by kernel_rfl) (by kernel_rfl) (by kernel_rfl) rfl (fun _ _ _ _ h => h) (.pointer (some ⟨w.heap.size, 0, none⟩)) (fun w' h => by simp [go_sem]) ?_
        simp only [Act.put, List.setIfInBounds_toArray, List.set_cons_zero, List.set_cons_succ]
        refine wpU_val 11 hKS rfl (by kernel_rfl) (by kernel_rfl) (by kernel_rfl) rfl (fun _ _ _ _ h => h) (.int .u8 r) (fun w' h => by simp [go_sem, (AA w' h).cell 0 rfl]) ?_
        simp only [Act.put, List.setIfInBounds_toArray, List.set_cons_zero, List.set_cons_succ]
        refine wpU_val 12 hKS rfl (by kernel_rfl) (by kernel_rfl) (by kernel_rfl) rfl (fun _ _ _ _ h => h) (.pointer (some ⟨w.heap.size, 4, none⟩)) (fun w' h => by simp [go_sem]) ?_
        simp only [Act.put, List.setIfInBounds_toArray, List.set_cons_zero, List.set_cons_succ]
        refine wpU_val 13 hKS rfl (by kernel_rfl) (by kernel_rfl) (by kernel_rfl) rfl (fun _ _ _ _ h => h) (.agg #[.bool rhi, .bool rho, .slice rha rhn rhc]) (fun w' h => by simp [go_sem, (AA w' h).cell 4 rfl, (AA w' h).cell 5 rfl, (AA w' h).cell 6 rfl]) ?_
        simp only [Act.put, List.setIfInBounds_toArray, List.set_cons_zero, List.set_cons_succ]
        refine wpU_val 14 hKS rfl (by kernel_rfl) (by kernel_rfl) (by kernel_rfl) rfl (fun _ _ _ _ h => h) (.pointer (some ⟨w.heap.size + 1, 4, none⟩)) (fun w' h => by simp [go_sem]) ?_
        simp only [Act.put, List.setIfInBounds_toArray, List.set_cons_zero, List.set_cons_succ]
        refine wpU_val 15 hKS rfl (by kernel_rfl) (by kernel_rfl) (by kernel_rfl) rfl (fun _ _ _ _ h => h) (.agg #[.bool shi, .bool sho, .slice sha shn shc]) (fun w' h => by simp [go_sem, (BB w' h).cell 4 rfl, (BB w' h).cell 5 rfl, (BB w' h).cell 6 rfl]) ?_
        simp only [Act.put, List.setIfInBounds_toArray, List.set_cons_zero, List.set_cons_succ]
        refine wpU_callS 8 hKS rfl (by kernel_rfl) (by kernel_rfl) (by kernel_rfl) rfl (fun _ _ _ _ h => h) 37 #[.int .u8 r, .agg #[.bool rli, .bool rlo, .slice rla rln rlc], .agg #[.bool sli, .bool slo, .slice sla sln slc], .int .i64 1] (fun w => by simp [go_sem]) (.agg #[.bool xi, .bool xo, .slice xa xn xc]) (fun w' h => hx1 ▸ tighter_any _ _ _ _ _ _ _ _ _ _ _ _ _ _ (.inl rfl) _ (k1 w' h) Nrl (k3 w' h) Nsl) ?_
        simp only [Act.put, List.setIfInBounds_toArray, List.set_cons_zero, List.set_cons_succ]
        refine wpU_one 9 rfl (by kernel_rfl) rfl ?_
        intro u1 b1 s1
        refine wp_callR 36 #[.agg #[.bool xi, .bool xo, .slice xa xn xc]] (by simp [go_sem]) _ (own_any _ _ _ _ _ _ _ (hx3 _ s1) hx4) ?_
        rintro e u2 ⟨pa, pn, pc, rfl, hp1, hp2, b2⟩
        refine ⟨_, rfl, hKS _ _ s1 b2, ?_⟩
        simp only [Act.put, List.setIfInBounds_toArray, List.set_cons_zero, List.set_cons_succ]
        refine wpU_callS 16 hKS rfl (by kernel_rfl) (by kernel_rfl) (by kernel_rfl) rfl (fun _ _ _ _ h => h) 37 #[.int .u8 r, .agg #[.bool rhi, .bool rho, .slice rha rhn rhc], .agg #[.bool shi, .bool sho, .slice sha shn shc], .int .i64 (-1)] (fun w => by simp [go_sem]) (.agg #[.bool yi, .bool yo, .slice ya yn yc]) (fun w' h => hy1 ▸ tighter_any _ _ _ _ _ _ _ _ _ _ _ _ _ _ (.inr rfl) _ (k2 w' h) Nrh (k4 w' h) Nsh) ?_
        simp only [Act.put, List.setIfInBounds_toArray, List.set_cons_zero, List.set_cons_succ]
        refine wpU_one 17 rfl (by kernel_rfl) rfl ?_
        intro u3 b3 s3
        refine wp_callR 36 #[.agg #[.bool yi, .bool yo, .slice ya yn yc]] (by simp [go_sem]) _ (own_any _ _ _ _ _ _ _ (hy3 _ s3) hy4) ?_
        rintro e u4 ⟨qa, qn, qc, rfl, hq1, hq2, b4⟩
        refine ⟨_, rfl, hKS _ _ s3 b4, ?_⟩
        simp only [Act.put, List.setIfInBounds_toArray, List.set_cons_zero, List.set_cons_succ]
        have s4 := hKS _ _ s3 b4
        have Ep := (hp1.after b3).after b4
        have Eq := hq1
        refine wpU_val 18 hKS rfl (by kernel_rfl) (by kernel_rfl) (by kernel_rfl) rfl (fun _ _ _ _ h => h) (.agg #[.int .u8 r, .bool xi, .bool xo, .slice pa pn pc, .bool yi, .bool yo, .slice qa qn qc]) (fun w' h => by simp [go_sem]) ?_
        simp only [Act.put, List.setIfInBounds_toArray, List.set_cons_zero, List.set_cons_succ]
        have z1 := b1.size
        have z2 := b2.size
        have z3 := b3.size
        have z4 := b4.size
        have Op : Own (w.heap.size + 3) pa := hp2.le (by simp at z1; omega)
        have Oq : Own (w.heap.size + 3) qa := hq2.le (by simp at z1; omega)
        have D4 := (((C2.drew.after b1).after b2).after b3).after b4
        refine wpU_store_box (cells := #[.int .u8 r, .bool xi, .bool xo, .slice pa pn pc, .bool yi, .bool yo, .slice qa qn qc]) 19 rfl (by kernel_rfl) rfl 31 (.tmp 4) (.tmp 40) rfl D4 (by simp [go_sem]) (by simp [go_sem]) rfl (by kernel_rfl) (by simp [Value.oneCell']) ?_
        intro u5 u6 b5 s5 hbx st
        refine ⟨st.below _ _ (Nat.le_refl _) s5, ?_⟩
        simp only [Act.put]
        refine wpU_val 20 hKS rfl (by kernel_rfl) (by kernel_rfl) (by kernel_rfl) rfl (fun _ _ _ _ h => h) (.bool true) (fun w' h => by simp [go_sem]) ?_
        simp only [Act.put, List.setIfInBounds_toArray, List.set_cons_zero, List.set_cons_succ]
        refine wpU_done (by kernel_rfl) ?_
        intro u7 b7 s7
        have hV : Below w.heap.size w u7 := (st.below _ _ (by omega) (hW2.drew.trans (((((b1.mono hle).trans (b2.mono (by simp at z1; omega))).trans (b3.mono (by simp at z1; omega))).trans (b4.mono (by simp at z1; omega))).trans (b5.mono (by simp at z1; omega))))).trans (b7.mono (by have := st.size; have := b5.size; simp at z1; omega))
        have Fp := ((Ep.after b5).stored st (Op.ne (by omega))).after b7
        have Fq := ((Eq.after b5).stored st (Oq.ne (by omega))).after b7
        have hbx7 := hbx.after b7
        rename_i a1
        refine a1 _ _ ?_
        refine wp_ret ?_
        exact bodyPost_ret (box_result2 rfl _ _ rfl hbx7 Tryd.underlying31 rfl (by kernel_rfl)) rfl ⟨⟨r, xi, xo, pa, pn, pc, xl, yi, yo, qa, qn, qc, yl⟩, rfl, by rw [hq, hx2, hy2]; rfl, ⟨Fp, by show pn ≤ 200; have := Fp.1; have := (hx3 _ (Below.refl _ _)).1; omega, Fq, by show qn ≤ 200; have := Fq.1; have := (hy3 _ (Below.refl _ _)).1; omega⟩, hV⟩
      · have q : okB ⟨r, ⟨rli, rlo, rll⟩, ⟨rhi, rho, rhl⟩⟩ ⟨s, ⟨sli, slo, sll⟩, ⟨shi, sho, shl⟩⟩ = false := by rw [q0, decide_eq_false ho]; simp
        rw [qn q, q]
        have hne : ((r : Int) != (s : Int)) = true := by rw [bne_iff_ne]; omega
        clear ho q q0 qn
        go_enter Tryd.func23, Tryd.ntmps23
        go_wp2_with fail
        refine (may_any _ _ _ _ _ _ _ _ _ _ _ _ _ _ hr1 Nrl hr2 Nrh).mono ?_
        rintro e w1 ⟨rfl, hb1⟩
        rw [hM]
        have hW := hb0.trans (hb1.mono hb0.size)
        have A1 := A0.after hb1
        have B1 := B0.after hb1
        have C1 := C0.after hb1
        have c0 := B1.cell 0 rfl
        have c1 := B1.cell 1 rfl
        have c2 := B1.cell 2 rfl
        have c3 := B1.cell 3 rfl
        have c4 := B1.cell 4 rfl
        have c5 := B1.cell 5 rfl
        have c6 := B1.cell 6 rfl
        go_wp2_with fail
        refine (may_any _ _ _ _ _ _ _ _ _ _ _ _ _ _ (hs1.after hb1) Nsl (hs2.after hb1) Nsh).mono ?_
        rintro e w2 ⟨rfl, hb2⟩
        rw [hM2]
        have hW2 := hW.trans (hb2.mono hW.size)
        have A2 := A1.after hb2
        have B2 := B1.after hb2
        have C2 := C1.after hb2
        have d0 := A2.cell 0 rfl
        have e0 := B2.cell 0 rfl
        have k0 := C2.cell 0 rfl
        have k1 := C2.cell 1 rfl
        have k2 := C2.cell 2 rfl
        have k3 := C2.cell 3 rfl
        have k4 := C2.cell 4 rfl
        have k5 := C2.cell 5 rfl
        have k6 := C2.cell 6 rfl
        have f0 := C2.frozen 0
        have f1 := C2.frozen 1
        have f2 := C2.frozen 2
        have f3 := C2.frozen 3
        have f4 := C2.frozen 4
        have f5 := C2.frozen 5
        have f6 := C2.frozen 6
        have kB : ∀ j v W, Below w.heap.size w W → Below w.heap.size w (W.setCell ⟨w.heap.size + 1 + 1, j, none⟩ v) := fun j v W h => h.setCell (by dsimp only; omega) v
        go_wp2_with fail
        exact bodyPost_ret (box_result2 Tryd.results23 _ _ rfl (((((((C2.set 0 _).set 1 _).set 2 _).set 3 _).set 4 _).set 5 _).set 6 _) Tryd.underlying31 rfl (by kernel_rfl)) rfl ⟨vNo, rfl, rfl, vNo_at _, kB _ _ _ (kB _ _ _ (kB _ _ _ (kB _ _ _ (kB _ _ _ (kB _ _ _ (kB _ _ _ hW2))))))⟩
end Go.Proofs.YtoadpeigomkgiaaDoor

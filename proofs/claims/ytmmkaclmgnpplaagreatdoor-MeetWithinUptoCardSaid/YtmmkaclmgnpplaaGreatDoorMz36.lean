import Derived.Test.YtmmkaclmgnpplaaGreatDoorMz35
set_option maxRecDepth 100000
set_option maxHeartbeats 64000000
set_option linter.unusedSimpArgs false
set_option linter.unusedVariables false
namespace Go.Proofs.YtmmkaclmgnpplaaGreatDoor
open Go.RowKit
def noT : Tg := .mk 4 [] [] noR
def Tg.none? (t : Tg) : Bool := t.kd == 4 && t.ks.length == 0
def flatS (l : List Tg) : List Tg := l.flatMap fun t => if t.kd = 4 then t.ks else [t]
def setT (l : List Tg) : Tg := match flatS l with
 | [t] => t
 | o => .mk 4 [] o noR
theorem rT (l : List Tg) (t : Tg) : flatS (l ++ [t]) = flatS l ++ (if t.kd = 4 then t.ks else [t]) := by
 unfold flatS
 simp
def overF (f : Tg → Nat → Option (Tg × Nat)) : List Tg → Nat → Option (List Tg × Nat)
 | [], p => some ([], p)
 | k :: s, p => match f k p with
  | none => none
  | some (t, q) => match overF f s q with
   | none => none
   | some (l, r) => some (t :: l, r)
def listF (f : Tg → Tg → Nat → Option (Tg × Nat)) : List Tg → List Tg → Nat → Option (Option (List Tg) × Nat)
 | [], _, p => some (some [], p)
 | k :: s, [], p => if k.none? then some (none, p) else match listF f s [] p with
  | none => none
  | some (none, r) => some (none, r)
  | some (some l, r) => some (some (k :: l), r)
 | k :: s, y :: r, p => match f k y p with
  | none => none
  | some (t, q) => if t.none? then some (none, q) else match listF f s r q with
   | none => none
   | some (none, r) => some (none, r)
   | some (some l, r) => some (some (t :: l), r)
def takesT (t : Tg) (b : List UInt8) : Bool := Tg.takes t.kd t.da t.r b
def plainT (a b : Tg) : Tg :=
 if b.kd = 2 ∧ takesT a b.da = true then b
 else if a.kd = 2 ∧ takesT b a.da = true then a
 else if a.kd = 5 ∧ b.kd = 5 ∧ prefB a.da b.da = true then a
 else if a.kd = 5 ∧ b.kd = 5 ∧ prefB b.da a.da = true then b
 else if a.kd = 6 ∧ b.kd = 6 then
  (if okB a.r b.r && !emptyB (meetR a.r b.r) then .mk 6 [] [] (meetR a.r b.r) else noT)
 else noT
mutual
def meetF : Nat → Tg → Tg → Nat → Option (Tg × Nat)
 | 0, _, _, _ => none
 | n + 1, a, b, p => if 20000 < p + 1 then none else match bothF n a b (p + 1) with
  | none => none
  | some (t, q) => if t.may then some (t, q) else none
def bothF : Nat → Tg → Tg → Nat → Option (Tg × Nat)
 | n, a, b, p =>
  if a.kd = 1 then some (b, p) else if b.kd = 1 then some (a, p)
  else if a.kd = 4 then (match overF (fun k q => meetF n k b q) a.ks p with
   | none => none
   | some (l, q) => some (setT l, q))
  else if b.kd = 4 then (match overF (fun k q => meetF n a k q) b.ks p with
   | none => none
   | some (l, q) => some (setT l, q))
  else if a.kd = 3 ∧ b.kd = 3 then
   (match (if a.ks.length < b.ks.length then listF (meetF n) b.ks a.ks p else listF (meetF n) a.ks b.ks p) with
   | none => none
   | some (none, q) => some (noT, q)
   | some (some l, q) => some (.mk 3 [] l noR, q))
  else some (plainT a b, p)
end
theorem ry (a b : Tg) (p : Nat) : meetF 0 a b p = none := by simp only [meetF]
theorem jk (n : Nat) (a b : Tg) (p : Nat) : meetF (n + 1) a b p = (if 20000 < p + 1 then none else match bothF n a b (p + 1) with
  | none => none
  | some (t, q) => if t.may then some (t, q) else none) := by rw [meetF]
theorem cx (n : Nat) (a b : Tg) (p : Nat) : bothF n a b p = (
  if a.kd = 1 then some (b, p) else if b.kd = 1 then some (a, p)
  else if a.kd = 4 then (match overF (fun k q => meetF n k b q) a.ks p with
   | none => none
   | some (l, q) => some (setT l, q))
  else if b.kd = 4 then (match overF (fun k q => meetF n a k q) b.ks p with
   | none => none
   | some (l, q) => some (setT l, q))
  else if a.kd = 3 ∧ b.kd = 3 then
   (match (if a.ks.length < b.ks.length then listF (meetF n) b.ks a.ks p else listF (meetF n) a.ks b.ks p) with
   | none => none
   | some (none, q) => some (noT, q)
   | some (some l, q) => some (.mk 3 [] l noR, q))
  else some (plainT a b, p)) := by rw [bothF]
def preO (acc : List Tg) : Option (List Tg × Nat) → Option (List Tg × Nat)
 | none => none
 | some (l, q) => some (acc ++ l, q)
theorem pL (o : Option (List Tg × Nat)) : preO [] o = o := by
 rcases o with _ | ⟨l, q⟩ <;> simp [preO]
theorem lZ (f : Tg → Nat → Option (Tg × Nat)) (ks : List Tg) (k : Nat) (h : k < ks.length) (acc : List Tg) (p : Nat) :
  preO acc (overF f (ks.drop k) p) = (match f ks[k] p with
   | none => none
   | some (t, q) => preO (acc ++ [t]) (overF f (ks.drop (k + 1)) q)) := by
 rw [List.drop_eq_getElem_cons h]
 simp only [overF]
 rcases f ks[k] p with _ | ⟨t, q⟩
 ·rfl
 ·simp only []
  rcases overF f (ks.drop (k + 1)) q with _ | ⟨l, r⟩ <;> simp [preO]
theorem nw (f : Tg → Nat → Option (Tg × Nat)) (ks : List Tg) (k : Nat) (h : ks.length ≤ k) (acc : List Tg) (p : Nat) : preO acc (overF f (ks.drop k) p) = some (acc, p) := by
 rw [List.drop_of_length_le h]
 simp [overF, preO]
def preLs (acc : List Tg) : Option (Option (List Tg) × Nat) → Option (Option (List Tg) × Nat)
 | none => none
 | some (none, q) => some (none, q)
 | some (some l, q) => some (some (acc ++ l), q)
theorem pM (o : Option (Option (List Tg) × Nat)) : preLs [] o = o := by
 rcases o with _ | ⟨_ | l, q⟩ <;> simp [preLs]
theorem nv (t : Tg) (acc : List Tg) (o : Option (Option (List Tg) × Nat)) : preLs acc (match o with
  | none => none
  | some (none, r) => some (none, r)
  | some (some l, r) => some (some (t :: l), r)) = preLs (acc ++ [t]) o := by
 rcases o with _ | ⟨_ | l, q⟩ <;> simp [preLs]
theorem mf (f : Tg → Tg → Nat → Option (Tg × Nat)) (xs ys : List Tg) (k : Nat) (h : k < xs.length) (h2 : k < ys.length) (acc : List Tg) (p : Nat) :
  preLs acc (listF f (xs.drop k) (ys.drop k) p) = (match f xs[k] ys[k] p with
   | none => none
   | some (t, q) => if t.none? then some (none, q) else preLs (acc ++ [t]) (listF f (xs.drop (k + 1)) (ys.drop (k + 1)) q)) := by
 rw [List.drop_eq_getElem_cons h, List.drop_eq_getElem_cons h2]
 simp only [listF]
 rcases f xs[k] ys[k] p with _ | ⟨t, q⟩
 ·rfl
 ·simp only []
  cases t.none? with
  | true => simp [preLs]
  | false => simp only [Bool.false_eq_true, if_false]; exact nv t acc _
theorem nG (f : Tg → Tg → Nat → Option (Tg × Nat)) (xs ys : List Tg) (k : Nat) (h : k < xs.length) (h2 : ys.length ≤ k) (acc : List Tg) (p : Nat) :
  preLs acc (listF f (xs.drop k) (ys.drop k) p) = (if xs[k].none? then some (none, p) else preLs (acc ++ [xs[k]]) (listF f (xs.drop (k + 1)) (ys.drop (k + 1)) p)) := by
 rw [List.drop_eq_getElem_cons h, List.drop_of_length_le h2, List.drop_of_length_le (show ys.length ≤ k + 1 by omega)]
 simp only [listF]
 cases xs[k].none? with
 | true => simp [preLs]
 | false => simp only [Bool.false_eq_true, if_false]; exact nv _ acc _
theorem nH (f : Tg → Tg → Nat → Option (Tg × Nat)) (xs ys : List Tg) (k : Nat) (h : xs.length ≤ k) (acc : List Tg) (p : Nat) : preLs acc (listF f (xs.drop k) (ys.drop k) p) = some (some acc, p) := by
 rw [List.drop_of_length_le h]
 simp [listF, preLs]
def MeetPO (m : Rg) (ok : Bool) (w : World) (e : Ending) (w' : World) : Prop := ∃ v : RgV, e = .returned (.tuple #[v.val, .bool ok]) ∧ v.rg = m ∧ v.at w' ∧ Own w.heap.size v.la ∧ Own w.heap.size v.ha ∧ Below w.heap.size w w'
theorem pU (r : Nat) (bV a7 : Bool) (bs : Option Addr) (bi bm : Nat) (bU : List UInt8) (bW bf : Bool) (bu : Option Addr) (bg bt : Nat) (bZ : List UInt8) (s : Nat) (iU iT : Bool) (oh : Option Addr) (nl og : Nat) (mK : List UInt8) (fg iV : Bool) (om : Option Addr) (np ol : Nat) (mL : List UInt8) (w : World) (Srl : Sl w bs bi bm bU) (Nrl : bi ≤ 6000) (Srh : Sl w bu bg bt bZ) (Nrh : bg ≤ 6000) (Ssl : Sl w oh nl og mK) (Nsl : nl ≤ 6000) (Ssh : Sl w om np ol mL) (Nsh : np ≤ 6000) :
  Calls Tryz.prog 114 #[.agg #[.int .u8 r, .bool bV, .bool a7, .slice bs bi bm, .bool bW, .bool bf, .slice bu bg bt], .agg #[.int .u8 s, .bool iU, .bool iT, .slice oh nl og, .bool fg, .bool iV, .slice om np ol]] w (MeetPO (meetR ⟨r, ⟨bV, a7, bU⟩, ⟨bW, bf, bZ⟩⟩ ⟨s, ⟨iU, iT, mK⟩, ⟨fg, iV, mL⟩⟩) (okB ⟨r, ⟨bV, a7, bU⟩, ⟨bW, bf, bZ⟩⟩ ⟨s, ⟨iU, iT, mK⟩, ⟨fg, iV, mL⟩⟩) w) := by
 have au : Below w.heap.size w (((w.alloc (.cells #[.int .u8 r, .bool bV, .bool a7, .slice bs bi bm, .bool bW, .bool bf, .slice bu bg bt] 27)).alloc (.cells #[.int .u8 s, .bool iU, .bool iT, .slice oh nl og, .bool fg, .bool iV, .slice om np ol] 27)).alloc (.cells #[.int .u8 0, .bool false, .bool false, .slice none 0 0, .bool false, .bool false, .slice none 0 0] 27)) := (((Below.refl _ _).alloc (Nat.le_refl _) _).alloc (by simp) _).alloc (by simp; omega) _
 have p6 := Srl.after au
 have oY := Srh.after au
 have an := Ssl.after au
 have aO := Ssh.after au
 have A0 : Box (((w.alloc (.cells #[.int .u8 r, .bool bV, .bool a7, .slice bs bi bm, .bool bW, .bool bf, .slice bu bg bt] 27)).alloc (.cells #[.int .u8 s, .bool iU, .bool iT, .slice oh nl og, .bool fg, .bool iV, .slice om np ol] 27)).alloc (.cells #[.int .u8 0, .bool false, .bool false, .slice none 0 0, .bool false, .bool false, .slice none 0 0] 27)) w.heap.size 27 #[.int .u8 r, .bool bV, .bool a7, .slice bs bi bm, .bool bW, .bool bf, .slice bu bg bt] := ((Box.new _ _ _).alloc _).alloc _
 have B0 : Box (((w.alloc (.cells #[.int .u8 r, .bool bV, .bool a7, .slice bs bi bm, .bool bW, .bool bf, .slice bu bg bt] 27)).alloc (.cells #[.int .u8 s, .bool iU, .bool iT, .slice oh nl og, .bool fg, .bool iV, .slice om np ol] 27)).alloc (.cells #[.int .u8 0, .bool false, .bool false, .slice none 0 0, .bool false, .bool false, .slice none 0 0] 27)) (w.heap.size + 1) 27 #[.int .u8 s, .bool iU, .bool iT, .slice oh nl og, .bool fg, .bool iV, .slice om np ol] := (mE (by simp)).alloc _
 have C0 : Box (((w.alloc (.cells #[.int .u8 r, .bool bV, .bool a7, .slice bs bi bm, .bool bW, .bool bf, .slice bu bg bt] 27)).alloc (.cells #[.int .u8 s, .bool iU, .bool iT, .slice oh nl og, .bool fg, .bool iV, .slice om np ol] 27)).alloc (.cells #[.int .u8 0, .bool false, .bool false, .slice none 0 0, .bool false, .bool false, .slice none 0 0] 27)) (w.heap.size + 2) 27 #[.int .u8 0, .bool false, .bool false, .slice none 0 0, .bool false, .bool false, .slice none 0 0] := mE (by simp)
 have q0 : okB ⟨r, ⟨bV, a7, bU⟩, ⟨bW, bf, bZ⟩⟩ ⟨s, ⟨iU, iT, mK⟩, ⟨fg, iV, mL⟩⟩ = (mayB ⟨r, ⟨bV, a7, bU⟩, ⟨bW, bf, bZ⟩⟩ && mayB ⟨s, ⟨iU, iT, mK⟩, ⟨fg, iV, mL⟩⟩ && decide (r = s)) := rfl
 have qn : okB ⟨r, ⟨bV, a7, bU⟩, ⟨bW, bf, bZ⟩⟩ ⟨s, ⟨iU, iT, mK⟩, ⟨fg, iV, mL⟩⟩ = false → meetR ⟨r, ⟨bV, a7, bU⟩, ⟨bW, bf, bZ⟩⟩ ⟨s, ⟨iU, iT, mK⟩, ⟨fg, iV, mL⟩⟩ = noR := fun h => by unfold meetR; rw [h]; rfl
 cases hM : mayB ⟨r, ⟨bV, a7, bU⟩, ⟨bW, bf, bZ⟩⟩
 ·have q : okB ⟨r, ⟨bV, a7, bU⟩, ⟨bW, bf, bZ⟩⟩ ⟨s, ⟨iU, iT, mK⟩, ⟨fg, iV, mL⟩⟩ = false := by rw [q0, hM]; rfl
  rw [qn q, q]
  clear q q0 qn
  go_enter Tryz.func114, Tryz.ntmps114
  go_wp2_with fail
  refine (aR _ _ _ _ _ _ _ _ _ _ _ _ _ _ p6 Nrl oY Nrh).mono ?_
  rintro e w1 ⟨rfl, af⟩
  rw [hM]
  have hW := au.trans (af.mono au.size)
  have A1 := A0.after af
  have B1 := B0.after af
  have C1 := C0.after af
  have k0 := C1.cell 0 rfl
  have k1 := C1.cell 1 rfl
  have k2 := C1.cell 2 rfl
  have k3 := C1.cell 3 rfl
  have k4 := C1.cell 4 rfl
  have k5 := C1.cell 5 rfl
  have k6 := C1.cell 6 rfl
  have f0 := C1.frozen 0
  have f1 := C1.frozen 1
  have f2 := C1.frozen 2
  have f3 := C1.frozen 3
  have f4 := C1.frozen 4
  have f5 := C1.frozen 5
  have f6 := C1.frozen 6
  have kB : ∀ j v W, Below w.heap.size w W → Below w.heap.size w (W.setCell ⟨w.heap.size + 1 + 1, j, none⟩ v) := fun j v W h => h.setCell (by dsimp only; omega) v
  go_wp2_with fail
  exact bodyPost_ret (fW Tryz.results114 _ _ rfl (((((((C1.set 0 _).set 1 _).set 2 _).set 3 _).set 4 _).set 5 _).set 6 _) Tryz.underlying27 rfl (by kernel_rfl)) rfl ⟨vNo, rfl, rfl, qN _, fun b o e => (by cases e), fun b o e => (by cases e), kB _ _ _ (kB _ _ _ (kB _ _ _ (kB _ _ _ (kB _ _ _ (kB _ _ _ (kB _ _ _ hW))))))⟩
 ·cases CZ : mayB ⟨s, ⟨iU, iT, mK⟩, ⟨fg, iV, mL⟩⟩
  ·have q : okB ⟨r, ⟨bV, a7, bU⟩, ⟨bW, bf, bZ⟩⟩ ⟨s, ⟨iU, iT, mK⟩, ⟨fg, iV, mL⟩⟩ = false := by rw [q0, hM, CZ]; rfl
   rw [qn q, q]
   clear q q0 qn
   go_enter Tryz.func114, Tryz.ntmps114
   go_wp2_with fail
   refine (aR _ _ _ _ _ _ _ _ _ _ _ _ _ _ p6 Nrl oY Nrh).mono ?_
   rintro e w1 ⟨rfl, af⟩
   rw [hM]
   have hW := au.trans (af.mono au.size)
   have A1 := A0.after af
   have B1 := B0.after af
   have C1 := C0.after af
   have c0 := B1.cell 0 rfl
   have c1 := B1.cell 1 rfl
   have c2 := B1.cell 2 rfl
   have c3 := B1.cell 3 rfl
   have c4 := B1.cell 4 rfl
   have c5 := B1.cell 5 rfl
   have c6 := B1.cell 6 rfl
   go_wp2_with fail
   refine (aR _ _ _ _ _ _ _ _ _ _ _ _ _ _ (an.after af) Nsl (aO.after af) Nsh).mono ?_
   rintro e w2 ⟨rfl, aK⟩
   rw [CZ]
   have bE := hW.trans (aK.mono hW.size)
   have A2 := A1.after aK
   have B2 := B1.after aK
   have C2 := C1.after aK
   have k0 := C2.cell 0 rfl
   have k1 := C2.cell 1 rfl
   have k2 := C2.cell 2 rfl
   have k3 := C2.cell 3 rfl
   have k4 := C2.cell 4 rfl
   have k5 := C2.cell 5 rfl
   have k6 := C2.cell 6 rfl
   have f0 := C2.frozen 0
   have f1 := C2.frozen 1
   have f2 := C2.frozen 2
   have f3 := C2.frozen 3
   have f4 := C2.frozen 4
   have f5 := C2.frozen 5
   have f6 := C2.frozen 6
   have kB : ∀ j v W, Below w.heap.size w W → Below w.heap.size w (W.setCell ⟨w.heap.size + 1 + 1, j, none⟩ v) := fun j v W h => h.setCell (by dsimp only; omega) v
   go_wp2_with fail
   exact bodyPost_ret (fW Tryz.results114 _ _ rfl (((((((C2.set 0 _).set 1 _).set 2 _).set 3 _).set 4 _).set 5 _).set 6 _) Tryz.underlying27 rfl (by kernel_rfl)) rfl ⟨vNo, rfl, rfl, qN _, fun b o e => (by cases e), fun b o e => (by cases e), kB _ _ _ (kB _ _ _ (kB _ _ _ (kB _ _ _ (kB _ _ _ (kB _ _ _ (kB _ _ _ bE))))))⟩
  ·by_cases ho : r = s
   ·subst ho
    have gj : ((r : Int) != (r : Int)) = false := by simp
    have q : okB ⟨r, ⟨bV, a7, bU⟩, ⟨bW, bf, bZ⟩⟩ ⟨r, ⟨iU, iT, mK⟩, ⟨fg, iV, mL⟩⟩ = true := by rw [q0, hM, CZ]; simp
    have hq : meetR ⟨r, ⟨bV, a7, bU⟩, ⟨bW, bf, bZ⟩⟩ ⟨r, ⟨iU, iT, mK⟩, ⟨fg, iV, mL⟩⟩ = ⟨r, tiB r ⟨bV, a7, bU⟩ ⟨iU, iT, mK⟩ 1, tiB r ⟨bW, bf, bZ⟩ ⟨fg, iV, mL⟩ (-1)⟩ := by unfold meetR; rw [q]; rfl
    rw [q]
    clear q q0 qn
    go_enter Tryz.func114, Tryz.ntmps114
    go_wp2_with fail
    refine (aR _ _ _ _ _ _ _ _ _ _ _ _ _ _ p6 Nrl oY Nrh).mono ?_
    rintro e w1 ⟨rfl, af⟩
    rw [hM]
    have hW := au.trans (af.mono au.size)
    have A1 := A0.after af
    have B1 := B0.after af
    have C1 := C0.after af
    have c0 := B1.cell 0 rfl
    have c1 := B1.cell 1 rfl
    have c2 := B1.cell 2 rfl
    have c3 := B1.cell 3 rfl
    have c4 := B1.cell 4 rfl
    have c5 := B1.cell 5 rfl
    have c6 := B1.cell 6 rfl
    go_wp2_with fail
    refine (aR _ _ _ _ _ _ _ _ _ _ _ _ _ _ (an.after af) Nsl (aO.after af) Nsh).mono ?_
    rintro e w2 ⟨rfl, aK⟩
    rw [CZ]
    have bE := hW.trans (aK.mono hW.size)
    have A2 := A1.after aK
    have B2 := B1.after aK
    have C2 := C1.after aK
    have d0 := A2.cell 0 rfl
    have e0 := B2.cell 0 rfl
    have k1 : ∀ w', Below (w.heap.size + 2) w2 w' → Sl w' bs bi bm bU := fun w' h => ((p6.after af).after aK).below h (fun b o h0 e => by have := Srl.lt b o h0 e; omega)
    have k2 : ∀ w', Below (w.heap.size + 2) w2 w' → Sl w' bu bg bt bZ := fun w' h => ((oY.after af).after aK).below h (fun b o h0 e => by have := Srh.lt b o h0 e; omega)
    have k3 : ∀ w', Below (w.heap.size + 2) w2 w' → Sl w' oh nl og mK := fun w' h => ((an.after af).after aK).below h (fun b o h0 e => by have := Ssl.lt b o h0 e; omega)
    have k4 : ∀ w', Below (w.heap.size + 2) w2 w' → Sl w' om np ol mL := fun w' h => ((aO.after af).after aK).below h (fun b o h0 e => by have := Ssh.lt b o h0 e; omega)
    have AA : ∀ w', Below (w.heap.size + 2) w2 w' → Box w' w.heap.size 27 #[.int .u8 r, .bool bV, .bool a7, .slice bs bi bm, .bool bW, .bool bf, .slice bu bg bt] := fun w' h => A2.below h (by omega)
    have BB : ∀ w', Below (w.heap.size + 2) w2 w' → Box w' (w.heap.size + 1) 27 #[.int .u8 r, .bool iU, .bool iT, .slice oh nl og, .bool fg, .bool iV, .slice om np ol] := fun w' h => B2.below h (by omega)
    have td : w.heap.size ≤ w2.heap.size := bE.size
    have Hi : w.heap.size + 3 ≤ w2.heap.size := by have := C2.lt; omega
    have aF : Keeps (fun w' => Below (w.heap.size + 2) w2 w') := fun w1 w' h hb => h.trans (hb.mono (by have := h.size; omega))
    obtain ⟨xi, xo, xa, xn, xc, xl, jV, pZ, yx, Do⟩ := BS r bV a7 bs bi bm bU iU iT oh nl og mK 1 (fun w' => Below (w.heap.size + 2) w2 w') k1 Nrl k3 Nsl
    obtain ⟨yi, yo, ya, yn, yc, yl, s8, wu, FS, GY⟩ := BS r bW bf bu bg bt bZ fg iV om np ol mL (-1) (fun w' => Below (w.heap.size + 2) w2 w') k2 Nrh k4 Nsh
    go_upto_region 3 with fail
    refine fN (w := w2) (fun w' => Below (w.heap.size + 2) w2 w') rfl (Below.refl _ _).drew ?_
    refine aG 0 aF rfl (by kernel_rfl) (by kernel_rfl) (by kernel_rfl) rfl (fun _ _ _ _ h => h) (.pointer (some ⟨w.heap.size, 0, none⟩)) (fun w' h => by simp [go_sem]) ?_
    simp only [Act.put, I2, I3, I4]
    refine aG 1 aF rfl (by kernel_rfl) (by kernel_rfl) (by kernel_rfl) rfl (fun _ _ _ _ h => h) (.int .u8 r) (fun w' h => by simp [go_sem, (AA w' h).cell 0 rfl]) ?_
    simp only [Act.put, I2, I3, I4]
    refine aG 2 aF rfl (by kernel_rfl) (by kernel_rfl) (by kernel_rfl) rfl (fun _ _ _ _ h => h) (.pointer (some ⟨w.heap.size, 0, none⟩)) (fun w' h => by simp [go_sem]) ?_
    simp only [Act.put, I2, I3, I4]
    refine aG 3 aF rfl (by kernel_rfl) (by kernel_rfl) (by kernel_rfl) rfl (fun _ _ _ _ h => h) (.int .u8 r) (fun w' h => by simp [go_sem, (AA w' h).cell 0 rfl]) ?_
    simp only [Act.put, I2, I3, I4]
    refine aG 4 aF rfl (by kernel_rfl) (by kernel_rfl) (by kernel_rfl) rfl (fun _ _ _ _ h => h) (.pointer (some ⟨w.heap.size, 1, none⟩)) (fun w' h => by simp [go_sem]) ?_
    simp only [Act.put, I2, I3, I4]
    refine aG 5 aF rfl (by kernel_rfl) (by kernel_rfl) (by kernel_rfl) rfl (fun _ _ _ _ h => h) (.agg #[.bool bV, .bool a7, .slice bs bi bm]) (fun w' h => by simp [go_sem, (AA w' h).cell 1 rfl, (AA w' h).cell 2 rfl, (AA w' h).cell 3 rfl]) ?_
    simp only [Act.put, I2, I3, I4]
    refine aG 6 aF rfl (by kernel_rfl) (by kernel_rfl) (by kernel_rfl) rfl (fun _ _ _ _ h => h) (.pointer (some ⟨w.heap.size + 1, 1, none⟩)) (fun w' h => by simp [go_sem]) ?_
    simp only [Act.put, I2, I3, I4]
    refine aG 7 aF rfl (by kernel_rfl) (by kernel_rfl) (by kernel_rfl) rfl (fun _ _ _ _ h => h) (.agg #[.bool iU, .bool iT, .slice oh nl og]) (fun w' h => by simp [go_sem, (BB w' h).cell 1 rfl, (BB w' h).cell 2 rfl, (BB w' h).cell 3 rfl]) ?_
    simp only [Act.put, I2, I3, I4]
    refine aG 10 aF rfl (by kernel_rfl) (by kernel_rfl) (by kernel_rfl) rfl (fun _ _ _ _ h => h) (.pointer (some ⟨w.heap.size, 0, none⟩)) (fun w' h => by simp [go_sem]) ?_
    simp only [Act.put, I2, I3, I4]
    refine aG 11 aF rfl (by kernel_rfl) (by kernel_rfl) (by kernel_rfl) rfl (fun _ _ _ _ h => h) (.int .u8 r) (fun w' h => by simp [go_sem, (AA w' h).cell 0 rfl]) ?_
    simp only [Act.put, I2, I3, I4]
    refine aG 12 aF rfl (by kernel_rfl) (by kernel_rfl) (by kernel_rfl) rfl (fun _ _ _ _ h => h) (.pointer (some ⟨w.heap.size, 4, none⟩)) (fun w' h => by simp [go_sem]) ?_
    simp only [Act.put, I2, I3, I4]
    refine aG 13 aF rfl (by kernel_rfl) (by kernel_rfl) (by kernel_rfl) rfl (fun _ _ _ _ h => h) (.agg #[.bool bW, .bool bf, .slice bu bg bt]) (fun w' h => by simp [go_sem, (AA w' h).cell 4 rfl, (AA w' h).cell 5 rfl, (AA w' h).cell 6 rfl]) ?_
    simp only [Act.put, I2, I3, I4]
    refine aG 14 aF rfl (by kernel_rfl) (by kernel_rfl) (by kernel_rfl) rfl (fun _ _ _ _ h => h) (.pointer (some ⟨w.heap.size + 1, 4, none⟩)) (fun w' h => by simp [go_sem]) ?_
    simp only [Act.put, I2, I3, I4]
    refine aG 15 aF rfl (by kernel_rfl) (by kernel_rfl) (by kernel_rfl) rfl (fun _ _ _ _ h => h) (.agg #[.bool fg, .bool iV, .slice om np ol]) (fun w' h => by simp [go_sem, (BB w' h).cell 4 rfl, (BB w' h).cell 5 rfl, (BB w' h).cell 6 rfl]) ?_
    simp only [Act.put, I2, I3, I4]
    refine ni 8 aF rfl (by kernel_rfl) (by kernel_rfl) (by kernel_rfl) rfl (fun _ _ _ _ h => h) 135 #[.int .u8 r, .agg #[.bool bV, .bool a7, .slice bs bi bm], .agg #[.bool iU, .bool iT, .slice oh nl og], .int .i64 1] (fun w => by simp [go_sem]) (.agg #[.bool xi, .bool xo, .slice xa xn xc]) (fun w' h => jV ▸ kZ _ _ _ _ _ _ _ _ _ _ _ _ _ _ (.inl rfl) _ (k1 w' h) Nrl (k3 w' h) Nsl) ?_
    simp only [Act.put, I2, I3, I4]
    refine es 9 rfl (by kernel_rfl) rfl ?_
    intro u1 b1 s1
    refine aT 134 #[.agg #[.bool xi, .bool xo, .slice xa xn xc]] (by simp [go_sem]) _ (sC _ _ _ _ _ _ _ (yx _ s1) Do) ?_
    rintro e u2 ⟨pa, pn, pc, rfl, F8, F7, b2⟩
    refine ⟨_, rfl, aF _ _ s1 b2, ?_⟩
    simp only [Act.put, I2, I3, I4]
    refine ni 16 aF rfl (by kernel_rfl) (by kernel_rfl) (by kernel_rfl) rfl (fun _ _ _ _ h => h) 135 #[.int .u8 r, .agg #[.bool bW, .bool bf, .slice bu bg bt], .agg #[.bool fg, .bool iV, .slice om np ol], .int .i64 (-1)] (fun w => by simp [go_sem]) (.agg #[.bool yi, .bool yo, .slice ya yn yc]) (fun w' h => s8 ▸ kZ _ _ _ _ _ _ _ _ _ _ _ _ _ _ (.inr rfl) _ (k2 w' h) Nrh (k4 w' h) Nsh) ?_
    simp only [Act.put, I2, I3, I4]
    refine es 17 rfl (by kernel_rfl) rfl ?_
    intro u3 b3 s3
    refine aT 134 #[.agg #[.bool yi, .bool yo, .slice ya yn yc]] (by simp [go_sem]) _ (sC _ _ _ _ _ _ _ (FS _ s3) GY) ?_
    rintro e u4 ⟨qa, qn, qc, rfl, nJ, iW, b4⟩
    refine ⟨_, rfl, aF _ _ s3 b4, ?_⟩
    simp only [Act.put, I2, I3, I4]
    have s4 := aF _ _ s3 b4
    have Ep := (F8.after b3).after b4
    have Eq := nJ
    refine aG 18 aF rfl (by kernel_rfl) (by kernel_rfl) (by kernel_rfl) rfl (fun _ _ _ _ h => h) (.agg #[.int .u8 r, .bool xi, .bool xo, .slice pa pn pc, .bool yi, .bool yo, .slice qa qn qc]) (fun w' h => by simp [go_sem]) ?_
    simp only [Act.put, I2, I3, I4]
    have z1 := b1.size
    have z2 := b2.size
    have z3 := b3.size
    have z4 := b4.size
    have Op : Own (w.heap.size + 3) pa := F7.le (by simp at z1; omega)
    have Oq : Own (w.heap.size + 3) qa := iW.le (by simp at z1; omega)
    have D4 := (((C2.drew.after b1).after b2).after b3).after b4
    refine mS (cells := #[.int .u8 r, .bool xi, .bool xo, .slice pa pn pc, .bool yi, .bool yo, .slice qa qn qc]) 19 rfl (by kernel_rfl) rfl 27 (.tmp 4) (.tmp 40) rfl D4 (by simp [go_sem]) (by simp [go_sem]) rfl (by kernel_rfl) (by simp [Value.oneCell']) ?_
    intro u5 u6 b5 s5 hbx st
    refine ⟨st.below _ _ (Nat.le_refl _) s5, ?_⟩
    simp only [Act.put]
    refine aG 20 aF rfl (by kernel_rfl) (by kernel_rfl) (by kernel_rfl) rfl (fun _ _ _ _ h => h) (.bool true) (fun w' h => by simp [go_sem]) ?_
    simp only [Act.put, I2, I3, I4]
    refine cB (by kernel_rfl) ?_
    intro u7 b7 s7
    have hV : Below w.heap.size w u7 := (st.below _ _ (by omega) (bE.drew.trans (((((b1.mono td).trans (b2.mono (by simp at z1; omega))).trans (b3.mono (by simp at z1; omega))).trans (b4.mono (by simp at z1; omega))).trans (b5.mono (by simp at z1; omega))))).trans (b7.mono (by have := st.size; have := b5.size; simp at z1; omega))
    have Fp := ((Ep.after b5).stored st (Op.ne (by omega))).after b7
    have Fq := ((Eq.after b5).stored st (Oq.ne (by omega))).after b7
    have EG := hbx.after b7
    rename_i a1
    refine a1 _ _ ?_
    refine wp_ret ?_
    exact bodyPost_ret (fW rfl _ _ rfl EG Tryz.underlying27 rfl (by kernel_rfl)) rfl ⟨⟨r, xi, xo, pa, pn, pc, xl, yi, yo, qa, qn, qc, yl⟩, rfl, by rw [hq, pZ, wu]; rfl, ⟨Fp, by show pn ≤ 6000; have := Fp.1; have := (yx _ (Below.refl _ _)).1; omega, Fq, by show qn ≤ 6000; have := Fq.1; have := (FS _ (Below.refl _ _)).1; omega⟩, Op.le (by omega), Oq.le (by omega), hV⟩
   ·have q : okB ⟨r, ⟨bV, a7, bU⟩, ⟨bW, bf, bZ⟩⟩ ⟨s, ⟨iU, iT, mK⟩, ⟨fg, iV, mL⟩⟩ = false := by rw [q0, decide_eq_false ho]; simp
    rw [qn q, q]
    have gj : ((r : Int) != (s : Int)) = true := by rw [bne_iff_ne]; omega
    clear ho q q0 qn
    go_enter Tryz.func114, Tryz.ntmps114
    go_wp2_with fail
    refine (aR _ _ _ _ _ _ _ _ _ _ _ _ _ _ p6 Nrl oY Nrh).mono ?_
    rintro e w1 ⟨rfl, af⟩
    rw [hM]
    have hW := au.trans (af.mono au.size)
    have A1 := A0.after af
    have B1 := B0.after af
    have C1 := C0.after af
    have c0 := B1.cell 0 rfl
    have c1 := B1.cell 1 rfl
    have c2 := B1.cell 2 rfl
    have c3 := B1.cell 3 rfl
    have c4 := B1.cell 4 rfl
    have c5 := B1.cell 5 rfl
    have c6 := B1.cell 6 rfl
    go_wp2_with fail
    refine (aR _ _ _ _ _ _ _ _ _ _ _ _ _ _ (an.after af) Nsl (aO.after af) Nsh).mono ?_
    rintro e w2 ⟨rfl, aK⟩
    rw [CZ]
    have bE := hW.trans (aK.mono hW.size)
    have A2 := A1.after aK
    have B2 := B1.after aK
    have C2 := C1.after aK
    have d0 := A2.cell 0 rfl
    have e0 := B2.cell 0 rfl
    have k0 := C2.cell 0 rfl
    have k1 := C2.cell 1 rfl
    have k2 := C2.cell 2 rfl
    have k3 := C2.cell 3 rfl
    have k4 := C2.cell 4 rfl
    have k5 := C2.cell 5 rfl
    have k6 := C2.cell 6 rfl
    have f0 := C2.frozen 0
    have f1 := C2.frozen 1
    have f2 := C2.frozen 2
    have f3 := C2.frozen 3
    have f4 := C2.frozen 4
    have f5 := C2.frozen 5
    have f6 := C2.frozen 6
    have kB : ∀ j v W, Below w.heap.size w W → Below w.heap.size w (W.setCell ⟨w.heap.size + 1 + 1, j, none⟩ v) := fun j v W h => h.setCell (by dsimp only; omega) v
    go_wp2_with fail
    exact bodyPost_ret (fW Tryz.results114 _ _ rfl (((((((C2.set 0 _).set 1 _).set 2 _).set 3 _).set 4 _).set 5 _).set 6 _) Tryz.underlying27 rfl (by kernel_rfl)) rfl ⟨vNo, rfl, rfl, qN _, fun b o e => (by cases e), fun b o e => (by cases e), kB _ _ _ (kB _ _ _ (kB _ _ _ (kB _ _ _ (kB _ _ _ (kB _ _ _ (kB _ _ _ bE))))))⟩
theorem bj (w : World) : Calls Tryz.prog 113 #[] w (TagP noT w) := by
 let x0 := (w.alloc (.cells #[.int .u8 0, .slice none 0 0, .slice none 0 0, .int .u8 0, .bool false, .bool false, .slice none 0 0, .bool false, .bool false, .slice none 0 0] 29))
 have B : Below w.heap.size w x0 := (Below.refl _ _).alloc (Nat.le_refl _) _
 have Y : Hid (Box x0 w.heap.size 29 #[.int .u8 0, .slice none 0 0, .slice none 0 0, .int .u8 0, .bool false, .bool false, .slice none 0 0, .bool false, .bool false, .slice none 0 0]) := I5 (Box.new _ _ _)
 go_enter Tryz.func113, Tryz.ntmps113
 go_upto_region 1 with fail
 change Code.wp _ _ _ _ x0
 clear_value x0
 go_wp2_with (refine ac (cells := #[.int .u8 4, .slice none 0 0, .slice none 0 0, .int .u8 0, .bool false, .bool false, .slice none 0 0, .bool false, .bool false, .slice none 0 0]) rfl 29 _ _ rfl Y.out (by rfl) (by rfl) rfl (by kernel_rfl) (by simp [Value.oneCell']) ?_; intro u9 X9 st9)
 have B9 := st9.below w.heap.size w (by omega) B
 exact bodyPost_ret (v := .agg #[.int .u8 4, .slice none 0 0, .slice none 0 0, .int .u8 0, .bool false, .bool false, .slice none 0 0, .bool false, .bool false, .slice none 0 0]) (ae rfl _ _ (by rfl) X9 Tryz.underlying29 rfl (by kernel_rfl)) rfl ⟨⟨4, none, 0, 0, none, 0, 0, 0, false, false, none, 0, 0, false, false, none, 0, 0⟩, rfl, iB _ u9 4 (by omega) none 0 0 [] (Sl.nil _) (.inl rfl), B9⟩
theorem fX (t : Tg) (v : TV) (w : World) (hr : RdT (fun _ => True) w v t) : Calls Tryz.prog 112 #[v.val] w fun e w' => e = .returned (.bool t.none?) ∧ Below w.heap.size w w' := by
 obtain ⟨kd, da, ks, r⟩ := t
 obtain ⟨⟨cH, ho, cK, dv, dx, dw, fJ, fF⟩, an, hsl, cf, hn, K, ah, hk⟩ := hr.parts
 obtain ⟨ay, aw, ap, av, aA, aS, az, vo, am, ak, aE, aB, aD, ar, aq, aI, aC, aH⟩ := v
 obtain ⟨ro, ⟨li, lo, ll⟩, ⟨hi, mN, hl⟩⟩ := r
 dsimp only [Tg.kd, Tg.r, Tg.da, Tg.ks] at cH ho cK dv dx dw fJ fF an hsl cf hn ah hk
 subst cH ho cK dv dx dw hn
 have fL := I5 an
 have ke := I5 hsl
 have kf := I5 cf
 have HR := I5 ah
 have HK := I5 hk
 have ep := I5 an.1
 have kF := I5 hsl.1
 have kG := I5 cf.1
 have cF := Nat.le_trans an.2.1 an.2.2.1
 have cE := Nat.le_trans ah.1 ah.2.1
 unfold maxLen at cF cE
 clear an hsl cf ah hk hr
 obtain ⟨R, hR⟩ : ∃ R, R = (Tg.mk ay da ks ⟨vo, ⟨am, ak, ll⟩, ⟨ar, aq, hl⟩⟩).none? := ⟨_, rfl⟩
 rw [← hR]
 have HF : Hid (R = (ay == 4 && ks.length == 0)) := I5 hR
 clear hR
 let x0 := (w.alloc (.cells #[.int .u8 ay, .slice aw ap av, .slice aA ks.length az, .int .u8 vo, .bool am, .bool ak, .slice aE aB aD, .bool ar, .bool aq, .slice aI aC aH] 29))
 have B : Below w.heap.size w x0 := (Below.refl _ _).alloc (Nat.le_refl _) _
 have X : Hid (Box x0 w.heap.size 29 #[.int .u8 ay, .slice aw ap av, .slice aA ks.length az, .int .u8 vo, .bool am, .bool ak, .slice aE aB aD, .bool ar, .bool aq, .slice aI aC aH]) := I5 (Box.new _ _ _)
 show Calls _ _ #[.agg #[.int .u8 ay, .slice aw ap av, .slice aA ks.length az, .int .u8 vo, .bool am, .bool ak, .slice aE aB aD, .bool ar, .bool aq, .slice aI aC aH]] _ _
 go_enter Tryz.func112, Tryz.ntmps112
 go_upto_region 1 with fail
 change Code.wp _ _ _ _ x0
 clear_value x0
 have q0 := X.out.cell 0 rfl
 have q2 := X.out.cell 2 rfl
 by_cases h4 : ay = 4
 case neg =>
  have t4 : ((ay : Int) == 4) = false := beq_eq_false_iff_ne.mpr (by omega)
  have HG : Hid (R = false) := I5 (by rw [HF.out, beq_eq_false_iff_ne.mpr h4]; rfl)
  clear HF h4
  go_wp2_with fail
  go_ret
  exact ⟨by rw [HG.out] <;> rfl, B⟩
 subst h4
 by_cases h0 : ks.length = 0
 case neg =>
  have t0 : ((ks.length : Int) == 0) = false := beq_eq_false_iff_ne.mpr (by omega)
  have HG : Hid (R = false) := I5 (by rw [HF.out, beq_eq_false_iff_ne.mpr h0]; rfl)
  clear HF h0
  go_wp2_with fail
  go_ret
  exact ⟨by rw [HG.out] <;> rfl, B⟩
 have t0 : ((ks.length : Int) == 0) = true := beq_iff_eq.mpr (by omega)
 have HG : Hid (R = true) := I5 (by rw [HF.out, beq_iff_eq.mpr h0]; rfl)
 clear HF h0
 go_wp2_with fail
 go_ret
 exact ⟨by rw [HG.out] <;> rfl, B⟩
end Go.Proofs.YtmmkaclmgnpplaaGreatDoor

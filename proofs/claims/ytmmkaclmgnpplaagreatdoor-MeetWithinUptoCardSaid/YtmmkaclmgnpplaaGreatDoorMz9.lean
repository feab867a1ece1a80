import Derived.Test.YtmmkaclmgnpplaaGreatDoorMz8
set_option maxRecDepth 100000
set_option maxHeartbeats 64000000
set_option linter.unusedSimpArgs false
set_option linter.unusedVariables false
namespace Go.Proofs.YtmmkaclmgnpplaaGreatDoor
open Go.RowKit
abbrev RdN (s : ByteArray) (p m : Nat) : Array Value := #[.string s, .int .i64 p, .int .i64 m]
def FaultN (p e : Nat) : Ending := .panicked [{ v := .iface 97 (.agg #[.int .i64 p, .int .i64 e]), recovered := false }]
theorem eb (p e : Nat) (w : World) : Calls Tryz.prog 92 #[.int .i64 p, .int .i64 e] w fun x w' => x = FaultN p e ∧ w' = w := by
 go_enter Tryz.func92, Tryz.ntmps92
 go_wp2_with fail
 unfold FaultN
 exact ⟨rfl, rfl, rfl⟩
theorem ib (S : ByteArray) (c : UInt8) (w : World) : Calls Tryz.prog 96 #[.string S, .int .u8 (c.toNat : Int)] w fun x w' => x = .returned (.bool (isIn S.data.toList c)) ∧ w' = w := by
 go_enter Tryz.func96, Tryz.ntmps96
 go_wp2_with fail
 refine (Tryz.strings_IndexByte S (c.toNat : Int) w).mono ?_
 rintro e w1 ⟨rfl, rfl⟩
 go_wp2_with fail
 go_ret
 exact ⟨by unfold isIn; simp, rfl⟩
theorem gp (s : ByteArray) (p : Nat) (h : p < s.size) : s[p] = s.data.toList.getD p 0 := by
 rw [List.getD_eq_getElem?_getD, List.getElem?_eq_getElem (by simpa using h)]
 simp only [Option.getD_some, Array.getElem_toList]
 rfl
theorem dT {B : Nat} {w0 w : World} (h : Below B w0 w) (n : Nat) : Below B w0 (w.drewN n) := ⟨h.os, h.tape, h.output, h.size, h.block⟩
def PeekP (s : ByteArray) (p : Nat) (w : World) (e : Ending) (w' : World) : Prop :=
 Below w.heap.size w w' ∧ ((s.size ≤ p ∧ e = FaultN s.size 2) ∨ (p < s.size ∧ e = .returned (.int .u8 ((s.data.toList.getD p 0).toNat : Int))))
theorem lY (g : Nat) (s : ByteArray) (p m : Nat) (w : World) (hX : Box w g 100 (RdN s p m)) (hs : s.size ≤ 1000000) : Calls Tryz.prog 95 #[.pointer (some ⟨g, 0, none⟩)] w (PeekP s p w) := by
 have x0 : w.cell? ⟨g, 0, none⟩ = some (.string s) := hX.cell 0 rfl
 have x1 : w.cell? ⟨g, 1, none⟩ = some (.int .i64 p) := hX.cell 1 rfl
 clear hX
 by_cases h : s.size ≤ p
 ·have h' : (s.size : Int) ≤ (p : Int) := by omega
  go_enter Tryz.func95, Tryz.ntmps95
  go_wp2_with fail
  go_quiet (fail)
  go_wp2_with fail
  refine (eb s.size 2 _).mono ?_
  rintro e w1 ⟨rfl, rfl⟩
  unfold FaultN
  go_wp2_with fail
  exact ⟨rfl, dT (Below.refl _ _) _, .inl ⟨h, rfl⟩⟩
 ·have h' : ¬ (s.size : Int) ≤ (p : Int) := by omega
  have Ed : (0 : Int) ≤ p := by omega
  have F8 : (p : Int) < s.size := by omega
  have aJ : p < s.size := by omega
  have HB := I5 (gp s p aJ)
  go_enter Tryz.func95, Tryz.ntmps95
  go_wp2_with fail
  go_quiet (fail)
  go_wp2_with fail
  go_quiet (fail)
  go_wp2_with fail
  go_ret
  exact ⟨dT (dT (Below.refl _ _) _) _, .inr ⟨aJ, by rw [← HB.out]; rfl⟩⟩
def SkipN (g : Nat) (s : ByteArray) (p m : Nat) (w : World) (e : Ending) (w' : World) : Prop :=
 e = .returned (.tuple #[]) ∧ Box w' g 100 (RdN s (skipN s.data.toList p) m) ∧ But (fun k => k = g) w w'
theorem kL (g : Nat) (s : ByteArray) (p m : Nat) (w : World) (hX : Box w g 100 (RdN s p m)) (hs : s.size ≤ 1000000) (hp : p ≤ s.size) : Calls Tryz.prog 94 #[.pointer (some ⟨g, 0, none⟩)] w (SkipN g s p m w) := by
 have HX := I5 hX
 have GA := I5 (show skipN s.data.toList p = skipN s.data.toList p from rfl)
 clear hX
 go_enter Tryz.func94, Tryz.ntmps94
 go_wp2_with fail
 go_loopw [2] (fun r wr => ∃ k : Nat, k ≤ s.size ∧ Hid (skipN s.data.toList k = skipN s.data.toList p) ∧ Box wr g 100 (RdN s k m) ∧ But (fun k => k = g) w wr) (fun r wr => s.size - (match wr.cell? ⟨g, 1, none⟩ with | some (.int _ z) => z.toNat | _ => 0))
 case atStart => exact ⟨p, hp, I5 rfl, HX.out, But.refl _ _⟩
 case round =>
  obtain ⟨k, hk, oX, hX2, jp⟩ := hrel
  clear HX
  have HX := I5 hX2
  have Ij : Hid ((match wr.cell? ⟨g, 1, none⟩ with | some (.int _ z) => z.toNat | _ => 0) = k) := I5 (by rw [hX2.cell 1 rfl]; simp)
  clear hX2
  have hl : s.data.toList.length = s.size := by simp
  by_cases aJ : k < s.size
  ·have cL : (0 : Int) ≤ k := by omega
   have oZ : (k : Int) < s.size := by omega
   obtain ⟨c, hc⟩ : ∃ c, c = s.data.toList.getD k 0 := ⟨_, rfl⟩
   have Bm := I5 hc
   clear hc
   have Gh : s.data.toList[k]'(by omega) = c := by rw [Bm.out, List.getD_eq_getElem?_getD, List.getElem?_eq_getElem (by omega)]; rfl
   have Dl := I5 Gh
   clear Gh
   have nN : isIn blankL c = blankB c := by have := rF ⟨c.toNat, c.toNat_lt⟩; rwa [gs] at this
   cases wJ : blankB c with
   | true =>
    rw [wJ] at nN
    have FG := I5 nN
    have zw := I5 wJ
    clear nN wJ
    go_upto_region 0 with fail
    refine aP wr.heap.size wr rfl (by kernel_rfl) (Below.refl _ _) ?_
    refine aa rfl (.pointer (some ⟨g, 0, none⟩)) (fun w' hw => by simp [go_sem]) ?_
    simp only [Act.put, I2, I3, I4]
    refine aa rfl (.pointer (some ⟨g, 0, none⟩)) (fun w' hw => by simp [go_sem]) ?_
    simp only [Act.put, I2, I3, I4]
    refine aa rfl (.pointer (some ⟨g, 1, none⟩)) (fun w' hw => by simp [go_sem]) ?_
    simp only [Act.put, I2, I3, I4]
    refine aa rfl (.int .i64 k) (fun w' hw => by have := (HX.out.after hw).cell 1 rfl; simp [go_sem, this]) ?_
    simp only [Act.put, I2, I3, I4]
    refine aa rfl (.pointer (some ⟨g, 0, none⟩)) (fun w' hw => by simp [go_sem]) ?_
    simp only [Act.put, I2, I3, I4]
    refine aa rfl (.pointer (some ⟨g, 0, none⟩)) (fun w' hw => by simp [go_sem]) ?_
    simp only [Act.put, I2, I3, I4]
    refine aa rfl (.pointer (some ⟨g, 0, none⟩)) (fun w' hw => by simp [go_sem]) ?_
    simp only [Act.put, I2, I3, I4]
    refine aa rfl (.string s) (fun w' hw => by have := (HX.out.after hw).cell 0 rfl; simp [go_sem, this]) ?_
    simp only [Act.put, I2, I3, I4]
    refine aa rfl (.int .i64 s.size) (fun w' hw => by simp [go_sem]) ?_
    simp only [Act.put, I2, I3, I4]
    refine aa rfl (.bool true) (fun w' hw => by simp [go_sem]; omega) ?_
    simp only [Act.put, I2, I3, I4]
    refine aa rfl (.bool true) (fun w' hw => by simp [go_sem]) ?_
    simp only [Act.put, I2, I3, I4]
    refine aa rfl (.pointer (some ⟨g, 0, none⟩)) (fun w' hw => by simp [go_sem]) ?_
    simp only [Act.put, I2, I3, I4]
    refine aa rfl (.pointer (some ⟨g, 0, none⟩)) (fun w' hw => by simp [go_sem]) ?_
    simp only [Act.put, I2, I3, I4]
    refine aa rfl (.pointer (some ⟨g, 0, none⟩)) (fun w' hw => by simp [go_sem]) ?_
    simp only [Act.put, I2, I3, I4]
    refine aa rfl (.string s) (fun w' hw => by have := (HX.out.after hw).cell 0 rfl; simp [go_sem, this]) ?_
    simp only [Act.put, I2, I3, I4]
    refine aa rfl (.pointer (some ⟨g, 0, none⟩)) (fun w' hw => by simp [go_sem]) ?_
    simp only [Act.put, I2, I3, I4]
    refine aa rfl (.pointer (some ⟨g, 0, none⟩)) (fun w' hw => by simp [go_sem]) ?_
    simp only [Act.put, I2, I3, I4]
    refine aa rfl (.pointer (some ⟨g, 1, none⟩)) (fun w' hw => by simp [go_sem]) ?_
    simp only [Act.put, I2, I3, I4]
    refine aa rfl (.int .i64 k) (fun w' hw => by have := (HX.out.after hw).cell 1 rfl; simp [go_sem, this]) ?_
    simp only [Act.put, I2, I3, I4]
    refine aa rfl (.int .u8 (c.toNat : Int)) (fun w' hw => by rw [Bm.out, ← gp s k aJ]; simp [go_sem, aJ, cL, oZ]) ?_
    simp only [Act.put, I2, I3, I4]
    refine jB rfl 96 #[.string ⟨#[32, 9, 10, 11, 12, 13]⟩, .int .u8 (c.toNat : Int)] (fun w' => by simp [go_sem]) (.bool true) (Nat.le_refl _) (fun w' => (ib _ c w').mono (fun e w2 h => by obtain ⟨rfl, rfl⟩ := h; exact ⟨by show Ending.returned (.bool (isIn blankL c)) = _; rw [FG.out], Below.refl _ _⟩)) ?_
    simp only [Act.put, I2, I3, I4]
    refine aa rfl (.bool true) (fun w' hw => by simp [go_sem]) ?_
    simp only [Act.put, I2, I3, I4]
    intro w1 af
    have oW := I5 (HX.out.after af)
    have er := I5 (jp.trans (But.ofBelow (S := fun _ => False) af) (fun _ h => h.elim))
    clear af
    have x1 := oW.out.cell 1 rfl
    have f1 := oW.out.frozen 1
    have Hl : (k : Int) ≤ 1000000 := by omega
    go_wp2_with fail
    go_roundw
    case rel => exact ⟨k + 1, by omega, I5 (by rw [← oX.out]; exact (pF (by omega) (by rw [Dl.out]; exact zw.out)).symm), oW.out.set 1 _, er.out.setCell (p := ⟨g, 1, none⟩) (.inl rfl) _⟩
    case measure => rw [Ij.out, ((oW.out.set 1 (.int .i64 (k + 1))).cell 1 rfl)]; exact Nat.sub_lt_sub_left aJ (by simp)
   | false =>
    rw [wJ] at nN
    have FG := I5 nN
    have zw := I5 wJ
    clear nN wJ
    go_upto_region 0 with fail
    refine aP wr.heap.size wr rfl (by kernel_rfl) (Below.refl _ _) ?_
    refine aa rfl (.pointer (some ⟨g, 0, none⟩)) (fun w' hw => by simp [go_sem]) ?_
    simp only [Act.put, I2, I3, I4]
    refine aa rfl (.pointer (some ⟨g, 0, none⟩)) (fun w' hw => by simp [go_sem]) ?_
    simp only [Act.put, I2, I3, I4]
    refine aa rfl (.pointer (some ⟨g, 1, none⟩)) (fun w' hw => by simp [go_sem]) ?_
    simp only [Act.put, I2, I3, I4]
    refine aa rfl (.int .i64 k) (fun w' hw => by have := (HX.out.after hw).cell 1 rfl; simp [go_sem, this]) ?_
    simp only [Act.put, I2, I3, I4]
    refine aa rfl (.pointer (some ⟨g, 0, none⟩)) (fun w' hw => by simp [go_sem]) ?_
    simp only [Act.put, I2, I3, I4]
    refine aa rfl (.pointer (some ⟨g, 0, none⟩)) (fun w' hw => by simp [go_sem]) ?_
    simp only [Act.put, I2, I3, I4]
    refine aa rfl (.pointer (some ⟨g, 0, none⟩)) (fun w' hw => by simp [go_sem]) ?_
    simp only [Act.put, I2, I3, I4]
    refine aa rfl (.string s) (fun w' hw => by have := (HX.out.after hw).cell 0 rfl; simp [go_sem, this]) ?_
    simp only [Act.put, I2, I3, I4]
    refine aa rfl (.int .i64 s.size) (fun w' hw => by simp [go_sem]) ?_
    simp only [Act.put, I2, I3, I4]
    refine aa rfl (.bool true) (fun w' hw => by simp [go_sem]; omega) ?_
    simp only [Act.put, I2, I3, I4]
    refine aa rfl (.bool true) (fun w' hw => by simp [go_sem]) ?_
    simp only [Act.put, I2, I3, I4]
    refine aa rfl (.pointer (some ⟨g, 0, none⟩)) (fun w' hw => by simp [go_sem]) ?_
    simp only [Act.put, I2, I3, I4]
    refine aa rfl (.pointer (some ⟨g, 0, none⟩)) (fun w' hw => by simp [go_sem]) ?_
    simp only [Act.put, I2, I3, I4]
    refine aa rfl (.pointer (some ⟨g, 0, none⟩)) (fun w' hw => by simp [go_sem]) ?_
    simp only [Act.put, I2, I3, I4]
    refine aa rfl (.string s) (fun w' hw => by have := (HX.out.after hw).cell 0 rfl; simp [go_sem, this]) ?_
    simp only [Act.put, I2, I3, I4]
    refine aa rfl (.pointer (some ⟨g, 0, none⟩)) (fun w' hw => by simp [go_sem]) ?_
    simp only [Act.put, I2, I3, I4]
    refine aa rfl (.pointer (some ⟨g, 0, none⟩)) (fun w' hw => by simp [go_sem]) ?_
    simp only [Act.put, I2, I3, I4]
    refine aa rfl (.pointer (some ⟨g, 1, none⟩)) (fun w' hw => by simp [go_sem]) ?_
    simp only [Act.put, I2, I3, I4]
    refine aa rfl (.int .i64 k) (fun w' hw => by have := (HX.out.after hw).cell 1 rfl; simp [go_sem, this]) ?_
    simp only [Act.put, I2, I3, I4]
    refine aa rfl (.int .u8 (c.toNat : Int)) (fun w' hw => by rw [Bm.out, ← gp s k aJ]; simp [go_sem, aJ, cL, oZ]) ?_
    simp only [Act.put, I2, I3, I4]
    refine jB rfl 96 #[.string ⟨#[32, 9, 10, 11, 12, 13]⟩, .int .u8 (c.toNat : Int)] (fun w' => by simp [go_sem]) (.bool false) (Nat.le_refl _) (fun w' => (ib _ c w').mono (fun e w2 h => by obtain ⟨rfl, rfl⟩ := h; exact ⟨by show Ending.returned (.bool (isIn blankL c)) = _; rw [FG.out], Below.refl _ _⟩)) ?_
    simp only [Act.put, I2, I3, I4]
    refine aa rfl (.bool false) (fun w' hw => by simp [go_sem]) ?_
    simp only [Act.put, I2, I3, I4]
    intro w1 af
    have oW := I5 (HX.out.after af)
    have er := I5 (jp.trans (But.ofBelow (S := fun _ => False) af) (fun _ h => h.elim))
    clear af
    go_wp2_with fail
    exact bodyPost_ret (results_none rfl _ _ _) rfl ⟨rfl, by rw [← oX.out, k8 (by omega) (by rw [Dl.out]; exact zw.out)]; exact oW.out, er.out⟩
  ·have oZ : ¬ (k : Int) < s.size := by omega
   have x0 := HX.out.cell 0 rfl
   have x1 := HX.out.cell 1 rfl
   go_upto_region 0 with fail
   go_quiet (fail)
   go_wp2_with fail
   exact bodyPost_ret (results_none rfl _ _ _) rfl ⟨rfl, by rw [← oX.out, nm (by omega)]; exact HX.out.drewN _, jp.drewN _⟩
def atN (w : World) (g : Nat) : Nat := match w.cell? ⟨g, 1, none⟩ with | some (.int _ z) => z.toNat | _ => 0
theorem oV {w : World} {g : Nat} {s : ByteArray} {p m : Nat} (h : Box w g 100 (RdN s p m)) : atN w g = p := by
 unfold atN
 rw [h.cell 1 rfl]
 simp
theorem sY {L : List UInt8} {f : UInt8 → Bool} (h : ∀ n : Fin 256, isIn L (n.val.toUInt8) = f (n.val.toUInt8)) (c : UInt8) : isIn L c = f c := by have := h ⟨c.toNat, c.toNat_lt⟩; rwa [gs] at this
theorem kO (good : UInt8 → Bool) (en : UInt8) : ∀ (l : List UInt8) (p : Nat), (nSome good en l p).b.length ≤ l.length ∧ (nSome good en l p).p ≤ p + l.length ∧ ((nSome good en l p).e = 0 → (nSome good en l p).p < p + l.length) ∧ p ≤ (nSome good en l p).p ∧ (nSome good en l p).e ≤ 3
 | [], p => by simp [nSome, BR.err]
 | c :: r, p => by
  have ih := kO good en r (p + 1)
  unfold nSome
  split
  ·simp
  ·split
   ·simp [BR.err]
   ·dsimp only
    split
    ·rename_i h0
     have := ih.2.2.1 h0
     refine ⟨?_, by simp only [List.length_cons]; omega, fun _ => by simp only [List.length_cons]; omega, by dsimp only; omega, by simp⟩
     simp only [List.length_cons]
     split
     ·simp only [List.length_cons]; omega
     ·omega
    ·rename_i h0
     refine ⟨by simp only [List.length_cons]; omega, by simp only [List.length_cons]; omega, fun h => absurd h h0, by omega, ih.2.2.2.2⟩
def BytesN (g : Nat) (s : ByteArray) (m : Nat) (R : BR) (w : World) (e : Ending) (w' : World) : Prop :=
 But (fun k => k = g) w w' ∧ ((R.e ≠ 0 ∧ e = FaultN R.p R.e) ∨ (R.e = 0 ∧ ∃ a n c, e = .returned (.slice a n c) ∧ Sl w' a n c R.b ∧ InB (fun k => w.heap.size ≤ k) a n ∧ Box w' g 100 (RdN s R.p m)))
theorem zT {g : Nat} {s : ByteArray} {m p e : Nat} {R : BR} (h : R = BR.err p e) (he : e ≠ 0) {w w' : World} (hb : But (fun k => k = g) w w') : BytesN g s m R w (FaultN p e) w' := by
 subst h
 exact ⟨hb, .inl ⟨he, rfl⟩⟩
theorem xt {g : Nat} {s : ByteArray} {m p : Nat} {b : List UInt8} {R : BR} (h : R = ⟨b, p, 0⟩) {w w' : World} (hb : But (fun k => k = g) w w') {a : Option Addr} {n c : Nat} (hs : Sl w' a n c b) (hi : InB (fun k => w.heap.size ≤ k) a n) (hX : Box w' g 100 (RdN s p m)) : BytesN g s m R w (.returned (.slice a n c)) w' := by
 subst h
 exact ⟨hb, .inr ⟨rfl, a, n, c, rfl, hs, hi, hX⟩⟩
theorem jY (s : ByteArray) (i j : Nat) : (s.extract i j).data.toList = (s.data.toList.drop i).take (j - i) := by
 rw [ByteArray.data_extract, Array.toList_extract, List.extract_eq_take_drop]
def runN (l : List UInt8) (p : Nat) : Nat := p + ((l.drop p).takeWhile signB).length
theorem vQ {l : List UInt8} {p : Nat} (h : l.length ≤ p) : runN l p = p := by unfold runN; rw [List.drop_eq_nil_of_le h]; rfl
theorem tM {l : List UInt8} {p : Nat} (h : p < l.length) (hb : signB l[p] = true) : runN l p = runN l (p + 1) := by
 unfold runN
 rw [List.drop_eq_getElem_cons h, List.takeWhile_cons_of_pos hb, List.length_cons]
 omega
theorem qV {l : List UInt8} {p : Nat} (h : p < l.length) (hb : signB l[p] = false) : runN l p = p := by
 unfold runN
 rw [List.drop_eq_getElem_cons h, List.takeWhile_cons_of_neg (by rw [hb]; simp)]
 rfl
theorem pG (l : List UInt8) (p : Nat) : (l.drop p).take (runN l p - p) = (l.drop p).takeWhile signB := by
 unfold runN
 rw [Nat.add_sub_cancel_left]
 generalize l.drop p = r
 exact (List.prefix_iff_eq_take.1 (List.takeWhile_prefix signB)).symm
theorem tr (c : UInt8) : isIn (ByteArray.mk signL.toArray).data.toList c = signB c := sY ue c
theorem C4 (c : UInt8) : isIn (ByteArray.mk #[48, 49, 50, 51, 52, 53, 54, 55, 56, 57]).data.toList c = numB c := sY wt c
theorem nQ (f : UInt8 → Bool) : ∀ (r : List UInt8) (h : (r.takeWhile f).length < r.length), f (r[(r.takeWhile f).length]'h) = false
 | [], h => by simp at h
 | c :: r, h => by
  cases hf : f c with
  | true =>
   have e : (c :: r).takeWhile f = c :: r.takeWhile f := List.takeWhile_cons_of_pos hf
   have h' : (r.takeWhile f).length < r.length := by rw [e] at h; simpa using h
   have := nQ f r h'
   simp only [e, List.length_cons, List.getElem_cons_succ]
   exact this
  | false =>
   have e : (c :: r).takeWhile f = [] := List.takeWhile_cons_of_neg (by rw [hf]; simp)
   simp only [e, List.length_nil, List.getElem_cons_zero]
   exact hf
theorem qS (l : List UInt8) (p : Nat) : skipN l (skipN l p) = skipN l p := by
 rcases Nat.lt_or_ge (skipN l p) l.length with h | h
 ·refine k8 h ?_
  have h2 : ((l.drop p).takeWhile blankB).length < (l.drop p).length := by
   unfold skipN at h
   simp
   omega
  have := nQ blankB (l.drop p) h2
  rw [List.getElem_drop] at this
  exact this
 ·exact nm h
theorem rq {l : List UInt8} {p : Nat} (h : (nLen l p).e = 0) : p < (nLen l p).p ∧ (nLen l p).p ≤ l.length := by
 unfold nLen at h ⊢
 rcases rC l p 4096 with ⟨h1, e1⟩ | ⟨h1, h2, e1⟩ | ⟨h1, e1⟩ | ⟨k, N, hk, Hd, Hg, ht, e1⟩
 ·simp [e1, BR.err] at h
 ·simp [e1, BR.err] at h
 ·simp [e1, BR.err] at h
 ·simp only [e1, ne_eq, not_true, if_false, Int.toNat_natCast] at h ⊢
  split at h
  ·simp [BR.err] at h
  ·split at h
   ·simp [BR.err] at h
   ·split at h
    ·simp [BR.err] at h
    ·rename_i h1 h2 h3
     rw [if_neg h1, if_neg h2, if_neg h3]
     dsimp only
     omega
theorem zy {y : List UInt8} {R : BR} (h : (R.pre y).e = 0) : R.e = 0 ∧ (R.pre y).p = R.p := by
 unfold BR.pre at h ⊢
 split at h
 ·rename_i h1
  rw [if_pos h1]
  exact ⟨h1, rfl⟩
 ·rename_i h1
  exact absurd h h1
theorem jj (l : List UInt8) : ∀ f p, (nQuo l f p).e = 0 → p < (nQuo l f p).p ∧ (nQuo l f p).p ≤ l.length
 | 0, p, h => by simp [nQuo, BR.err] at h
 | f + 1, p, h => by
  unfold nQuo at h ⊢
  by_cases h1 : l.length ≤ p
  ·rw [if_pos h1] at h; simp [BR.err] at h
  ·rw [if_neg h1] at h ⊢
   by_cases h2 : l.getD p 0 = 34
   ·rw [if_pos h2]; dsimp only; omega
   ·rw [if_neg h2] at h ⊢
    by_cases h3 : l.getD p 0 ≠ 92
    ·rw [if_pos h3] at h ⊢
     obtain ⟨h4, h5⟩ := zy h
     rw [h5]
     have := jj l f (p + 1) h4
     omega
    ·rw [if_neg h3] at h ⊢
     by_cases h6 : (nEsc l (p + 1)).e ≠ 0
     ·rw [if_pos h6] at h; exact absurd h h6
     ·rw [if_neg h6] at h ⊢
      obtain ⟨h4, h5⟩ := zy h
      rw [h5]
      have := jj l f _ h4
      have := ru l (p + 1) (by omega)
      omega
theorem rr {l : List UInt8} {p : Nat} (hp : p ≤ l.length) (h : (nHex l p).e = 0) : p < (nHex l p).p ∧ (nHex l p).p ≤ l.length := by
 have hl := kO hexC 35 (l.drop p) p
 unfold nHex at h ⊢
 dsimp only at h ⊢
 generalize nSome hexC 35 (l.drop p) p = x at *
 rw [List.length_drop] at hl
 split at h
 ·rename_i h1; exact absurd h h1
 ·rename_i h1
  rw [if_neg h1]
  have := hl.2.2.1 (by omega)
  cases hu : unhex x.b with
  | none => rw [hu] at h; simp [BR.err] at h
  | some b => dsimp only; omega
theorem rx {l : List UInt8} {p : Nat} {en : UInt8} (hp : p ≤ l.length) (h : (nB64 l p en).e = 0) : p < (nB64 l p en).p ∧ (nB64 l p en).p ≤ l.length := by
 have hl := kO b64C en (l.drop p) p
 unfold nB64 at h ⊢
 dsimp only at h ⊢
 generalize nSome b64C en (l.drop p) p = x at *
 rw [List.length_drop] at hl
 split at h
 ·rename_i h1; exact absurd h h1
 ·rename_i h1
  rw [if_neg h1]
  have := hl.2.2.1 (by omega)
  cases hu : unb64 x.b with
  | none => rw [hu] at h; simp [BR.err] at h
  | some b => dsimp only; omega
theorem gM {l : List UInt8} {p : Nat} (h : (nPlain l p).e = 0) : p < (nPlain l p).p ∧ (nPlain l p).p ≤ l.length := by
 unfold nPlain at h ⊢
 by_cases h1 : l.length ≤ p
 ·rw [if_pos h1] at h; simp [BR.err] at h
 ·rw [if_neg h1] at h ⊢
  split at h
  ·rename_i h2; rw [if_pos h2]; exact rq h
  ·rename_i h2; rw [if_neg h2]
   split at h
   ·rename_i h3; rw [if_pos h3]
    have := jj l (l.length + 1) (p + 1) h
    unfold nQuote
    omega
   ·rename_i h3; rw [if_neg h3]
    split at h
    ·rename_i h4; rw [if_pos h4]
     have := rr (by omega) h
     omega
    ·rename_i h4; rw [if_neg h4]
     split at h
     ·rename_i h5; rw [if_pos h5]
      have := rx (by omega) h
      omega
     ·rename_i h5; rw [if_neg h5]
      split at h
      ·rename_i h6
       rw [if_pos h6]
       have e : (l.drop p) = l[p] :: l.drop (p + 1) := List.drop_eq_getElem_cons (by omega)
       have e2 : l.getD p 0 = l[p] := by rw [List.getD_eq_getElem?_getD, List.getElem?_eq_getElem (by omega)]; rfl
       rw [e2] at h6
       have := (List.takeWhile_sublist (l := l.drop p) signB).length_le
       rw [List.length_drop] at this
       dsimp only
       refine ⟨?_, by omega⟩
       rw [e, List.takeWhile_cons_of_pos h6, List.length_cons]
       omega
      ·simp [BR.err] at h
theorem xy {l : List UInt8} {m : Option (List Sx)} {p lv n : Nat} {r : RV} (h : Nt l m p lv n r) (he : r.e = 0) (hp : p ≤ l.length) : p < r.p ∧ r.p ≤ l.length ∧ (n ≤ 512 → r.n ≤ 512) ∧ n ≤ r.n := by
 induction h with
 | short h1 => simp [RV.err] at he
 | bad h1 h2 => simp [RV.err] at he
 | long h1 h2 h3 => simp [RV.err] at he
 | @hint p lv n h1 h2 h3 =>
  have := dI hp
  unfold nHint at he ⊢
  dsimp only at he ⊢
  split at he
  ·rename_i h4; exact absurd he h4
  ·rename_i h4
   rw [if_neg h4]
   split at he
   ·simp [RV.err] at he
   ·rename_i h5
    rw [if_neg h5]
    split at he
    ·simp [RV.err] at he
    ·rename_i h6
     rw [if_neg h6]
     split at he
     ·rename_i h7; exact absurd he h7
     ·rename_i h7
      rw [if_neg h7]
      dsimp only
      have a1 := dI (l := l) (p := skipN l p + 1) (by omega)
      have a2 := gM (l := l) (p := skipN l (skipN l p + 1)) (by omega)
      have a3 := dI (l := l) (p := (nPlain l (skipN l (skipN l p + 1))).p) (by omega)
      have a4 := dI (l := l) (p := skipN l (nPlain l (skipN l (skipN l p + 1))).p + 1) (by omega)
      have a5 := gM (l := l) (p := skipN l (skipN l (nPlain l (skipN l (skipN l p + 1))).p + 1)) (by omega)
      exact ⟨by omega, by omega, fun _ => h3, by omega⟩
 | @atom p lv n h1 h2 h3 h4 h5 =>
  have := dI hp
  unfold nAtom at he ⊢
  dsimp only at he ⊢
  split at he
  ·rename_i h6; exact absurd he h6
  ·rename_i h6
   rw [if_neg h6]
   have a1 := gM (l := l) (p := skipN l p) (by omega)
   dsimp only
   exact ⟨by omega, by omega, fun _ => h5, by omega⟩
 | list h1 h2 h3 h4 h5 ih =>
  have := dI hp
  have := ih he (by omega)
  exact ⟨by omega, by omega, fun _ => this.2.2.1 h3, by omega⟩
 | close h1 h2 =>
  have := dI hp
  dsimp only
  exact ⟨by omega, by omega, fun h => h, Nat.le_refl _⟩
 | fail h1 h2 h3 ih => exact absurd he h3
 | more h1 h2 h3 h4 h5 ih1 ih2 =>
  have := dI hp
  have a1 := ih1 h4 (by omega)
  have a2 := ih2 he (by omega)
  exact ⟨by omega, by omega, fun h => a2.2.2.1 (a1.2.2.1 h), by omega⟩
def ValN (Rel : RV → Prop) (g : Nat) (s : ByteArray) (w : World) (e : Ending) (w' : World) : Prop :=
 But (fun k => k = g) w w' ∧ ∃ r : RV, Rel r ∧ ((r.e ≠ 0 ∧ e = FaultN r.p r.e) ∨ (r.e = 0 ∧ ∃ v : SV, e = .returned v.val ∧ RdI (fun k => w.heap.size ≤ k) w' v r.v ∧ Box w' g 100 (RdN s r.p r.n)))
theorem lG {Rel : RV → Prop} {g : Nat} {s : ByteArray} {p e : Nat} (h : Rel (RV.err p e)) (he : e ≠ 0) {w w' : World} (hb : But (fun k => k = g) w w') : ValN Rel g s w (FaultN p e) w' := ⟨hb, _, h, .inl ⟨he, rfl⟩⟩
theorem vJ {Rel : RV → Prop} {g : Nat} {s : ByteArray} {p n : Nat} {x : Sx} {v : SV} (h : Rel ⟨x, p, n, 0⟩) {w w' : World} (hb : But (fun k => k = g) w w') (hr : RdI (fun k => w.heap.size ≤ k) w' v x) (hX : Box w' g 100 (RdN s p n)) : ValN Rel g s w (.returned v.val) w' := ⟨hb, _, h, .inr ⟨rfl, v, rfl, hr, hX⟩⟩
def begL : List UInt8 := [40, 91, 34, 35, 124]
theorem zf : ∀ n : Fin 256, (isIn begL (n.val.toUInt8) || signB (n.val.toUInt8)) = begB (n.val.toUInt8) := by decide +kernel
theorem A5 (c : UInt8) : (isIn begL c || signB c) = begB c := by have := zf ⟨c.toNat, c.toNat_lt⟩; rwa [gs] at this
def ListDoes (g : Nat) (s : ByteArray) (f : Nat) : Prop := ∀ (p m lv : Nat) (w : World), Box w g 100 (RdN s p m) → p ≤ s.size → s.size < p + f → m ≤ 512 → lv ≤ 16 →
 Calls Tryz.prog 97 #[.pointer (some ⟨g, 0, none⟩), .int .i64 lv] w (ValN (Nt s.data.toList (some []) p lv m) g s w)
def ValueDoes (g : Nat) (s : ByteArray) (f : Nat) : Prop := ∀ (p m lv : Nat) (w : World), Box w g 100 (RdN s p m) → p ≤ s.size → s.size < p + f → m ≤ 512 → lv ≤ 17 →
 Calls Tryz.prog 63 #[.pointer (some ⟨g, 0, none⟩), .int .i64 lv] w (ValN (Nt s.data.toList none p lv m) g s w)
end Go.Proofs.YtmmkaclmgnpplaaGreatDoor

import Derived.Test.YtmmkaclmgnpplaaGreatDoorMz32
import Derived.Test.YtmmkaclmgnpplaaGreatDoorMz37
set_option maxRecDepth 100000
set_option maxHeartbeats 64000000
set_option linter.unusedSimpArgs false
set_option linter.unusedVariables false
namespace Go.Proofs.YtmmkaclmgnpplaaGreatDoor
open Go.RowKit
structure MB (g : Nat) (w w' : World) (p : Nat) : Prop where
 os : w'.os = w.os
 tape : w'.tape = w.tape
 output : w'.output = w.output
 size : w.heap.size ≤ w'.heap.size
 block : ∀ k, k < w.heap.size → k ≠ g → w'.heap[k]? = w.heap[k]?
 box : Box w' g 56 #[.int .i64 p]
theorem MB.refl {g : Nat} {w : World} {p : Nat} (h : Box w g 56 #[.int .i64 p]) : MB g w w p := ⟨rfl, rfl, rfl, Nat.le_refl _, fun _ _ _ => rfl, h⟩
theorem MB.step {g : Nat} {w w1 w2 : World} {p : Nat} (h : MB g w w1 p) (b : Below w1.heap.size w1 w2) : MB g w w2 p :=
 ⟨b.os.trans h.os, b.tape.trans h.tape, b.output.trans h.output, Nat.le_trans h.size b.size, fun k hk hg => (b.block k (Nat.lt_of_lt_of_le hk h.size)).trans (h.block k hk hg), h.box.after b⟩
theorem MB.trans {g : Nat} {w w1 w2 : World} {p q : Nat} (h : MB g w w1 p) (b : MB g w1 w2 q) : MB g w w2 q :=
 ⟨b.os.trans h.os, b.tape.trans h.tape, b.output.trans h.output, Nat.le_trans h.size b.size, fun k hk hg => (b.block k (Nat.lt_of_lt_of_le hk h.size) hg).trans (h.block k hk hg), b.box⟩
theorem MB.below {g : Nat} {w0 w w' : World} {p : Nat} (h : MB g w w' p) (b : Below w0.heap.size w0 w) (hg : w0.heap.size ≤ g) : Below w0.heap.size w0 w' :=
 ⟨h.os.trans b.os, h.tape.trans b.tape, h.output.trans b.output, Nat.le_trans b.size h.size, fun k hk => (h.block k (Nat.lt_of_lt_of_le hk b.size) (by omega)).trans (b.block k hk)⟩
theorem MB.rdT {g : Nat} {w w' : World} {p : Nat} {ok : Nat → Prop} {v : TV} {t : Tg} (h : MB g w w' p) (hr : RdT ok w v t) (hg : ¬ ok g) : RdT ok w' v t :=
 (hr.there.keep fun b hb => h.block b hb.2 (fun e => hg (e ▸ hb.1))).mono fun _ h => h.1
theorem MB.far {g k : Nat} {w w' : World} {p : Nat} {T : TypeId} {cs : Array Value} (h : MB g w w' p) (hb : Box w k T cs) (hk : k ≠ g) : Box w' k T cs :=
 (h.block k hb.lt hk).trans hb
theorem MB.set {g : Nat} {w : World} {p q : Nat} (h : Box w g 56 #[.int .i64 p]) : MB g w (w.setCell ⟨g, 0, none⟩ (.int .i64 q)) q := by
 have B := (Below.refl g w).setCell (p := ⟨g, 0, none⟩) (Nat.le_refl _) (.int .i64 q)
 exact ⟨B.os, B.tape, B.output, B.size, fun k _ hk => Below.heap_setCell _ _ _ _ hk, h.set 0 _⟩
theorem RowT.srcT {w : World} {a : Option Addr} {n c : Nat} {K : Nat → TV} (h : RowT w a n c K) : Src Tryz.prog 10 23 (.slice a n c) n (newsT K n) w := by
 by_cases h0 : n = 0
 ·subst h0
  cases a with
  | none => exact Src.ofNil w Tryz.underlying23 c
  | some ad => exact Src.ofSlice w Tryz.underlying23 ad 0 c _ rfl (fun j u hu => by cases hu) (fun u hu => by cases hu)
 ·obtain ⟨b, o, rfl, -⟩ := h.range (show 0 < n by omega)
  exact Src.ofSlice w Tryz.underlying23 _ n c _ (dP K n) (pR h) (nD K n)
theorem kN (K L : Nat → TV) (n : Nat) : ∀ m, newsT K n ++ newsT L m = newsT (fun i => if i < n then K i else L (i - n)) (n + m)
 | 0 => by
  rw [Nat.add_zero, show newsT L 0 = [] from rfl, List.append_nil]
  exact k9 fun i h => (if_pos h).symm
 | m + 1 => by
  show newsT K n ++ (newsT L m ++ (L m).cells.toList) = newsT _ (n + m) ++ (if n + m < n then K (n + m) else L (n + m - n)).cells.toList
  rw [← kN K L n m, if_neg (by omega), show n + m - n = m by omega, List.append_assoc]
theorem lM {p : Nat → Prop} {w : World} {n : Nat} {K L : Nat → TV} {acc more : List Tg} (hn : n = acc.length)
  (hK : ∀ i (hi : i < acc.length), RdT p w (K i) acc[i]) (hL : ∀ i (hi : i < more.length), RdT p w (L i) more[i]) :
  ∀ i (hi : i < (acc ++ more).length), RdT p w (if i < n then K i else L (i - n)) (acc ++ more)[i] := by
 intro i hi
 subst hn
 by_cases m5 : i < acc.length
 ·rw [if_pos m5, List.getElem_append_left m5]
  exact hK i m5
 ·rw [if_neg m5, List.getElem_append_right (by omega)]
  exact hL (i - acc.length) (by simp at hi; omega)
theorem vN (l : List Tg) (h : (flatS l).length = 1) : setT l = (flatS l)[0] := by
 have : ∀ (o : List Tg), flatS l = o → setT l = o.headD noT := fun o e => by
  unfold setT
  rw [e] at h ⊢
  match o, h with
  | [t], _ => rfl
 rw [this _ rfl]
 have h2 : ∀ (o : List Tg) (h : o.length = 1), o.headD noT = o[0] := fun o h => match o, h with | [t], _ => rfl
 exact h2 _ h
theorem tJ (l : List Tg) (h : (flatS l).length ≠ 1) : setT l = .mk 4 [] (flatS l) noR := by
 have : ∀ (o : List Tg), flatS l = o → setT l = .mk 4 [] o noR := fun o e => by
  unfold setT
  rw [e] at h ⊢
  match o, h with
  | [], _ => rfl
  | [_], h => exact absurd rfl h
  | _ :: _ :: _, _ => rfl
 exact this _ rfl
theorem rR (l : List Tg) (k : Nat) (h : k < l.length) : flatS (l.take (k + 1)) = flatS (l.take k) ++ (if l[k].kd = 4 then l[k].ks else [l[k]]) := by
 rw [List.take_succ_eq_append_getElem h, rT]
theorem sA (ok : Nat → Prop) (l : List Tg) (q : Option Addr) (a : Option Addr) (c : Nat) (K : Nat → TV) (w : World) (hr : RowT w a l.length c K) (hk : ∀ i (hi : i < l.length), RdT ok w (K i) l[i]) (hl : l.length ≤ 700) (uv : ∀ x ∈ l, x.ks.length ≤ 700) :
  Calls Tryz.prog 85 #[.pointer q, .slice a l.length c] w fun e w' => ∃ u : TV, e = .returned u.val ∧ RdT (fun b => (ok b ∧ b < w.heap.size) ∨ w.heap.size ≤ b) w' u (setT l) ∧ Below w.heap.size w w' := by
 have HR := I5 hr
 have HK := I5 (fun i hi => (hk i hi).there)
 have Fx := I5 uv
 have ie := Nat.le_trans hr.1 hr.2.1
 unfold maxLen at ie
 obtain ⟨n, hn⟩ : ∃ n, n = l.length := ⟨_, rfl⟩
 rw [← hn] at HR hl ie ⊢
 have HN := I5 hn
 clear hr hk uv hn
 let x0 := (w.alloc (.cells #[.int .u8 0, .slice none 0 0, .slice none 0 0, .int .u8 0, .bool false, .bool false, .slice none 0 0, .bool false, .bool false, .slice none 0 0] 29))
 have B : Below w.heap.size w x0 := (Below.refl _ _).alloc (Nat.le_refl _) _
 have Y : Hid (Box x0 w.heap.size 29 #[.int .u8 0, .slice none 0 0, .slice none 0 0, .int .u8 0, .bool false, .bool false, .slice none 0 0, .bool false, .bool false, .slice none 0 0]) := I5 (Box.new _ _ _)
 go_enter Tryz.func85, Tryz.ntmps85
 go_upto_region 1 with fail
 change Code.wp _ _ _ _ x0
 clear_value x0
 go_wp2_with fail
 go_loopw [5, 10] (fun acc i wr => ∃ (k m : Nat) (J : Nat → TV), k ≤ n ∧ m ≤ k * 700 ∧ i = .int .i64 k ∧ Hid (Box wr w.heap.size 29 #[.int .u8 0, .slice none 0 0, .slice none 0 0, .int .u8 0, .bool false, .bool false, .slice none 0 0, .bool false, .bool false, .slice none 0 0]) ∧ OwnG wr (w.heap.size + 1) 10 acc m (newsT J m) ∧ Hid (m = (flatS (l.take k)).length) ∧ Hid (∀ i (hi : i < (flatS (l.take k)).length), RdT (fun b => ok b ∧ b < w.heap.size) w (J i) (flatS (l.take k))[i]) ∧ Below w.heap.size w wr) (fun _ i _ => n - (intOf i).toNat)
 case atStart => exact ⟨0, 0, (fun _ => TV.nil), Nat.zero_le _, Nat.zero_le _, rfl, Y, OwnG.nil _ _ _, I5 rfl, I5 (fun i hi => by simp [flatS] at hi), B⟩
 case round =>
  clear Y B
  obtain ⟨k, m, J, fy, Hg, rfl, Y, ho, hmm, hme, hb⟩ := hrel
  have O := I5 ho
  clear ho
  have kQ := Y.out.lt
  by_cases aJ : k < n
  case neg =>
   have fS : ¬ (k : Int) < n := by omega
   have mn : l.take k = l := List.take_of_length_le (by have := HN.out; omega)
   rw [mn] at hme hmm
   clear mn
   obtain ⟨ra, rc, rfl, ah, jb⟩ := O.out.rowT
   have HW := I5 ah
   have HI := I5 jb
   clear ah jb
   by_cases yL : m = 1
   case pos =>
    subst yL
    have HS := I5 (vN l hmm.out.symm)
    have R0 := I5 (hme.out 0 (by have := hmm.out; omega))
    rw [← HS.out] at R0
    clear HS
    obtain ⟨b, o, rfl, a8⟩ := HW.out.range (i := 0) (by omega)
    obtain ⟨v1, ic⟩ : ∃ v1, v1 = J 0 := ⟨_, rfl⟩
    rw [← ic] at R0 a8
    clear ic
    obtain ⟨dt, dp, dj, dm, dn, cZ, dk, eo, dA, dy, dC, dz, dB, dF, dD, dH, dE, dG⟩ := v1
    simp only [Nat.zero_mul, Nat.add_zero] at a8
    replace a8 : wr.rangeAt b o [.int .u8 dt, .slice dp dj dm, .slice dn cZ dk, .int .u8 eo, .bool dA, .bool dy, .slice dC dz dB, .bool dF, .bool dD, .slice dH dE dG] := a8
    have fM := I5 a8
    clear a8
    go_wp2_with first | (refine ai rfl 29 _ rfl b _ rfl _ _ fM.out Tryz.underlying29 rfl (by kernel_rfl) ?_) | (refine ac (cells := #[.int .u8 dt, .slice dp dj dm, .slice dn cZ dk, .int .u8 eo, .bool dA, .bool dy, .slice dC dz dB, .bool dF, .bool dD, .slice dH dE dG]) rfl 29 _ _ rfl Y.out (by rfl) (by rfl) rfl (by kernel_rfl) (by simp [Value.oneCell']) ?_; intro u9 X9 st9)
    have B9 := st9.below w.heap.size w (by omega) hb
    have R9 : RdT (fun b => (ok b ∧ b < w.heap.size) ∨ w.heap.size ≤ b) u9 ⟨dt, dp, dj, dm, dn, cZ, dk, eo, dA, dy, dC, dz, dB, dF, dD, dH, dE, dG⟩ (setT l) := (R0.out.keep (w' := u9) (fun b hb => B9.block b hb.2)).mono (fun b hb => .inl hb)
    exact bodyPost_ret (v := .agg #[.int .u8 dt, .slice dp dj dm, .slice dn cZ dk, .int .u8 eo, .bool dA, .bool dy, .slice dC dz dB, .bool dF, .bool dD, .slice dH dE dG]) (ae rfl _ _ (by rfl) X9 Tryz.underlying29 rfl (by kernel_rfl)) rfl ⟨⟨dt, dp, dj, dm, dn, cZ, dk, eo, dA, dy, dC, dz, dB, dF, dD, dH, dE, dG⟩, rfl, R9, B9⟩
   have BA : ((m : Int) == 1) = false := beq_eq_false_iff_ne.mpr (by omega)
   have HS := I5 (tJ l (by have := hmm.out; omega))
   go_wp2_with (refine ac (cells := #[.int .u8 4, .slice none 0 0, .slice ra m rc, .int .u8 0, .bool false, .bool false, .slice none 0 0, .bool false, .bool false, .slice none 0 0]) rfl 29 _ _ rfl Y.out (by rfl) (by rfl) rfl (by kernel_rfl) (by simp [Value.oneCell']) ?_; intro u9 X9 st9)
   have B9 := st9.below w.heap.size w (by omega) hb
   have O9 := O.out.keep (w' := u9) (by have := st9.size; omega) (fun g hg => st9.other g (by have := (O.out.lt g hg).1; omega))
   obtain ⟨FL, FK, e2, zp, pe⟩ := O9.rowT
   cases e2
   have R9 : RdT (fun b => (ok b ∧ b < w.heap.size) ∨ w.heap.size ≤ b) u9 ⟨4, none, 0, 0, ra, m, rc, 0, false, false, none, 0, 0, false, false, none, 0, 0⟩ (setT l) := by
    rw [HS.out]
    exact hG _ u9 4 (by omega) ra m rc J (flatS l) zp (pe.mono (fun b hb => .inr (by omega))) hmm.out (fun i hi => ((hme.out i hi).keep (w' := u9) (fun b hb => B9.block b hb.2)).mono (fun b hb => .inl hb))
   exact bodyPost_ret (v := .agg #[.int .u8 4, .slice none 0 0, .slice ra m rc, .int .u8 0, .bool false, .bool false, .slice none 0 0, .bool false, .bool false, .slice none 0 0]) (ae rfl _ _ (by rfl) X9 Tryz.underlying29 rfl (by kernel_rfl)) rfl ⟨⟨4, none, 0, 0, ra, m, rc, 0, false, false, none, 0, 0, false, false, none, 0, 0⟩, rfl, R9, B9⟩
  case pos =>
   have fS : (k : Int) < n := by omega
   have cL : (0 : Int) ≤ k := by omega
   have kE : k < l.length := by have := HN.out; omega
   obtain ⟨b, o, rfl, a8⟩ := (HR.out.after hb).range aJ
   have RK := HK.out k kE
   have KL := Fx.out _ (List.getElem_mem kE)
   have FT := I5 (rR l k kE)
   obtain ⟨v1, ic⟩ : ∃ v1, v1 = K k := ⟨_, rfl⟩
   rw [← ic] at a8 RK
   clear ic
   obtain ⟨tk, kC⟩ : ∃ t, t = l[k] := ⟨_, rfl⟩
   rw [← kC] at RK KL FT
   clear kC
   obtain ⟨dt, dp, dj, dm, dn, cZ, dk, eo, dA, dy, dC, dz, dB, dF, dD, dH, dE, dG⟩ := v1
   replace a8 : wr.rangeAt b (o + k * 10) [.int .u8 dt, .slice dp dj dm, .slice dn cZ dk, .int .u8 eo, .bool dA, .bool dy, .slice dC dz dB, .bool dF, .bool dD, .slice dH dE dG] := a8
   have fM := I5 a8
   clear a8
   have RK0 := RK
   obtain ⟨⟨cH, -, -, -, -, -, fJ, -⟩, -, -, -, gk, L, ah, te⟩ := RK.parts
   dsimp only at cH fJ gk ah
   have RW := I5 ah
   have RL := I5 te
   have RKH := I5 RK0
   have iu := I5 gk
   have vy := I5 cH
   have IB : cZ ≤ 700 := by omega
   have Ht := Nat.le_trans ah.1 ah.2.1
   unfold maxLen at Ht
   clear RK RK0 ah te KL gk cH
   go_upto_region 5 with (refine ai rfl 29 _ rfl b _ rfl _ _ fM.out Tryz.underlying29 rfl (by kernel_rfl) ?_)
   let z1 := (wr.alloc (.cells #[.int .u8 dt, .slice dp dj dm, .slice dn cZ dk, .int .u8 eo, .bool dA, .bool dy, .slice dC dz dB, .bool dF, .bool dD, .slice dH dE dG] 29))
   change Code.wp _ _ _ _ z1
   have hA : Below wr.heap.size wr z1 := (Below.refl _ _).alloc (Nat.le_refl _) _
   have E1 : Hid (Box z1 wr.heap.size 29 #[.int .u8 dt, .slice dp dj dm, .slice dn cZ dk, .int .u8 eo, .bool dA, .bool dy, .slice dC dz dB, .bool dF, .bool dD, .slice dH dE dG]) := I5 (Box.new _ _ _)
   replace RW := I5 ((RW.out.after hb).after hA)
   clear_value z1
   replace O := I5 (O.out.after hA)
   replace Y := I5 (Y.out.after hA)
   have b1 := hb.trans (hA.mono hb.size)
   have DX := hA.size
   generalize wr.heap.size = y1 at *
   clear hA fM
   have e0 := E1.out.cell 0 rfl
   have e2 := E1.out.cell 2 rfl
   have CQ := b1.size
   have IS := Y.out.lt
   by_cases h4 : dt = 4
   case pos =>
    have FM : Hid (flatS (l.take (k + 1)) = flatS (l.take k) ++ tk.ks) := I5 (by rw [FT.out, if_pos (by have := vy.out; omega)])
    clear FT
    subst h4
    go_wp2_with (refine bk rfl _ _ rfl rfl O.out rfl RW.out.srcT (by omega) (by omega) ?_; intro v3 w3 fj hg3 mh; rw [kN] at fj)
    go_roundw
    case rel =>
     refine ⟨k + 1, m + cZ, _, by omega, by omega, by go_num, I5 ((hg3.block w.heap.size Y.out.lt (fun e => by have := (O.out.lt _ e.symm).1; omega)).trans Y.out), fj, I5 (by rw [FM.out, List.length_append, ← hmm.out, iu.out] <;> rfl), I5 ?_, bX w.heap.size (Nat.le_succ _) CQ O.out hg3 b1⟩
     rw [FM.out]
     exact lM hmm.out hme.out RL.out
    case measure => simp [intOf]; omega
   case neg =>
    have t4 : ((dt : Int) == 4) = false := beq_eq_false_iff_ne.mpr (by omega)
    have FM : Hid (flatS (l.take (k + 1)) = flatS (l.take k) ++ [tk]) := I5 (by rw [FT.out, if_neg (by have := vy.out; omega)])
    clear FT
    go_upto_region 7 with fail
    have ca : Below z1.heap.size z1 (z1.alloc (.cells #[.int .u8 dt, .slice dp dj dm, .slice dn cZ dk, .int .u8 eo, .bool dA, .bool dy, .slice dC dz dB, .bool dF, .bool dD, .slice dH dE dG] 29)) := (Below.refl _ _).alloc (Nat.le_refl _) _
    replace Y := I5 (Y.out.after ca)
    replace O := I5 (O.out.after ca)
    have SR := I5 (k7 z1 ⟨dt, dp, dj, dm, dn, cZ, dk, eo, dA, dy, dC, dz, dB, dF, dD, dH, dE, dG⟩)
    replace b1 := b1.trans (ca.mono b1.size)
    have Ch := ca.size
    replace CQ := b1.size
    clear ca
    go_wp2_with first | (refine ab rfl 29 _ rfl E1.out (by rfl) Tryz.underlying29 rfl (by kernel_rfl) ?_) | (refine bk rfl _ _ rfl rfl O.out rfl SR.out (by omega) (by omega) ?_; intro v3 w3 fj hg3 mh; rw [kN] at fj)
    go_roundw
    case rel =>
     refine ⟨k + 1, m + 1, _, by omega, by omega, by go_num, I5 ((hg3.block w.heap.size Y.out.lt (fun e => by have := (O.out.lt _ e.symm).1; omega)).trans Y.out), fj, I5 (by rw [FM.out, List.length_append, ← hmm.out] <;> rfl), I5 ?_, bX w.heap.size (Nat.le_succ _) CQ O.out hg3 b1⟩
     rw [FM.out]
     exact lM (L := fun _ => ⟨dt, dp, dj, dm, dn, cZ, dk, eo, dA, dy, dC, dz, dB, dF, dD, dH, dE, dG⟩) (more := [tk]) hmm.out hme.out (fun i hi => by
      have e : i = 0 := by simpa using hi
      subst e
      exact RKH.out)
    case measure => simp [intOf]; omega
theorem qI {ks : List Tg} {m : Nat} (h : ∀ x ∈ ks, x.wide m = false) : Tg.wideL ks m = false := by
 induction ks with
 | nil => rfl
 | cons x s ih =>
  simp only [Tg.wideL]
  rw [h x List.mem_cons_self, ih fun y hy => h y (List.mem_cons_of_mem _ hy)]
  rfl
theorem jD {kd : Nat} {da : List UInt8} {ks : List Tg} {r : Rg} {m : Nat} (h1 : m ≤ 60) (h2 : ks.length ≤ 700) (h3 : da.length ≤ 5000) (h4 : r.lo.att.length ≤ 200) (h5 : r.hi.att.length ≤ 200) (h6 : ∀ x ∈ ks, x.wide (m + 1) = false) :
  (Tg.mk kd da ks r).wide m = false := by
 rw [kJ, qI h6]
 unfold wideR
 rw [decide_eq_false (by omega : ¬ 60 < m), decide_eq_false (by omega : ¬ 700 < ks.length), decide_eq_false (by omega : ¬ 5000 < da.length), decide_eq_false (by omega : ¬ 200 < r.lo.att.length), decide_eq_false (by omega : ¬ 200 < r.hi.att.length)]
 rfl
theorem gY (t : Tg) : ∀ m m', t.wide m = false → m' + t.deep ≤ 61 → t.wide m' = false := by
 induction t using Tg.ind with
 | h kd da ks r ih =>
  intro m m' hw hd
  obtain ⟨h1, h2, h3, h4, h5, h6⟩ := cy hw
  simp only [Tg.deep] at hd
  refine jD (by omega) h2 h3 h4 h5 fun x hx => ih x hx (m + 1) (m' + 1) (h6 x hx) ?_
  have := (deepL_mem (n := 60 - m')).1 (by omega) x hx
  omega
def Fit (t : Tg) : Prop := t.wide 40 = false
theorem Fit.deep {t : Tg} (h : Fit t) : t.deep ≤ 21 := by have := jf t 40 h; omega
theorem Fit.wide {t : Tg} (h : Fit t) (m : Nat) (hm : m ≤ 40) : t.wide m = false := gY t 40 m h (by have := h.deep; omega)
theorem Fit.kid {t : Tg} (h : Fit t) : ∀ x ∈ t.ks, Fit x := by
 obtain ⟨kd, da, ks, r⟩ := t
 intro x hx
 have h6 := (cy h).2.2.2.2.2 x hx
 exact gY x 41 40 h6 (by have := jf x 41 h6; omega)
theorem Fit.kids {t : Tg} (h : Fit t) : t.ks.length ≤ 700 := by obtain ⟨kd, da, ks, r⟩ := t; exact (cy h).2.1
theorem Fit.leaf {t : Tg} (h : Fit t) : leafT t := by obtain ⟨kd, da, ks, r⟩ := t; obtain ⟨_, _, h3, h4, h5, _⟩ := cy h; exact ⟨h3, h4, h5⟩
theorem pW {t : Tg} (h : t.may = true) : t.deep ≤ 17 ∧ t.count ≤ 512 := by
 rw [← me] at h
 simp only [Bool.and_eq_true, decide_eq_true_eq] at h
 have := ((jG t 1).1 h.2.1).2
 exact ⟨by omega, h.1⟩
theorem Fit.of_may {t : Tg} (h : t.wide 0 = false) (hm : t.may = true) : Fit t := gY t 0 40 h (by have := (pW hm).1; omega)
theorem iN {t x : Tg} (hx : x ∈ t.ks) : x.count < t.count := by
 obtain ⟨kd, da, ks, r⟩ := t
 simp only [Tg.count]
 have : ∀ l : List Tg, x ∈ l → x.count ≤ Tg.countL l := by
  intro l
  induction l with
  | nil => intro h; cases h
  | cons y s ih =>
   intro h
   simp only [Tg.countL]
   rcases List.mem_cons.1 h with rfl | h
   ·omega
   ·have := ih h; omega
 have := this ks hx
 omega
theorem kM (P : Tg → Prop) (f : Tg → Nat → Option (Tg × Nat)) : ∀ (ks : List Tg), (∀ k ∈ ks, ∀ p t q, f k p = some (t, q) → P t) → ∀ p l q, overF f ks p = some (l, q) → (∀ x ∈ l, P x) ∧ l.length = ks.length
 | [], _, p, l, q, h => by simp only [overF, Option.some.injEq, Prod.mk.injEq] at h; obtain ⟨rfl, -⟩ := h; exact ⟨fun x hx => (by cases hx), rfl⟩
 | k :: s, hf, p, l, q, h => by
  simp only [overF] at h
  rcases h1 : f k p with _ | ⟨t, q1⟩
  ·rw [h1] at h; cases h
  rw [h1] at h
  simp only [] at h
  rcases h2 : overF f s q1 with _ | ⟨l2, q2⟩
  ·rw [h2] at h; cases h
  rw [h2] at h
  simp only [Option.some.injEq, Prod.mk.injEq] at h
  obtain ⟨rfl, -⟩ := h
  obtain ⟨g1, g2⟩ := kM P f s (fun k hk => hf k (List.mem_cons_of_mem _ hk)) q1 l2 q2 h2
  exact ⟨fun x hx => (List.mem_cons.1 hx).elim (fun e => e ▸ hf k List.mem_cons_self p t q1 h1) (g1 x), by simp [g2]⟩
theorem iK (P : Tg → Prop) (f : Tg → Tg → Nat → Option (Tg × Nat)) : ∀ (xs ys : List Tg), (∀ x ∈ xs, P x) → (∀ x ∈ xs, ∀ y ∈ ys, ∀ p t q, f x y p = some (t, q) → P t) → ∀ p l q, listF f xs ys p = some (some l, q) → (∀ x ∈ l, P x) ∧ l.length = xs.length
 | [], ys, _, _, p, l, q, h => by simp only [listF, Option.some.injEq, Prod.mk.injEq] at h; obtain ⟨rfl, -⟩ := h; exact ⟨fun x hx => (by cases hx), rfl⟩
 | k :: s, [], hx, hf, p, l, q, h => by
  simp only [listF] at h
  split at h
  ·simp at h
  rcases h2 : listF f s [] p with _ | ⟨_ | l2, q2⟩ <;> rw [h2] at h <;> simp only [Option.some.injEq, Prod.mk.injEq, reduceCtorEq, false_and] at h
  obtain ⟨rfl, -⟩ := h
  obtain ⟨g1, g2⟩ := iK P f s [] (fun x h => hx x (List.mem_cons_of_mem _ h)) (fun x _ y hy => by cases hy) p l2 q2 h2
  exact ⟨fun x h => (List.mem_cons.1 h).elim (fun e => e ▸ hx k List.mem_cons_self) (g1 x), by simp [g2]⟩
 | k :: s, y :: r, hx, hf, p, l, q, h => by
  simp only [listF] at h
  rcases h1 : f k y p with _ | ⟨t, q1⟩
  ·rw [h1] at h; cases h
  rw [h1] at h
  simp only [] at h
  split at h
  ·simp at h
  rcases h2 : listF f s r q1 with _ | ⟨_ | l2, q2⟩ <;> rw [h2] at h <;> simp only [Option.some.injEq, Prod.mk.injEq, reduceCtorEq, false_and] at h
  obtain ⟨rfl, -⟩ := h
  obtain ⟨g1, g2⟩ := iK P f s r (fun x h => hx x (List.mem_cons_of_mem _ h)) (fun x h y hy => hf x (List.mem_cons_of_mem _ h) y (List.mem_cons_of_mem _ hy)) q1 l2 q2 h2
  exact ⟨fun x h => (List.mem_cons.1 h).elim (fun e => e ▸ hf k List.mem_cons_self y List.mem_cons_self p t q1 h1) (g1 x), by simp [g2]⟩
theorem uF {l : List Tg} (h : ∀ x ∈ l, Fit x) : ∀ x ∈ flatS l, Fit x := by
 intro x hx
 obtain ⟨t, ht, hx⟩ := List.mem_flatMap.1 hx
 split at hx
 ·exact (h t ht).kid x hx
 ·obtain rfl : x = t := by simpa using hx
  exact h x ht
theorem mc : noT.wide 0 = false := by decide
theorem nr {l : List Tg} (h : ∀ x ∈ l, Fit x) (hc : (setT l).count ≤ 512) : (setT l).wide 0 = false := by
 have hf := uF h
 unfold setT at *
 generalize flatS l = o at *
 have many : ∀ o : List Tg, (∀ x ∈ o, Fit x) → (Tg.mk 4 [] o noR).count ≤ 512 → (Tg.mk 4 [] o noR).wide 0 = false := by
  intro o hf hc
  have := mB (ks := o)
  simp only [Tg.count] at hc
  exact jD (by omega) (by omega) (by simp) (by decide) (by decide) fun x hx => (hf x hx).wide 1 (by omega)
 match o, hf, hc with
 | [], hf, hc => exact many _ hf hc
 | [t], hf, _ => exact (hf t (by simp)).wide 0 (by omega)
 | _ :: _ :: _, hf, hc => exact many _ hf hc
theorem sx (o : Nat) (x y : Bd) (s : Int) (n : Nat) (hx : x.att.length ≤ n) (hy : y.att.length ≤ n) : (tiB o x y s).att.length ≤ n := by
 unfold tiB
 repeat' split
 all_goals assumption
theorem ud (r s : Rg) (n : Nat) (h1 : r.lo.att.length ≤ n) (h2 : r.hi.att.length ≤ n) (h3 : s.lo.att.length ≤ n) (h4 : s.hi.att.length ≤ n) : (meetR r s).lo.att.length ≤ n ∧ (meetR r s).hi.att.length ≤ n := by
 unfold meetR
 split
 ·exact ⟨sx _ _ _ _ _ h1 h3, sx _ _ _ _ _ h2 h4⟩
 ·exact ⟨by simp [noR], by simp [noR]⟩
theorem pN {a b : Tg} (ha : Fit a) (hb : Fit b) : (plainT a b).wide 0 = false := by
 have h1 := ha.wide 0 (by omega)
 have h2 := hb.wide 0 (by omega)
 obtain ⟨_, la, GU⟩ := ha.leaf
 obtain ⟨_, lb, lb2⟩ := hb.leaf
 unfold plainT
 split
 ·exact h2
 split
 ·exact h1
 split
 ·exact h1
 split
 ·exact h2
 split
 ·split
  ·obtain ⟨m1, m2⟩ := ud a.r b.r 200 la GU lb lb2
   exact jD (by omega) (by simp) (by simp) m1 m2 (fun x hx => by cases hx)
  ·exact mc
 ·exact mc
theorem mG (n : Nat) (hF : ∀ a b p t q, Fit a → Fit b → meetF n a b p = some (t, q) → Fit t) (a b : Tg) (p : Nat) (t : Tg) (q : Nat) (ha : Fit a) (hb : Fit b) (h : bothF n a b p = some (t, q)) (hc : t.count ≤ 512) : t.wide 0 = false := by
 rw [cx] at h
 split at h
 ·simp only [Option.some.injEq, Prod.mk.injEq] at h; obtain ⟨rfl, -⟩ := h; exact hb.wide 0 (by omega)
 split at h
 ·simp only [Option.some.injEq, Prod.mk.injEq] at h; obtain ⟨rfl, -⟩ := h; exact ha.wide 0 (by omega)
 split at h
 ·split at h
  ·cases h
  ·rename_i l q' he
   simp only [Option.some.injEq, Prod.mk.injEq] at h
   obtain ⟨rfl, -⟩ := h
   exact nr (kM Fit _ a.ks (fun k hk p t q h => hF k b p t q (ha.kid k hk) hb h) _ _ _ he).1 hc
 split at h
 ·split at h
  ·cases h
  ·rename_i l q' he
   simp only [Option.some.injEq, Prod.mk.injEq] at h
   obtain ⟨rfl, -⟩ := h
   exact nr (kM Fit _ b.ks (fun k hk p t q h => hF a k p t q ha (hb.kid k hk) h) _ _ _ he).1 hc
 split at h
 ·split at h
  ·cases h
  ·simp only [Option.some.injEq, Prod.mk.injEq] at h; obtain ⟨rfl, -⟩ := h; exact mc
  ·rename_i l q' he
   simp only [Option.some.injEq, Prod.mk.injEq] at h
   obtain ⟨rfl, -⟩ := h
   have hl : (∀ x ∈ l, Fit x) ∧ l.length ≤ 700 := by
    split at he
    ·have := iK Fit _ b.ks a.ks hb.kid (fun x hx y hy p t q h => hF x y p t q (hb.kid x hx) (ha.kid y hy) h) _ _ _ he
     exact ⟨this.1, by rw [this.2]; exact hb.kids⟩
    ·have := iK Fit _ a.ks b.ks ha.kid (fun x hx y hy p t q h => hF x y p t q (ha.kid x hx) (hb.kid y hy) h) _ _ _ he
     exact ⟨this.1, by rw [this.2]; exact ha.kids⟩
   exact jD (by omega) hl.2 (by simp) (by decide) (by decide) fun x hx => (hl.1 x hx).wide 1 (by omega)
 ·simp only [Option.some.injEq, Prod.mk.injEq] at h; obtain ⟨rfl, -⟩ := h; exact pN ha hb
theorem ef : ∀ (n : Nat) (a b : Tg) (p : Nat) (t : Tg) (q : Nat), Fit a → Fit b → meetF n a b p = some (t, q) → Fit t
 | 0, a, b, p, t, q, _, _, h => by rw [ry] at h; cases h
 | n + 1, a, b, p, t, q, ha, hb, h => by
  rw [jk] at h
  split at h
  ·cases h
  split at h
  ·cases h
  ·rename_i t' q' he
   split at h
   ·rename_i hm
    simp only [Option.some.injEq, Prod.mk.injEq] at h
    obtain ⟨rfl, -⟩ := h
    exact Fit.of_may (mG n (ef n) a b (p + 1) t' q' ha hb he (pW hm).2) hm
   ·cases h
theorem y6 (t : Tg) (h : ¬ t.count ≤ 512) : t.may = false := by rw [← me, decide_eq_false h]; rfl
end Go.Proofs.YtmmkaclmgnpplaaGreatDoor

import Derived.Test.YtmmkaclmgnpplaaGreatDoorMz29
set_option maxRecDepth 100000
set_option maxHeartbeats 64000000
set_option linter.unusedSimpArgs false
set_option linter.unusedVariables false
namespace Go.Proofs.YtmmkaclmgnpplaaGreatDoor
open Go.RowKit
def newsT (K : Nat → TV) : Nat → List Value
 | 0 => []
 | n + 1 => newsT K n ++ (K n).cells.toList
theorem dP (K : Nat → TV) (n : Nat) : (newsT K n).length = n * 10 := by
 induction n with
 | zero => rfl
 | succ n ih => simp only [newsT, List.length_append, ih]; rw [Array.length_toList, TV.cells_size]; omega
theorem jP (K : Nat → TV) (n i j : Nat) (hi : i < n) (hj : j < 10) : (newsT K n)[i * 10 + j]? = (K i).cells[j]? := by
 induction n with
 | zero => omega
 | succ n ih =>
  simp only [newsT]
  by_cases h : i < n
  ·rw [List.getElem?_append_left (by rw [dP]; omega), ih h]
  ·obtain rfl : i = n := by omega
   rw [List.getElem?_append_right (by rw [dP]; omega), dP, Nat.add_sub_cancel_left]
   simp
theorem k9 {K K' : Nat → TV} {n : Nat} (h : ∀ i, i < n → K i = K' i) : newsT K n = newsT K' n := by
 induction n with
 | zero => rfl
 | succ n ih => simp only [newsT]; rw [ih (fun i hi => h i (by omega)), h n (by omega)]
theorem nD (K : Nat → TV) (n : Nat) : ∀ u ∈ newsT K n, u.oneCell' = true := by
 induction n with
 | zero => intro u hu; cases hu
 | succ n ih =>
  intro u hu
  simp only [newsT, List.mem_append] at hu
  rcases hu with hu | hu
  ·exact ih u hu
  ·exact (Array.all_eq_true_iff_forall_mem.1 (TV.one (K n))) u (by simpa using hu)
theorem pR {w : World} {b o n c : Nat} {K : Nat → TV} (h : RowT w (some ⟨b, o, none⟩) n c K) : ∀ j u, (newsT K n)[j]? = some u → w.cell? ((⟨b, o, none⟩ : Addr).add j) = some u := by
 intro j u hu
 have aJ : j < n * 10 := by rw [← dP K n]; exact (List.getElem?_eq_some_iff.1 hu).1
 have e : j = j / 10 * 10 + j % 10 := by omega
 rw [e, jP K n _ _ (by omega) (by omega)] at hu
 rw [Addr.add_mid]
 have := h.rangeA (i := j / 10) (by omega) (j % 10) u (by simpa using hu)
 rwa [show o + j / 10 * 10 + j % 10 = o + j by omega] at this
theorem OwnG.rowT {w : World} {B n : Nat} {v : Value} {K : Nat → TV} (h : OwnG w B 10 v n (newsT K n)) : ∃ a c, v = .slice a n c ∧ RowT w a n c K ∧ InB (fun k => B ≤ k) a n := by
 rcases h.2 with ⟨rfl, rfl⟩ | ⟨g, o, cap, rfl, h3, h4, h5, h6, h7, h8⟩
 ·exact ⟨none, 0, rfl, ⟨Nat.le_refl _, Nat.zero_le _, fun _ => rfl, .inl rfl⟩, .inl rfl⟩
 ·refine ⟨_, _, rfl, ⟨h5, h6, (fun h => by cases h), .inr ⟨g, o, rfl, fun i hi j u hu => ?_⟩⟩, .inr fun b o' s e => by cases e; exact h3⟩
  have hj : j < 10 := by rw [← TV.cells_size (K i)]; exact (Array.getElem?_eq_some_iff.1 hu).1
  have := h8 (i * 10 + j) u (by rw [jP K n i j hi hj]; exact hu)
  rwa [← Nat.add_assoc] at this
theorem Ap : (Tryz.prog.info? 29).map (fun i => (i.zero, i.size, i.bytes)) = some (some TV.nil.val, 10, 128) := by kernel_rfl
theorem t8 : TV.nil.val.cells.size = 10 := rfl
theorem pi {o : Oper} {a : Act} {w : World} {B n : Nat} {v : Value} {xs : List Value} {K : Act → World → Prop} {Q : Exit → Act → World → Prop} (s x : Operand)
  (ho : o.op = .call { callee := .builtin .append, args := #[s, x], argTypes := #[23, 23] })
  (hs : a.eval s = v) (h : OwnG w B 10 v n xs) {m : Nat} {news : List Value} {xv : Value} (hx : a.eval x = xv) (lk : Src Tryz.prog 10 23 xv m news w) (hn : n + m ≤ 1000000) (hB : B ≤ w.heap.size)
  (hk : ∀ v' w', OwnG w' B 10 v' (n + m) (xs ++ news) → w.grownBy w' v.ownBlock → (∀ k, v'.ownBlock = some k → v.ownBlock = some k ∨ w.heap.size ≤ k) → K (a.put o.dst v') w') : o.wp Tryz.prog a w K Q := by
 obtain ⟨i0, hi, o5⟩ := Option.map_eq_some_iff.1 Ap
 simp only [Prod.mk.injEq] at o5
 obtain ⟨mg, uj, m3⟩ := o5
 exact gW s x 23 23 ho 29 i0 TV.nil.val 128 Tryz.underlying23 hi mg uj m3 t8 (by decide) hs h _ hx m news lk (by unfold maxLen; omega) (by omega) hB hk
theorem bk {ops : Array Oper} {rest : List Oper} {o : Oper} {a : Act} {w : World} {B n : Nat} {v : Value} {xs : List Value} {Q : Exit → Act → World → Prop} (dR : o.guard = none) (s x : Operand)
  (ho : o.op = .call { callee := .builtin .append, args := #[s, x], argTypes := #[23, 23] })
  (hs : a.eval s = v) (h : OwnG w B 10 v n xs) {m : Nat} {news : List Value} {xv : Value} (hx : a.eval x = xv) (lk : Src Tryz.prog 10 23 xv m news w) (hn : n + m ≤ 1000000) (hB : B ≤ w.heap.size)
  (hk : ∀ v' w', OwnG w' B 10 v' (n + m) (xs ++ news) → w.grownBy w' v.ownBlock → (∀ k, v'.ownBlock = some k → v.ownBlock = some k ∨ w.heap.size ≤ k) → wpList Tryz.prog ops Q rest (a.put o.dst v') w') : wpList Tryz.prog ops Q (o :: rest) a w :=
 wpList_plain dR fun _ hK => pi s x ho hs h hx lk hn hB fun v' w' h1 h2 h3 => hK _ _ (hk v' w' h1 h2 h3)
theorem k7 (w : World) (v : TV) : Src Tryz.prog 10 23 (.slice (some ⟨w.heap.size, 0, none⟩) 1 1) 1 (newsT (fun _ => v) 1) (w.alloc (.cells v.cells 29)) := by
 refine Src.ofSlice _ Tryz.underlying23 _ 1 1 _ (dP _ 1) (fun j u hu => ?_) (nD _ 1)
 rw [Addr.add_mid]
 refine (Box.new w 29 v.cells).cell (0 + j) ?_
 rw [Nat.zero_add]
 simpa [newsT] using hu
theorem ee (K : Nat → TV) (n : Nat) (v : TV) : newsT K n ++ newsT (fun _ => v) 1 = newsT (fun i => if i = n then v else K i) (n + 1) := by
 have e : newsT (fun i => if i = n then v else K i) n = newsT K n := k9 fun i h => if_neg (by omega)
 show newsT K n ++ ([] ++ v.cells.toList) = newsT _ n ++ (if n = n then v else K n).cells.toList
 rw [e, if_pos rfl, List.nil_append]
theorem RdT.grew {p : Nat → Prop} {own v' : Value} {u w2 : World} {v : TV} {s : Tg} (h : RdT (okO p own) u v s) (hg : u.grownBy w2 own.ownBlock) (hw : ∀ k, v'.ownBlock = some k → own.ownBlock = some k ∨ u.heap.size ≤ k) : RdT (okO p v') w2 v s :=
 (h.there.keep (fun k hk => hg.block k hk.2 (fun e => hk.1.2 e.symm))).mono (fun k hk => ⟨hk.1.1, fun e => (hw k e).elim (fun e => hk.1.2 e) (fun e => by have := hk.2; omega)⟩)
theorem dL {p : Nat → Prop} {n : Nat} {own v' : Value} {u w2 : World} {K : Nat → TV} {acc : List Tg} {v : TV} {s : Tg} (hn : n = acc.length)
  (hK : ∀ i (hi : i < acc.length), RdT (okO p own) u (K i) acc[i]) (hR : RdT (okO p own) u v s)
  (hg : u.grownBy w2 own.ownBlock) (hw : ∀ k, v'.ownBlock = some k → own.ownBlock = some k ∨ u.heap.size ≤ k) :
  ∀ i (hi : i < (acc ++ [s]).length), RdT (okO p v') w2 (if i = n then v else K i) (acc ++ [s])[i] := by
 intro i hi
 by_cases m5 : i = n
 ·rw [if_pos m5]
  have e : (acc ++ [s])[i] = s := by
   subst m5 hn
   simp
  rw [e]
  exact hR.grew hg hw
 ·rw [if_neg m5]
  have aJ : i < acc.length := by simp at hi; omega
  rw [List.getElem_append_left aJ]
  exact (hK i aJ).grew hg hw
def TagP (t : Tg) (w : World) (e : Ending) (w' : World) : Prop := ∃ u : TV, e = .returned u.val ∧ RdT (fun b => w.heap.size ≤ b) w' u t ∧ Below w.heap.size w w'
def GetOk (s : Sx) (t : Tg) : Prop := ∀ (v : SV) (w : World), Rd w v s → Calls Tryz.prog 66 #[v.val] w (TagP t w)
theorem iB (ok : Nat → Prop) (w : World) (kd : Nat) (hk : kd < 256) (a : Option Addr) (n c : Nat) (l : List UInt8) (hs : Sl w a n c l) (hi : InB ok a n) : RdT ok w ⟨kd, a, n, c, none, 0, 0, 0, false, false, none, 0, 0, false, false, none, 0, 0⟩ (.mk kd l [] noR) :=
 .mk _ l [] [] [] (fun _ => TV.nil) hs hi (Sl.nil w) (.inl rfl) (Sl.nil w) (.inl rfl) ⟨Nat.le_refl _, Nat.zero_le _, fun _ => rfl, .inl rfl⟩ (.inl rfl) rfl (fun i hi => by cases hi) hk (by show 0 < 256; omega)
theorem hG (ok : Nat → Prop) (w : World) (kd : Nat) (hk : kd < 256) (a : Option Addr) (n c : Nat) (K : Nat → TV) (ts : List Tg) (hr : RowT w a n c K) (hi : InB ok a n) (hn : n = ts.length) (nM : ∀ i (hi : i < ts.length), RdT ok w (K i) ts[i]) : RdT ok w ⟨kd, none, 0, 0, a, n, c, 0, false, false, none, 0, 0, false, false, none, 0, 0⟩ (.mk kd [] ts noR) :=
 .mk _ [] ts [] [] K (Sl.nil w) (.inl rfl) (Sl.nil w) (.inl rfl) (Sl.nil w) (.inl rfl) hr hi hn nM hk (by show 0 < 256; omega)
theorem lF (w : World) : Calls Tryz.prog 65 #[.bool true] w fun e w' => e = .returned (.tuple #[]) ∧ w' = w := by
 go_enter Tryz.func65, Tryz.ntmps65
 go_wp2_with fail
 go_end0
 exact ⟨rfl, rfl⟩
theorem iR (l : List UInt8) (hi : List UInt8) (v : SV) (w : World) (hr : Rd w v (.mk false false hi l [])) (hl : l.length ≤ 5000) : Calls Tryz.prog 102 #[v.val] w fun e w' => ∃ v', e = .returned v' ∧ OwnB w' w.heap.size v' l ∧ Below w.heap.size w w' := by
 obtain ⟨eQ, fK, -, aO, -⟩ := hr.parts
 obtain ⟨vl, vh, aw, ap, av, aA, aS, az, cM, dO, cz⟩ := v
 replace eQ : vl = false := eQ
 replace fK : vh = false := fK
 subst eQ fK
 replace aO : Sl w aA aS az l := aO
 have HS := I5 aO
 have G6 : aS ≤ 1000000 := by have := aO.1; omega
 clear aO hr
 unfold SV.val
 let x0 := (w.alloc (.cells #[.bool false, .bool false, .slice aw ap av, .slice aA aS az, .slice cM dO cz] 32))
 have B : Below w.heap.size w x0 := (Below.refl _ _).alloc (Nat.le_refl _) _
 have X : Hid (Box x0 w.heap.size 32 #[.bool false, .bool false, .slice aw ap av, .slice aA aS az, .slice cM dO cz]) := I5 (Box.new _ _ _)
 show Calls _ _ #[.agg #[.bool false, .bool false, .slice aw ap av, .slice aA aS az, .slice cM dO cz]] _ _
 go_enter Tryz.func102, Tryz.ntmps102
 go_upto_region 1 with fail
 change Code.wp _ _ _ _ x0
 clear_value x0
 have c0 := X.out.cell 0 rfl
 have c1 := X.out.cell 1 rfl
 go_wp2_with fail
 refine (lF x0).mono ?_
 rintro e x1 ⟨rfl, rfl⟩
 have c3 := X.out.cell 3 rfl
 go_wp2_with fail
 refine (dq aA aS az l _ (HS.out.after B) G6).mono ?_
 rintro e x2 ⟨v2, rfl, o2, bx2⟩
 have Bv := X.out.lt
 have B2 := B.trans (bx2.mono B.size)
 go_wp2_with fail
 go_ret
 exact ⟨v2, rfl, o2.le (Nat.le_trans (Nat.le_of_lt Bv) (Nat.le_refl _)), B2⟩
def TagsP (ts : List Tg) (w : World) (e : Ending) (w' : World) : Prop := ∃ v K, e = .returned v ∧ OwnG w' w.heap.size 10 v ts.length (newsT K ts.length) ∧ (∀ i (hi : i < ts.length), RdT (okO (fun b => w.heap.size ≤ b) v) w' (K i) ts[i]) ∧ Below w.heap.size w w'
theorem pB (a : Option Addr) (c : Nat) (K : Nat → SV) (ss : List Sx) (ts : List Tg) (w : World) (hr : RowAt w a ss.length c K) (hk : ∀ i (hi : i < ss.length), Rd w (K i) ss[i]) (dh : ss.length = ts.length) (hn : ss.length ≤ 1000) (hg : ∀ i (h : i < ss.length) (h2 : i < ts.length), GetOk ss[i] ts[i]) :
    Calls Tryz.prog 101 #[.slice a ss.length c] w (TagsP ts w) := by
  have HR := I5 hr
  have HK := I5 hk
  have HG := I5 hg
  have ie := Nat.le_trans hr.1 hr.2.1
  unfold maxLen at ie
  have BJ := I5 dh
  clear hr hk hg dh
  go_enter Tryz.func101, Tryz.ntmps101
  go_wp2_with fail
  go_loopw [3, 8] (fun acc i wr => ∃ (k : Nat) (J : Nat → TV), k ≤ ss.length ∧ i = .int .i64 k ∧ OwnG wr w.heap.size 10 acc k (newsT J k) ∧ Hid (∀ i (hi : i < (ts.take k).length), RdT (okO (fun b => w.heap.size ≤ b) acc) wr (J i) (ts.take k)[i]) ∧ Below w.heap.size w wr) (fun _ i _ => ss.length - (intOf i).toNat)
  case atStart => exact ⟨0, (fun _ => TV.nil), Nat.zero_le _, rfl, OwnG.nil _ _ _, I5 (fun i hi => by simp at hi), Below.refl _ _⟩
  case round =>
    obtain ⟨k, J, fy, rfl, ho, hme, hb⟩ := hrel
    by_cases aJ : k < ss.length
    case neg =>
      have fS : ¬ (k : Int) < ss.length := by omega
      have te : k = ts.length := by have := BJ.out; omega
      have mn : ts.take k = ts := List.take_of_length_le (by omega)
      rw [mn] at hme
      have O := I5 ho
      rw [te] at O
      clear ho
      go_wp2_with fail
      go_ret
      exact ⟨_, J, rfl, O.out, hme.out, hb⟩
    case pos =>
      have fS : (k : Int) < ss.length := by omega
      have cL : (0 : Int) ≤ k := by omega
      have kE : k < ts.length := by have := BJ.out; omega
      obtain ⟨b, o, rfl, a8⟩ := (HR.out.after hb).range aJ
      have RK := (HK.out k aJ).after hb
      have GK := HG.out k aJ kE (K k)
      obtain ⟨v1, ic⟩ : ∃ v1, v1 = K k := ⟨_, rfl⟩
      rw [← ic] at a8 RK GK
      clear ic
      obtain ⟨el, eh, dp, dj, dm, dn, cZ, dk, E7, E5, E6⟩ := v1
      replace a8 : wr.rangeAt b (o + k * 5) [.bool el, .bool eh, .slice dp dj dm, .slice dn cZ dk, .slice E7 E5 E6] := a8
      have fM := I5 a8
      clear a8
      have O0 := I5 ho
      clear ho
      go_upto_region 5 with (refine ai rfl 32 _ rfl b _ rfl _ _ fM.out Tryz.underlying32 rfl (by kernel_rfl) ?_)
      let z1 := (wr.alloc (.cells #[.bool el, .bool eh, .slice dp dj dm, .slice dn cZ dk, .slice E7 E5 E6] 32))
      change Code.wp _ _ _ _ z1
      have hA : Below wr.heap.size wr z1 := (Below.refl _ _).alloc (Nat.le_refl _) _
      have Y1 : Hid (Box z1 wr.heap.size 32 #[.bool el, .bool eh, .slice dp dj dm, .slice dn cZ dk, .slice E7 E5 E6]) := I5 (Box.new _ _ _)
      have GC := I5 (GK z1 (RK.after hA))
      clear_value z1
      have O1 := I5 (O0.out.after hA)
      have M1 := I5 (fun i hi => (hme.out i hi).after hA)
      have b1 := hb.trans (hA.mono hb.size)
      have nc := I5 O1.out.lt
      have DX := hA.size
      generalize wr.heap.size = y1 at *
      clear hA O0 fM RK GK hme
      go_wp2_with (refine ab rfl 32 _ rfl Y1.out (by rfl) Tryz.underlying32 rfl (by kernel_rfl) ?_)
      refine GC.out.mono ?_
      rintro e w1 ⟨⟨cS, bR, bN, bP, bQ, bL, bO, to, cP, cN, cR, cO, cQ, cW, cT, cY, cU, cX⟩, rfl, rt, hb4⟩
      simp only [TV.val]
      clear Y1 GC
      have ca : Below w1.heap.size w1 (w1.alloc (.cells #[.int .u8 cS, .slice bR bN bP, .slice bQ bL bO, .int .u8 to, .bool cP, .bool cN, .slice cR cO cQ, .bool cW, .bool cT, .slice cY cU cX] 29)) := (Below.refl _ _).alloc (Nat.le_refl _) _
      have O2 := I5 ((O1.out.after hb4).after ca)
      have M2 := I5 (fun i hi => ((M1.out i hi).after hb4).after ca)
      have RV := I5 ((rt.mono (ok' := (okO (fun b => w.heap.size ≤ b) _)) (fun b' hb' => ⟨by show w.heap.size ≤ b'; have h1 : z1.heap.size ≤ b' := hb'; have := b1.size; omega, fun e => by have h1 : z1.heap.size ≤ b' := hb'; have := nc.out b' e; omega⟩)).after ca)
      have SR := I5 (k7 w1 ⟨cS, bR, bN, bP, bQ, bL, bO, to, cP, cN, cR, cO, cQ, cW, cT, cY, cU, cX⟩)
      have b2 := (b1.trans (hb4.mono b1.size))
      have b3 := b2.trans (ca.mono b2.size)
      have CQ := b3.size
      clear O1 M1 hb4 ca rt
      go_wp2_with (refine bk rfl _ _ rfl rfl O2.out rfl SR.out (by omega) (by omega) ?_; intro v3 w3 fj hg3 mh; rw [ee] at fj)
      go_roundw
      case rel => exact ⟨k + 1, _, by omega, by go_num, fj, I5 (by
            have hL : ts.take (k + 1) = ts.take k ++ [ts[k]] := List.take_succ_eq_append_getElem kE
            rw [hL]
            exact dL (by simp; omega) M2.out RV.out hg3 mh), bX w.heap.size (Nat.le_refl _) CQ O2.out hg3 b3⟩
      case measure => simp [intOf]; omega
end Go.Proofs.YtmmkaclmgnpplaaGreatDoor

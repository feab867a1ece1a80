import Derived.Test.YtmmkaclmgnpplaaGreatDoorMz20
set_option maxRecDepth 100000
set_option maxHeartbeats 64000000
set_option linter.unusedSimpArgs false
set_option linter.unusedVariables false
namespace Go.Proofs.YtmmkaclmgnpplaaGreatDoor
open Go.RowKit
section
open Go.RowKit Go.ChangeShapes Go.WideShapes Go.ChangeAt
inductive Tg where
 | mk (kd : Nat) (da : List UInt8) (ks : List Tg) (r : Rg)
instance : Inhabited Rg := ⟨noR⟩
instance : Inhabited Tg := ⟨.mk 0 [] [] noR⟩
def Tg.kd : Tg → Nat | .mk x _ _ _ => x
def Tg.da : Tg → List UInt8 | .mk _ x _ _ => x
def Tg.ks : Tg → List Tg | .mk _ _ x _ => x
def Tg.r : Tg → Rg | .mk _ _ _ x => x
theorem Tg.ind {p : Tg → Prop} (h : ∀ kd da ks r, (∀ x ∈ ks, p x) → p (.mk kd da ks r)) (x : Tg) : p x :=
 Tg.rec (motive_1 := p) (motive_2 := fun ks => ∀ k ∈ ks, p k) (fun kd da ks r ih => h kd da ks r ih) (fun k hk => by cases hk)
  (fun k ks hk ih j hj => by
   rcases List.mem_cons.1 hj with rfl | hj
   ·exact hk
   ·exact ih j hj) x
mutual
def Tg.count : Tg → Nat
 | .mk _ _ ks _ => 1 + Tg.countL ks
def Tg.countL : List Tg → Nat
 | [] => 0
 | x :: r => x.count + Tg.countL r
end
structure TV where
 kd : Nat
 a1 : Option Addr
 n1 : Nat
 c1 : Nat
 a2 : Option Addr
 n2 : Nat
 c2 : Nat
 o : Nat
 li : Bool
 lo : Bool
 la : Option Addr
 ln : Nat
 lc : Nat
 hi : Bool
 ho : Bool
 ha : Option Addr
 hn : Nat
 hc : Nat
def TV.cells (v : TV) : Array Value := #[.int .u8 v.kd, .slice v.a1 v.n1 v.c1, .slice v.a2 v.n2 v.c2, .int .u8 v.o, .bool v.li, .bool v.lo, .slice v.la v.ln v.lc, .bool v.hi, .bool v.ho, .slice v.ha v.hn v.hc]
def TV.val (v : TV) : Value := .agg #[.int .u8 v.kd, .slice v.a1 v.n1 v.c1, .slice v.a2 v.n2 v.c2, .int .u8 v.o, .bool v.li, .bool v.lo, .slice v.la v.ln v.lc, .bool v.hi, .bool v.ho, .slice v.ha v.hn v.hc]
def TV.nil : TV := ⟨0, none, 0, 0, none, 0, 0, 0, false, false, none, 0, 0, false, false, none, 0, 0⟩
instance : Inhabited TV := ⟨TV.nil⟩
theorem TV.cells_size (v : TV) : v.cells.size = 10 := rfl
theorem TV.one (v : TV) : v.cells.all (·.oneCell') = true := by simp [TV.cells, Value.oneCell']
def RowT (w : World) (a : Option Addr) (n c : Nat) (K : Nat → TV) : Prop :=
 n ≤ c ∧ c ≤ maxLen ∧ (a = none → c = 0) ∧ (n = 0 ∨ ∃ b o, a = some ⟨b, o, none⟩ ∧ ∀ i, i < n → ∀ j v, (K i).cells[j]? = some v → w.cell? ⟨b, o + i * 10 + j, none⟩ = some v)
inductive RdT (ok : Nat → Prop) (w : World) : TV → Tg → Prop
 | mk (v : TV) (da : List UInt8) (ks : List Tg) (ll hl : List UInt8) (K : Nat → TV) : Sl w v.a1 v.n1 v.c1 da → InB ok v.a1 v.n1 → Sl w v.la v.ln v.lc ll → InB ok v.la v.ln → Sl w v.ha v.hn v.hc hl → InB ok v.ha v.hn →
   RowT w v.a2 v.n2 v.c2 K → InB ok v.a2 v.n2 → v.n2 = ks.length → (∀ i (hi : i < ks.length), RdT ok w (K i) ks[i]) → v.kd < 256 → v.o < 256 → RdT ok w v (.mk v.kd da ks ⟨v.o, ⟨v.li, v.lo, ll⟩, ⟨v.hi, v.ho, hl⟩⟩)
theorem RdT.parts {ok : Nat → Prop} {w : World} {v : TV} {t : Tg} (h : RdT ok w v t) :
  (v.kd = t.kd ∧ v.o = t.r.o ∧ v.li = t.r.lo.is ∧ v.lo = t.r.lo.op ∧ v.hi = t.r.hi.is ∧ v.ho = t.r.hi.op ∧ v.kd < 256 ∧ v.o < 256) ∧ Sl w v.a1 v.n1 v.c1 t.da ∧ Sl w v.la v.ln v.lc t.r.lo.att ∧ Sl w v.ha v.hn v.hc t.r.hi.att ∧ v.n2 = t.ks.length ∧
  ∃ K, RowT w v.a2 v.n2 v.c2 K ∧ ∀ i (hi : i < t.ks.length), RdT ok w (K i) t.ks[i] := by
 cases h with
 | mk v da ks ll hl K h1 h2 h3 h4 h5 h6 h7 h8 h9 h10 h11 h12 => exact ⟨⟨rfl, rfl, rfl, rfl, rfl, rfl, h11, h12⟩, h1, h3, h5, h9, K, h7, h10⟩
theorem RdT.inb {ok : Nat → Prop} {w : World} {v : TV} {t : Tg} (h : RdT ok w v t) : InB ok v.a1 v.n1 ∧ InB ok v.la v.ln ∧ InB ok v.ha v.hn ∧ InB ok v.a2 v.n2 := by
 cases h with
 | mk v da ks ll hl K h1 h2 h3 h4 h5 h6 h7 h8 h9 h10 h11 h12 => exact ⟨h2, h4, h6, h8⟩
theorem RowT.keep {w w' : World} {a : Option Addr} {n c : Nat} {K : Nat → TV} (h : RowT w a n c K) (hk : n = 0 ∨ ∀ b o s, a = some ⟨b, o, s⟩ → w'.heap[b]? = w.heap[b]?) : RowT w' a n c K := by
 obtain ⟨h1, h2, h3, h4⟩ := h
 refine ⟨h1, h2, h3, ?_⟩
 rcases h4 with h4 | ⟨b, o, rfl, h4⟩
 ·exact .inl h4
 ·rcases hk with hk | hk
  ·exact .inl hk
  ·exact .inr ⟨b, o, rfl, fun i hi j v hv => (World.cell?_of_block (a := ⟨b, o + i * 10 + j, none⟩) (hk b o none rfl)).trans (h4 i hi j v hv)⟩
theorem RdT.keep {ok : Nat → Prop} {w w' : World} {v : TV} {t : Tg} (h : RdT ok w v t) (hk : ∀ b, ok b → w'.heap[b]? = w.heap[b]?) : RdT ok w' v t := by
 induction h with
 | mk v da ks ll hl K h1 h2 h3 h4 h5 h6 h7 h8 h9 h10 h11 h12 ih => exact .mk v da ks ll hl K (h1.keep (h2.heap hk)) h2 (h3.keep (h4.heap hk)) h4 (h5.keep (h6.heap hk)) h6 (h7.keep (h8.heap hk)) h8 h9 ih h11 h12
theorem RdT.mono {ok ok' : Nat → Prop} {w : World} {v : TV} {t : Tg} (h : RdT ok w v t) (hm : ∀ b, ok b → ok' b) : RdT ok' w v t := by
 induction h with
 | mk v da ks ll hl K h1 h2 h3 h4 h5 h6 h7 h8 h9 h10 h11 h12 ih => exact .mk v da ks ll hl K h1 (h2.mono hm) h3 (h4.mono hm) h5 (h6.mono hm) h7 (h8.mono hm) h9 ih h11 h12
theorem RowT.lt {w : World} {a : Option Addr} {n c : Nat} {K : Nat → TV} (h : RowT w a n c K) : InB (fun b => b < w.heap.size) a n := by
 by_cases h0 : n = 0
 ·exact .inl h0
 ·rcases h.2.2.2 with h4 | ⟨b, o, rfl, h4⟩
  ·exact absurd h4 h0
  ·refine .inr fun b' o' s e => ?_
   cases e
   exact cA (h4 0 (by omega) 0 _ rfl)
theorem RdT.there {ok : Nat → Prop} {w : World} {v : TV} {t : Tg} (h : RdT ok w v t) : RdT (fun b => ok b ∧ b < w.heap.size) w v t := by
 induction h with
 | mk v da ks ll hl K h1 h2 h3 h4 h5 h6 h7 h8 h9 h10 h11 h12 ih => exact .mk v da ks ll hl K h1 (h2.both h1.inB) h3 (h4.both h3.inB) h5 (h6.both h5.inB) h7 (h8.both h7.lt) h9 ih h11 h12
theorem RdT.after {ok : Nat → Prop} {w w' : World} {v : TV} {t : Tg} (h : RdT ok w v t) (hb : Below w.heap.size w w') : RdT ok w' v t :=
 (h.there.keep fun b hb' => hb.block b hb'.2).mono fun _ h => h.1
theorem RowT.after {w w' : World} {a : Option Addr} {n c : Nat} {K : Nat → TV} (h : RowT w a n c K) (hb : Below w.heap.size w w') : RowT w' a n c K :=
 h.keep (h.lt.imp id fun h b o s e => hb.block b (h b o s e))
theorem RowT.range {w : World} {a : Option Addr} {n c : Nat} {K : Nat → TV} (h : RowT w a n c K) {i : Nat} (hi : i < n) :
  ∃ b o, a = some ⟨b, o, none⟩ ∧ w.rangeAt b (o + i * 10) (K i).cells.toList := by
 rcases h.2.2.2 with h4 | ⟨b, o, rfl, h4⟩
 ·omega
 ·exact ⟨b, o, rfl, fun j v hv => h4 i hi j v (by simpa using hv)⟩
theorem RowT.rangeA {w : World} {b o n c : Nat} {K : Nat → TV} (h : RowT w (some ⟨b, o, none⟩) n c K) {i : Nat} (hi : i < n) : w.rangeAt b (o + i * 10) (K i).cells.toList := by
 obtain ⟨b', o', e, h⟩ := h.range hi
 cases e
 exact h
theorem xm : Tryz.prog.cellsOf 23 = 1 ∧ Tryz.prog.cellsOf 29 = 10 := ⟨by kernel_rfl, by kernel_rfl⟩
theorem cD {ops : Array Oper} {rest : List Oper} {o : Oper} {a : Act} {w : World} {Q : Exit → Act → World → Prop} (dR : o.guard = none) (x : Operand) (ho : o.op = .load 29 x)
  (b k : Nat) (hx : a.eval x = .pointer (some ⟨b, k, none⟩)) (v : TV) (hc : w.rangeAt b k v.cells.toList) (h : wpList Tryz.prog ops Q rest (a.put o.dst v.val) w) : wpList Tryz.prog ops Q (o :: rest) a w :=
 wpList_load_mid dR 29 x ho b k hx _ _ hc Tryz.underlying29 rfl (by kernel_rfl) h
theorem mD {H : Type} : ∀ (l : List (DataW H × List MemPlace)) (g : Nat → Tg), (∀ i (h : i < l.length), (g i).count ≤ Rows.uptoBulk l[i].1) → Tg.countL ((List.range l.length).map g) ≤ Rows.uptoBulkAll (l.map (·.1))
 | [], _, _ => by simp [Tg.countL]
 | x :: r, g, h => by
  rw [List.length_cons, List.range_succ_eq_map, List.map_cons, List.map_map]
  simp only [Tg.countL, List.map_cons, Rows.uptoBulkAll]
  have h0 := h 0 (by simp)
  have := mD r (g ∘ Nat.succ) (fun i hi => by have := h (i + 1) (by simpa using hi); simpa using this)
  simp only [List.getElem_cons_zero] at h0
  omega
section
variable {H : Type} {enc : TypeId × Value → H} {W : World} {fb : Bool}
theorem v5 {fuel : Nat} {c0 c1 c2 c3 c4 c5 c6 : Value} {x : DataW H × List MemPlace} (h : DataW.trod enc Tryz.prog W 0 (fun _ => true) fb fuel 27 [c0, c1, c2, c3, c4, c5, c6] = some x) :
  ∃ (o : Nat) (li lo : Bool) (la : Option Addr) (ln lc : Nat) (ll : List UInt8) (hi ho : Bool) (ha : Option Addr) (hn hc : Nat) (hl : List UInt8),
   c0 = .int .u8 o ∧ c1 = .bool li ∧ c2 = .bool lo ∧ c3 = .slice la ln lc ∧ c4 = .bool hi ∧ c5 = .bool ho ∧ c6 = .slice ha hn hc ∧ o < 256 ∧ Sl W la ln lc ll ∧ Sl W ha hn hc hl := by
 obtain ⟨k1, k2, k3, k4, k5⟩ := iP
 obtain ⟨xs, m, _, _, _, hl, hg⟩ := DataW.trod_struct Tryz.underlying27 h
 match xs, hl with
 | [y0, y1, y2], _ =>
  have h0 : DataW.trod enc Tryz.prog W 0 (fun _ => true) fb m 5 (([c0, c1, c2, c3, c4, c5, c6].drop 0).take (Tryz.prog.cellsOf 5)) = some y0 := hg 0 _ rfl
  have h1 : DataW.trod enc Tryz.prog W 0 (fun _ => true) fb m 25 (([c0, c1, c2, c3, c4, c5, c6].drop 1).take (Tryz.prog.cellsOf 25)) = some y1 := hg 1 _ rfl
  have h2 : DataW.trod enc Tryz.prog W 0 (fun _ => true) fb m 25 (([c0, c1, c2, c3, c4, c5, c6].drop 4).take (Tryz.prog.cellsOf 25)) = some y2 := hg 2 _ rfl
  rw [k2] at h0
  rw [k4] at h1 h2
  obtain ⟨z, e0, _, hz⟩ := DataW.trod_int Tryz.underlying5 h0
  obtain ⟨li, lo, la, ln, lc, zl, rfl, rfl, rfl, hl⟩ := sG h1
  obtain ⟨hi, ho, ha, hn, hc, zh, rfl, rfl, rfl, hh⟩ := sG h2
  obtain ⟨ll, sl⟩ := hl.sl
  obtain ⟨hl', sh⟩ := hh.sl
  have e0' : c0 = .int .u8 z := by simpa [Value.cells] using e0
  have hz' : 0 ≤ z ∧ z < 256 := by simp [Lit.wf, IntKind.min, IntKind.max, IntKind.bits, IntKind.signed] at hz; omega
  obtain ⟨o, rfl⟩ : ∃ o : Nat, z = o := ⟨z.toNat, by omega⟩
  subst e0'
  exact ⟨o, li, lo, la, ln, lc, ll, hi, ho, ha, hn, hc, hl', rfl, rfl, rfl, rfl, rfl, rfl, rfl, by omega, sl, sh⟩
theorem vY : ∀ (fuel : Nat) (cs : List Value) (x : DataW H × List MemPlace), DataW.trod enc Tryz.prog W 0 (fun _ => true) fb fuel 29 cs = some x →
  ∃ (v : TV) (t : Tg), cs = v.cells.toList ∧ RdT (fun _ => True) W v t ∧ t.count ≤ Rows.uptoBulk x.1 := by
 intro fuel
 induction fuel using Nat.strongRecOn with
 | _ fuel ih =>
  intro cs x h
  obtain ⟨k1, k2, k3, k4, k5⟩ := iP
  obtain ⟨m1, m2⟩ := xm
  obtain ⟨xs, n, hf, rfl, hl, Bv, hg⟩ := DataW.trod_struct Tryz.underlying29 h
  rw [m2] at hl
  match cs, hl with
  | [c0, c1, c2, c3, c4, c5, c6, c7, c8, c9], _ =>
   match xs, Bv with
   | [y0, y1, y2, y3], _ =>
    have h0 : DataW.trod enc Tryz.prog W 0 (fun _ => true) fb n 5 (([c0, c1, c2, c3, c4, c5, c6, c7, c8, c9].drop 0).take (Tryz.prog.cellsOf 5)) = some y0 := hg 0 _ rfl
    have h1 : DataW.trod enc Tryz.prog W 0 (fun _ => true) fb n 22 (([c0, c1, c2, c3, c4, c5, c6, c7, c8, c9].drop 1).take (Tryz.prog.cellsOf 22)) = some y1 := hg 1 _ rfl
    have h2 : DataW.trod enc Tryz.prog W 0 (fun _ => true) fb n 23 (([c0, c1, c2, c3, c4, c5, c6, c7, c8, c9].drop 2).take (Tryz.prog.cellsOf 23)) = some y2 := hg 2 _ rfl
    have h3 : DataW.trod enc Tryz.prog W 0 (fun _ => true) fb n 27 (([c0, c1, c2, c3, c4, c5, c6, c7, c8, c9].drop 3).take (Tryz.prog.cellsOf 27)) = some y3 := hg 3 _ rfl
    rw [k2] at h0
    rw [k3] at h1
    rw [m1] at h2
    rw [k5] at h3
    obtain ⟨kd, e0, _, cH⟩ := DataW.trod_int Tryz.underlying5 h0
    obtain ⟨a1, n1, q1, l1, e1, s1⟩ := l8 h1
    obtain ⟨o, li, lo, la, ln, lc, ll, hi, ho, ha, hn, hc, hl', rfl, rfl, rfl, rfl, rfl, rfl, rfl, fF, sl, sh⟩ := v5 h3
    have e0' : c0 = .int .u8 kd := by simpa using e0
    have e1' : c1 = .slice a1 n1 q1 := by simpa using e1
    subst e0' e1'
    have hkd' : 0 ≤ kd ∧ kd < 256 := by
     simp [Lit.wf, IntKind.min, IntKind.max, IntKind.bits, IntKind.signed] at cH
     omega
    obtain ⟨kn, rfl⟩ : ∃ m : Nat, kd = (m : Int) := ⟨kd.toNat, by omega⟩
    have Dw : kn < 256 := by omega
    rcases DataW.trod_slice Tryz.underlying23 h2 with ⟨e4, rfl⟩ | ⟨a, len, cap, elems, rest, m, hm, e4, rfl, _, AG, ea, EC, EK, _, _⟩
    ·have e4' : c2 = .slice none 0 0 := by simpa using e4
     subst e4'
     refine ⟨⟨kn, a1, n1, q1, none, 0, 0, o, li, lo, la, ln, lc, hi, ho, ha, hn, hc⟩, .mk kn l1 [] ⟨o, ⟨li, lo, ll⟩, ⟨hi, ho, hl'⟩⟩, rfl, .mk _ l1 [] ll hl' (fun _ => TV.nil) s1 (.inr fun _ _ _ _ => trivial) sl (.inr fun _ _ _ _ => trivial) sh (.inr fun _ _ _ _ => trivial) ⟨Nat.le_refl _, Nat.zero_le _, fun _ => rfl, .inl rfl⟩ (.inl rfl) rfl (fun i hi => by cases hi) Dw fF, ?_⟩
     simp only [Tg.count, Tg.countL, Rows.uptoBulk]
     omega
    ·have e4' : c2 = .slice (some a) len cap := by simpa using e4
     subst e4'
     have key : ∀ i, i < len → ∃ p : TV × Tg, (∃ he : i < elems.length, p.2.count ≤ Rows.uptoBulk elems[i].1) ∧ W.cells? 0 (a.add (i * 10)) 10 = some p.1.cells.toList ∧ RdT (fun _ => True) W p.1 p.2 := fun i hi => by
      have hi' : i < elems.length := by omega
      have h5 := EK i hi
      rw [m2, List.getElem?_eq_getElem hi'] at h5
      obtain ⟨cs', o7, zL⟩ := Option.bind_eq_some_iff.1 h5
      obtain ⟨v, s, rfl, kD, Ef⟩ := ih m (by omega) cs' _ zL
      exact ⟨(v, s), ⟨hi', Ef⟩, o7, kD⟩
     haveI : Inhabited (TV × Tg) := ⟨(TV.nil, default)⟩
     obtain ⟨f, hf'⟩ := Go.Deep.choose_lt key
     obtain ⟨b, oo, spot⟩ := a
     have jW : ∀ i, i < len → ∀ j u, (f i).1.cells[j]? = some u → W.cell? (((⟨b, oo, spot⟩ : Addr).add (i * 10)).add j) = some u := fun i hi j u hu => by
      have h6 := (hf' i hi).2.1
      unfold World.cells? at h6
      rw [if_pos (Nat.zero_le _)] at h6
      have hj : j < 10 := by have := (Array.getElem?_eq_some_iff.1 hu).1; rwa [TV.cells_size] at this
      have h7 := mapM_some_get h6 j j (by simp [hj])
      rw [h7]
      simpa using hu
     have DY : len = 0 ∨ spot = none := by
      by_cases h0' : len = 0
      ·exact .inl h0'
      ·right
       have := World.cell?_spot (jW 0 (by omega) 0 _ rfl)
       simpa [Addr.add] using this
     refine ⟨⟨kn, a1, n1, q1, some ⟨b, oo, spot⟩, len, cap, o, li, lo, la, ln, lc, hi, ho, ha, hn, hc⟩, .mk kn l1 ((List.range len).map fun i => (f i).2) ⟨o, ⟨li, lo, ll⟩, ⟨hi, ho, hl'⟩⟩, rfl,
      .mk _ l1 _ ll hl' (fun i => (f i).1) s1 (.inr fun _ _ _ _ => trivial) sl (.inr fun _ _ _ _ => trivial) sh (.inr fun _ _ _ _ => trivial) ⟨AG, ea, (fun h => by cases h), ?_⟩ (.inr fun _ _ _ _ => trivial) (by simp) (fun i hi => ?_) Dw fF, ?_⟩
     ·rcases DY with h0' | rfl
      ·exact .inl h0'
      ·refine .inr ⟨b, oo, rfl, fun i hi j u hu => ?_⟩
       have := jW i hi j u hu
       rwa [Addr.add_mid, Addr.add_mid] at this
     ·have hi' : i < len := by simpa using hi
      have := (hf' i hi').2.2
      simpa using this
     ·have := mD elems (fun i => (f i).2) (fun i hi => (hf' i (by omega)).1.2)
      rw [EC] at this
      simp only [Tg.count, Rows.uptoBulk, Rows.uptoBulkAll, List.map_cons, List.map_nil]
      omega
theorem open_tg {r : Reach} {b0 : Nat} {v : Value} {d : DataW H} {p : List MemPlace} (hv : Value.okWide Tryz.prog W r b0 29 v) (h : DataW.Trod enc Tryz.prog W 0 (fun _ => true) fb 29 v d p) :
  ∃ (u : TV) (t : Tg), v = u.val ∧ RdT (fun _ => True) W u t ∧ t.count ≤ Rows.uptoBulk d := by
 obtain ⟨cs, rfl, mM⟩ := okWide_struct Tryz.underlying29 hv
 obtain ⟨fuel, hf⟩ := h
 obtain ⟨u, t, e, hr, hn⟩ := vY fuel _ _ hf
 refine ⟨u, t, ?_, hr, hn⟩
 have : cs = u.cells := by
  apply Array.ext'
  simpa [Value.cells] using e
 rw [this]
 rfl
end
end
section
def oneK (u : SV) : Nat → SV := fun _ => u
def threeK (u v z : SV) : Nat → SV
 | 0 => u
 | 1 => v
 | _ => z
def ValI (ok : Nat → Prop) (s : Sx) (w : World) (e : Ending) (w' : World) : Prop := ∃ v, e = .returned v.val ∧ RdI ok w' v s ∧ Below w.heap.size w w'
theorem cG (ok : Nat → Prop) (s : ByteArray) (hs : s.size ≤ 140737488355328) (w : World) (ml : ∀ b, w.heap.size ≤ b → ok b) : Calls Tryz.prog 71 #[.string s] w (ValI ok (.mk false false [] s.data.toList []) w) := by
 have au : Below w.heap.size w (w.alloc (.cells SV.nil.cells 32)) := (Below.refl _ _).alloc (Nat.le_refl _) _
 have X0 := Box.new w 32 SV.nil.cells
 go_enter Tryz.func71, Tryz.ntmps71
 go_upto_region 1 with fail
 change Code.wp _ _ _ _ (w.alloc (.cells SV.nil.cells 32))
 generalize w.alloc (.cells SV.nil.cells 32) = v0 at *
 obtain ⟨v, v1, hr, ho, af⟩ := ip v0 s hs
 obtain ⟨a, c, rfl, hsl⟩ := ho.sl
 have iX : ∀ b o s, a = some ⟨b, o, s⟩ → v0.heap.size ≤ b := fun b o s e => by subst e; exact (ho.own b rfl).1
 have X1 := I5 (X0.after af)
 have HS := I5 hsl
 have ux := au.trans (af.mono au.size)
 have hz := X0.lt
 have mM := au.size
 obtain ⟨n, hn⟩ : ∃ n, n = s.data.toList.length := ⟨_, rfl⟩
 rw [← hn] at hr HS
 have Dd := I5 iX
 clear X0 ho hsl af au hn iX
 go_wp2_with (refine ac (cells := (SV.mk false false none 0 0 a n c none 0 0).cells) rfl 32 _ _ rfl X1.out (by rfl) (by rfl) rfl (by kernel_rfl) (SV.one _) ?_; intro v2 X2 st2)
 have mO := st2.below w.heap.size w (Nat.le_refl _) ux
 have Az := HS.out.keep (w' := v2) (.inr fun b o s e => st2.other b (by have := Dd.out b o s e; omega))
 exact bodyPost_ret (v := (SV.mk false false none 0 0 a n c none 0 0).val) (ae rfl _ _ (by rfl) X2 Tryz.underlying32 rfl (by kernel_rfl)) rfl ⟨_, rfl, de Az (.inr fun b o s e => ml b (by have := Dd.out b o s e; have := mM; omega)), mO⟩
theorem gh (ok : Nat → Prop) (a : Option Addr) (n c : Nat) (K : Nat → SV) (ks : List Sx) (w : World) (hr : RowAt w a n c K) (hn : n ≤ 1000) (i9 : n = ks.length) (hk : ∀ i (hi : i < ks.length), RdI ok w (K i) ks[i]) (ml : ∀ b, w.heap.size ≤ b → ok b) : Calls Tryz.prog 70 #[.slice a n c] w (ValI ok (.mk true false [] [] ks) w) := by
 have au : Below w.heap.size w (w.alloc (.cells SV.nil.cells 32)) := (Below.refl _ _).alloc (Nat.le_refl _) _
 have X0 := Box.new w 32 SV.nil.cells
 have HR := I5 hr
 have HK := I5 hk
 have HN := I5 i9
 clear hr hk i9
 go_enter Tryz.func70, Tryz.ntmps70
 go_upto_region 1 with fail
 change Code.wp _ _ _ _ (w.alloc (.cells SV.nil.cells 32))
 generalize w.alloc (.cells SV.nil.cells 32) = v0 at *
 go_wp2_with fail
 refine (sf a n c K v0 (HR.out.after au) hn).mono ?_
 rintro e v1 ⟨a', c', rfl, ah, jb, af⟩
 have X1 := I5 (X0.after af)
 have HS := I5 ah
 have HI := I5 jb
 have ux := au.trans (af.mono au.size)
 have hz := X0.lt
 have mM := au.size
 clear X0 ah jb af au
 go_wp2_with (refine ac (cells := (SV.mk true false none 0 0 none 0 0 a' n c').cells) rfl 32 _ _ rfl X1.out (by rfl) (by rfl) rfl (by kernel_rfl) (SV.one _) ?_; intro v2 X2 st2)
 have mO := st2.below w.heap.size w (Nat.le_refl _) ux
 have gi := HS.out.keep (w' := v2) (HI.out.imp id fun h b o s e => st2.other b (by have := h b o s e; omega))
 exact bodyPost_ret (v := (SV.mk true false none 0 0 none 0 0 a' n c').val) (ae rfl _ _ (by rfl) X2 Tryz.underlying32 rfl (by kernel_rfl)) rfl ⟨_, rfl, gL gi (HI.out.imp id fun h b o s e => ml b (by have := h b o s e; have := mM; omega)) HN.out (fun i hi => (HK.out i hi).after mO), mO⟩
theorem sB (w : World) (u : SV) (T : TypeId) : RowAt (w.alloc (.cells #[.bool u.l, .bool u.h, .slice u.a1 u.n1 u.c1, .slice u.a2 u.n2 u.c2, .slice u.a3 u.n3 u.c3] T)) (some ⟨w.heap.size, 0, none⟩) 1 1 (oneK u) := by
 refine ⟨Nat.le_refl _, by unfold maxLen; omega, (fun h => by cases h), .inr ⟨_, 0, rfl, fun i hi j x hx => ?_⟩⟩
 have hb := Box.new w T #[.bool u.l, .bool u.h, .slice u.a1 u.n1 u.c1, .slice u.a2 u.n2 u.c2, .slice u.a3 u.n3 u.c3]
 rw [Nat.zero_add]
 have hj : j < 5 := by
  have := (Array.getElem?_eq_some_iff.1 hx).1
  rwa [SV.cells_size] at this
 refine hb.cell (i * 5 + j) ?_
 match i, hi, j, hj with
 | 0, _, 0, _ => exact hx
 | 0, _, 1, _ => exact hx
 | 0, _, 2, _ => exact hx
 | 0, _, 3, _ => exact hx
 | 0, _, 4, _ => exact hx
theorem nt (w : World) (u v z : SV) (T : TypeId) : RowAt (w.alloc (.cells #[.bool u.l, .bool u.h, .slice u.a1 u.n1 u.c1, .slice u.a2 u.n2 u.c2, .slice u.a3 u.n3 u.c3, .bool v.l, .bool v.h, .slice v.a1 v.n1 v.c1, .slice v.a2 v.n2 v.c2, .slice v.a3 v.n3 v.c3, .bool z.l, .bool z.h, .slice z.a1 z.n1 z.c1, .slice z.a2 z.n2 z.c2, .slice z.a3 z.n3 z.c3] T)) (some ⟨w.heap.size, 0, none⟩) 3 3 (threeK u v z) := by
 refine ⟨Nat.le_refl _, by unfold maxLen; omega, (fun h => by cases h), .inr ⟨_, 0, rfl, fun i hi j x hx => ?_⟩⟩
 have hb := Box.new w T #[.bool u.l, .bool u.h, .slice u.a1 u.n1 u.c1, .slice u.a2 u.n2 u.c2, .slice u.a3 u.n3 u.c3, .bool v.l, .bool v.h, .slice v.a1 v.n1 v.c1, .slice v.a2 v.n2 v.c2, .slice v.a3 v.n3 v.c3, .bool z.l, .bool z.h, .slice z.a1 z.n1 z.c1, .slice z.a2 z.n2 z.c2, .slice z.a3 z.n3 z.c3]
 rw [Nat.zero_add]
 have hj : j < 5 := by
  have := (Array.getElem?_eq_some_iff.1 hx).1
  rwa [SV.cells_size] at this
 refine hb.cell (i * 5 + j) ?_
 match i, hi, j, hj with
 | 0, _, 0, _ => exact hx
 | 0, _, 1, _ => exact hx
 | 0, _, 2, _ => exact hx
 | 0, _, 3, _ => exact hx
 | 0, _, 4, _ => exact hx
 | 1, _, 0, _ => exact hx
 | 1, _, 1, _ => exact hx
 | 1, _, 2, _ => exact hx
 | 1, _, 3, _ => exact hx
 | 1, _, 4, _ => exact hx
 | 2, _, 0, _ => exact hx
 | 2, _, 1, _ => exact hx
 | 2, _, 2, _ => exact hx
 | 2, _, 3, _ => exact hx
 | 2, _, 4, _ => exact hx
section
variable {P : Program} {md : Region.Mode} {ops : Array Oper} {Q : Exit → Act → World → Prop} {S : World → Prop}
end
section
variable {P : Program} {ops : Array Oper}
theorem ai {rest : List Oper} {op : Oper} {a : Act} {w : World} {Q : Exit → Act → World → Prop} (dR : Region.wanted op (yielded ops a.tmps) = true) (ty : TypeId) (x : Operand) (ho : op.op = .load ty x)
  (b o : Nat) (hx : a.eval x = .pointer (some ⟨b, o, none⟩)) (cs : List Value) (d : TypeDesc) (hc : w.rangeAt b o cs)
  (hu : P.underlying ty = some d) (hd : d.isRow = true) (hi : (P.info? ty).map (·.size) = some cs.length)
  (h : wpList P ops Q rest (a.put op.dst (.agg cs.toArray)) w) : wpList P ops Q (op :: rest) a w :=
 gX dR fun _ hK => wp_load_mid ty x ho b o hx cs d hc hu hd hi (hK _ _ h)
end
def isB (s : Sx) (t : ByteArray) : Bool := !s.l && (!s.h && (s.da == t.toList))
def headB (s : Sx) (t : ByteArray) : Bool := s.l && (match s.ks with | [] => false | k :: _ => isB k t)
theorem qZ (s : Sx) (t : ByteArray) (v : SV) (w : World) (hr : Rd w v s) : Calls Tryz.prog 110 #[v.val, .string t] w fun e w' => e = .returned (.bool (isB s t)) ∧ Below w.heap.size w w' := by
 obtain ⟨l, hh, hi, da, ks⟩ := s
 obtain ⟨e1, e2, _, hs, Ck⟩ := hr.parts
 obtain ⟨vl, vh, aw, ap, av, aA, aS, az, cM, dO, cz⟩ := v
 replace e1 : vl = l := e1
 replace e2 : vh = hh := e2
 subst e1 e2
 replace hs : Sl w aA aS az da := hs
 rw [show isB (.mk vl vh hi da ks) t = (!vl && (!vh && (da == t.toList))) from rfl]
 unfold SV.val
 have B0 : Below w.heap.size w (w.alloc (.cells #[.bool vl, .bool vh, .slice aw ap av, .slice aA aS az, .slice cM dO cz] 32)) := (Below.refl _ _).alloc (Nat.le_refl _) _
 have X0 := Box.new w 32 #[.bool vl, .bool vh, .slice aw ap av, .slice aA aS az, .slice cM dO cz]
 have EE := bv (hs.after B0)
 have x0 := X0.cell 0 rfl
 have x1 := X0.cell 1 rfl
 have x3 := X0.cell 3 rfl
 clear X0 hs hr Ck
 show Calls _ _ #[.agg #[.bool vl, .bool vh, .slice aw ap av, .slice aA aS az, .slice cM dO cz], _] _ _
 cases vl with
 | true =>
  go_enter Tryz.func110, Tryz.ntmps110
  go_wp2_with fail
  go_ret
  exact ⟨rfl, B0⟩
 | false =>
  cases vh with
  | true =>
   go_enter Tryz.func110, Tryz.ntmps110
   go_wp2_with fail
   go_ret
   exact ⟨rfl, B0⟩
  | false =>
   go_enter Tryz.func110, Tryz.ntmps110
   go_wp2_with fail
   go_ret
   exact ⟨by simp, B0⟩
theorem pK (s : Sx) (t : ByteArray) (v : SV) (w : World) (hr : Rd w v s) : Calls Tryz.prog 80 #[v.val, .string t] w fun e w' => e = .returned (.bool (headB s t)) ∧ Below w.heap.size w w' := by
 obtain ⟨l, hh, hi, da, ks⟩ := s
 obtain ⟨e1, e2, _, _, hn, ie, ea, K, ah, hk⟩ := hr.parts
 obtain ⟨vl, vh, aw, ap, av, aA, aS, az, cM, dO, cz⟩ := v
 replace e1 : vl = l := e1
 subst e1
 replace hn : dO = ks.length := hn
 replace ie : dO ≤ cz := ie
 replace ea : cz ≤ maxLen := ea
 unfold maxLen at ea
 replace hk : ∀ i (hi : i < ks.length), Rd w (K i) ks[i] := hk
 replace ah : RowAt w cM dO cz K := ah
 unfold SV.val
 have B0 : Below w.heap.size w (w.alloc (.cells #[.bool vl, .bool vh, .slice aw ap av, .slice aA aS az, .slice cM dO cz] 32)) := (Below.refl _ _).alloc (Nat.le_refl _) _
 have X0 := Box.new w 32 #[.bool vl, .bool vh, .slice aw ap av, .slice aA aS az, .slice cM dO cz]
 have x0 := X0.cell 0 rfl
 have x4 := X0.cell 4 rfl
 show Calls _ _ #[.agg #[.bool vl, .bool vh, .slice aw ap av, .slice aA aS az, .slice cM dO cz], _] _ _
 have HN := I5 hn
 clear X0 hr e2 hn
 cases vl with
 | false =>
  rw [show headB (.mk false hh hi da ks) t = false from rfl]
  go_enter Tryz.func80, Tryz.ntmps80
  go_wp2_with fail
  go_ret
  exact ⟨rfl, B0⟩
 | true =>
  cases ks with
  | nil =>
   rw [show headB (.mk true hh hi da []) t = false from rfl]
   have hn : dO = 0 := HN.out
   subst hn
   go_enter Tryz.func80, Tryz.ntmps80
   go_wp2_with fail
   go_ret
   exact ⟨rfl, B0⟩
  | cons k ks =>
   rw [show headB (.mk true hh hi da (k :: ks)) t = isB k t from rfl]
   have C := I5 (fun w' h => qZ k t (K 0) w' h)
   obtain ⟨r, hr⟩ : ∃ r, r = isB k t := ⟨_, rfl⟩
   rw [← hr]
   simp only [← hr] at C
   clear hr
   have aJ : 0 < dO := by rw [HN.out]; simp
   obtain ⟨b, o, rfl, a8⟩ := (ah.after B0).range aJ
   rw [Nat.zero_mul, Nat.add_zero] at a8
   have HL := I5 a8
   have HK := I5 ((hk 0 (by simp)).after B0)
   have IZ := I5 aJ
   have hz : (0 : Int) < dO := by omega
   clear a8 ah hk
   go_enter Tryz.func80, Tryz.ntmps80
   go_wp2_with (refine ai rfl 32 _ rfl b _ rfl _ _ HL.out Tryz.underlying32 rfl (by kernel_rfl) ?_)
   refine (C.out _ HK.out).mono ?_
   rintro e w1 ⟨rfl, af⟩
   have B1 := B0.trans (af.mono B0.size)
   clear af B0 HL HK C
   go_wp2_with fail
   go_ret
   exact ⟨by simp, B1⟩
def okO (p : Nat → Prop) (v : Value) : Nat → Prop := fun b => p b ∧ v.ownBlock ≠ some b
theorem xM (w : World) (v : SV) : Src Tryz.prog 5 30 (.slice (some ⟨w.heap.size, 0, none⟩) 1 1) 1 (newsK (fun _ => v) 1) (w.alloc (.cells v.cells 32)) := by
 refine Src.ofSlice _ Tryz.underlying30 _ 1 1 _ (dQ _ 1) (fun j u hu => ?_) (ge _ 1)
 rw [Addr.add_mid]
 refine (Box.new w 32 v.cells).cell (0 + j) ?_
 rw [Nat.zero_add]
 simpa [newsK] using hu
theorem iJ (K : Nat → SV) (n : Nat) (v : SV) : newsK K n ++ newsK (fun _ => v) 1 = newsK (fun i => if i = n then v else K i) (n + 1) := by
 have e : newsK (fun i => if i = n then v else K i) n = newsK K n := hJ fun i h => if_neg (by omega)
 show newsK K n ++ ([] ++ v.cells.toList) = newsK _ n ++ (if n = n then v else K n).cells.toList
 rw [e, if_pos rfl, List.nil_append]
theorem RdI.grew {p : Nat → Prop} {own v' : Value} {u w2 : World} {v : SV} {s : Sx} (h : RdI (okO p own) u v s) (hg : u.grownBy w2 own.ownBlock) (hw : ∀ k, v'.ownBlock = some k → own.ownBlock = some k ∨ u.heap.size ≤ k) : RdI (okO p v') w2 v s :=
 (h.there.keep (fun k hk => hg.block k hk.2 (fun e => hk.1.2 e.symm))).mono (fun k hk => ⟨hk.1.1, fun e => (hw k e).elim (fun e => hk.1.2 e) (fun e => by have := hk.2; omega)⟩)
theorem iA {p : Nat → Prop} {n : Nat} {own v' : Value} {u w2 : World} {K : Nat → SV} {acc : List Sx} {v : SV} {s : Sx} (hn : n = acc.length)
  (hK : ∀ i (hi : i < acc.length), RdI (okO p own) u (K i) acc[i]) (hR : RdI (okO p own) u v s)
  (hg : u.grownBy w2 own.ownBlock) (hw : ∀ k, v'.ownBlock = some k → own.ownBlock = some k ∨ u.heap.size ≤ k) :
  ∀ i (hi : i < (acc ++ [s]).length), RdI (okO p v') w2 (if i = n then v else K i) (acc ++ [s])[i] := by
 intro i hi
 by_cases m5 : i = n
 ·rw [if_pos m5]
  have e : (acc ++ [s])[i] = s := by
   subst m5 hn
   simp
  rw [e]
  exact hR.grew hg hw
 ·rw [if_neg m5]
  have aJ : i < acc.length := by simp at hi; omega
  rw [List.getElem_append_left aJ]
  exact (hK i aJ).grew hg hw
section
variable {P : Program} {ops : Array Oper}
end
theorem bX {w w' : World} {B n z : Nat} {v : Value} {xs : List Value} (B0 : Nat) (hB : B0 ≤ B) (hW : B0 ≤ w.heap.size) (h : OwnG w B z v n xs) (hg : w.grownBy w' v.ownBlock) {W : World} (hb : Below B0 W w) : Below B0 W w' := hb.grown hg hW (fun k hk => by have := (h.lt k hk).1; omega)
theorem bA (ok : Nat → Prop) (s : ByteArray) (hs : s.size ≤ 140737488355328) (w : World) (ml : ∀ b, w.heap.size ≤ b → ok b) : Calls Tryz.prog 47 #[.string s] w (ValI ok (.mk false false [] s.data.toList []) w) := by
 have au : Below w.heap.size w (w.alloc (.cells SV.nil.cells 32)) := (Below.refl _ _).alloc (Nat.le_refl _) _
 have X0 := Box.new w 32 SV.nil.cells
 go_enter Tryz.func47, Tryz.ntmps47
 go_upto_region 1 with fail
 change Code.wp _ _ _ _ (w.alloc (.cells SV.nil.cells 32))
 generalize w.alloc (.cells SV.nil.cells 32) = v0 at *
 obtain ⟨v, v1, hr, ho, af⟩ := ip v0 s hs
 obtain ⟨a, c, rfl, hsl⟩ := ho.sl
 have iX : ∀ b o s, a = some ⟨b, o, s⟩ → v0.heap.size ≤ b := fun b o s e => by subst e; exact (ho.own b rfl).1
 have X1 := I5 (X0.after af)
 have HS := I5 hsl
 have ux := au.trans (af.mono au.size)
 have hz := X0.lt
 have mM := au.size
 obtain ⟨n, hn⟩ : ∃ n, n = s.data.toList.length := ⟨_, rfl⟩
 rw [← hn] at hr HS
 have Dd := I5 iX
 clear X0 ho hsl af au hn iX
 go_wp2_with (refine ac (cells := (SV.mk false false none 0 0 a n c none 0 0).cells) rfl 32 _ _ rfl X1.out (by rfl) (by rfl) rfl (by kernel_rfl) (SV.one _) ?_; intro v2 X2 st2)
 have mO := st2.below w.heap.size w (Nat.le_refl _) ux
 have Az := HS.out.keep (w' := v2) (.inr fun b o s e => st2.other b (by have := Dd.out b o s e; omega))
 exact bodyPost_ret (v := (SV.mk false false none 0 0 a n c none 0 0).val) (ae rfl _ _ (by rfl) X2 Tryz.underlying32 rfl (by kernel_rfl)) rfl ⟨_, rfl, de Az (.inr fun b o s e => ml b (by have := Dd.out b o s e; have := mM; omega)), mO⟩
theorem cJ {P : Program} {w : World} (t e : TypeId) (n : Nat) (cs : Array Value) (k : IntKind) (i : Nat) (v : Value) (h : P.underlying t = some (.array n e)) (hi : i < n) (hv : cs[i]? = some v) (hz : (sizeOf e).run P w = .ok 1 w) (hp : (isAgg e).run P w = .ok false w) :
  (Instr.index t (.agg cs) (.int k i)).run P w = .ok v w := by
 simp [Instr.index, run_underlying h, asIntOf, go_sem, hi, hz, hp, hv]
end
end Go.Proofs.YtmmkaclmgnpplaaGreatDoor

/- Subjects: as trees, and as they lie in memory. -/
import Derived.Test.YthmigigclmogiaaDoorSuG6
namespace Go.Proofs.YthmigigclmogiaaDoor
open Go.RowKit Go.ChangeShapes Go.WideShapes Go.ChangeAt
set_option linter.unusedSimpArgs false
set_option linter.unusedVariables false

/-- a subject: its kind, its key (a sum?, bytes), names, threshold, parts -/
inductive Sj where
  | mk (kd : Nat) (s : Bool) (da : List UInt8) (ns : List (List UInt8)) (k : Int) (ks : List Sj)
instance : Inhabited Sj := ⟨.mk 0 false [] [] 0 []⟩
def Sj.kd : Sj → Nat | .mk x _ _ _ _ _ => x
def Sj.s : Sj → Bool | .mk _ x _ _ _ _ => x
def Sj.da : Sj → List UInt8 | .mk _ _ x _ _ _ => x
def Sj.ns : Sj → List (List UInt8) | .mk _ _ _ x _ _ => x
def Sj.k : Sj → Int | .mk _ _ _ _ x _ => x
def Sj.ks : Sj → List Sj | .mk _ _ _ _ _ x => x
theorem Sj.ind {p : Sj → Prop} (h : ∀ kd s da ns k ks, (∀ x ∈ ks, p x) → p (.mk kd s da ns k ks)) (x : Sj) : p x :=
  Sj.rec (motive_1 := p) (motive_2 := fun ks => ∀ k ∈ ks, p k) (fun kd s da ns k ks ih => h kd s da ns k ks ih) (fun k hk => by cases hk)
    (fun k ks hk ih j hj => by
      rcases List.mem_cons.1 hj with rfl | hj
      · exact hk
      · exact ih j hj) x
/-- the six cells of a subject -/
structure JV where
  kd : Nat
  s : Bool
  a1 : Option Addr
  n1 : Nat
  c1 : Nat
  a2 : Option Addr
  n2 : Nat
  c2 : Nat
  k : Int
  a3 : Option Addr
  n3 : Nat
  c3 : Nat
def JV.cells (v : JV) : Array Value := #[.int .u8 v.kd, .bool v.s, .slice v.a1 v.n1 v.c1, .slice v.a2 v.n2 v.c2, .int .i64 v.k, .slice v.a3 v.n3 v.c3]
def JV.val (v : JV) : Value := .agg #[.int .u8 v.kd, .bool v.s, .slice v.a1 v.n1 v.c1, .slice v.a2 v.n2 v.c2, .int .i64 v.k, .slice v.a3 v.n3 v.c3]
def JV.nil : JV := ⟨0, false, none, 0, 0, none, 0, 0, 0, none, 0, 0⟩
instance : Inhabited JV := ⟨JV.nil⟩
theorem JV.cells_size (v : JV) : v.cells.size = 6 := rfl
theorem JV.one (v : JV) : v.cells.all (·.oneCell') = true := by simp [JV.cells, Value.oneCell']
/-- a row of subjects -/
def RowJ (w : World) (a : Option Addr) (n c : Nat) (K : Nat → JV) : Prop :=
  n ≤ c ∧ c ≤ maxLen ∧ (a = none → c = 0) ∧ (n = 0 ∨ ∃ b o, a = some ⟨b, o, none⟩ ∧ ∀ i, i < n → ∀ j v, (K i).cells[j]? = some v → w.cell? ⟨b, o + i * 6 + j, none⟩ = some v)
/-- a row of slices of bytes, through blocks that are ok -/
def RowN (ok : Nat → Prop) (w : World) (a : Option Addr) (n c : Nat) (Z : Nat → S3) (ls : List (List UInt8)) : Prop :=
  RowS w a n c Z ls ∧ InB ok a n ∧ ∀ i, i < ls.length → InB ok (Z i).a (Z i).n
/-- a subject reads as a tree, through blocks that are ok -/
inductive RdJ (ok : Nat → Prop) (w : World) : JV → Sj → Prop
  | mk (v : JV) (da : List UInt8) (ns : List (List UInt8)) (ks : List Sj) (Z : Nat → S3) (K : Nat → JV) : Sl w v.a1 v.n1 v.c1 da → InB ok v.a1 v.n1 → RowN ok w v.a2 v.n2 v.c2 Z ns →
      RowJ w v.a3 v.n3 v.c3 K → InB ok v.a3 v.n3 → v.n3 = ks.length → (∀ i (hi : i < ks.length), RdJ ok w (K i) ks[i]) → v.kd < 256 → -9223372036854775808 ≤ v.k → v.k ≤ 9223372036854775807 → RdJ ok w v (.mk v.kd v.s da ns v.k ks)
theorem RdJ.parts {ok : Nat → Prop} {w : World} {v : JV} {s : Sj} (h : RdJ ok w v s) :
    (v.kd = s.kd ∧ v.s = s.s ∧ v.k = s.k ∧ v.kd < 256 ∧ -9223372036854775808 ≤ v.k ∧ v.k ≤ 9223372036854775807) ∧ Sl w v.a1 v.n1 v.c1 s.da ∧ v.n3 = s.ks.length ∧ (∃ Z, RowN ok w v.a2 v.n2 v.c2 Z s.ns) ∧
    ∃ K, RowJ w v.a3 v.n3 v.c3 K ∧ ∀ i (hi : i < s.ks.length), RdJ ok w (K i) s.ks[i] := by
  cases h with
  | mk v da ns ks Z K h1 h2 h3 h4 h5 h6 h7 h8 h9 h10 => exact ⟨⟨rfl, rfl, rfl, h8, h9, h10⟩, h1, h6, ⟨Z, h3⟩, K, h4, h7⟩
theorem RdJ.inb {ok : Nat → Prop} {w : World} {v : JV} {s : Sj} (h : RdJ ok w v s) : InB ok v.a1 v.n1 ∧ InB ok v.a2 v.n2 ∧ InB ok v.a3 v.n3 := by
  cases h with
  | mk v da ns ks Z K h1 h2 h3 h4 h5 h6 h7 => exact ⟨h2, h3.2.1, h5⟩
theorem RowJ.keep {w w' : World} {a : Option Addr} {n c : Nat} {K : Nat → JV} (h : RowJ w a n c K) (hk : n = 0 ∨ ∀ b o s, a = some ⟨b, o, s⟩ → w'.heap[b]? = w.heap[b]?) : RowJ w' a n c K := by
  obtain ⟨h1, h2, h3, h4⟩ := h
  refine ⟨h1, h2, h3, ?_⟩
  rcases h4 with h4 | ⟨b, o, rfl, h4⟩
  · exact .inl h4
  · rcases hk with hk | hk
    · exact .inl hk
    · exact .inr ⟨b, o, rfl, fun i hi j v hv => (World.cell?_of_block (a := ⟨b, o + i * 6 + j, none⟩) (hk b o none rfl)).trans (h4 i hi j v hv)⟩
theorem RowN.keep {ok : Nat → Prop} {w w' : World} {a : Option Addr} {n c : Nat} {Z : Nat → S3} {ls : List (List UInt8)} (h : RowN ok w a n c Z ls) (hk : ∀ b, ok b → w'.heap[b]? = w.heap[b]?) : RowN ok w' a n c Z ls := by
  obtain ⟨⟨h1, h2, h3, h4, h5, h6⟩, h7, h8⟩ := h
  refine ⟨⟨h1, h2, h3, h4, ?_, fun i hi => (h6 i hi).keep ((h8 i hi).heap hk)⟩, h7, h8⟩
  rcases h5 with h5 | ⟨b, o, rfl, h5⟩
  · exact .inl h5
  · rcases h7 with h0 | h0
    · exact .inl h0
    · exact .inr ⟨b, o, rfl, fun i hi => (World.cell?_of_block (a := ⟨b, o + i, none⟩) (hk b (h0 b o none rfl))).trans (h5 i hi)⟩
theorem RdJ.keep {ok : Nat → Prop} {w w' : World} {v : JV} {s : Sj} (h : RdJ ok w v s) (hk : ∀ b, ok b → w'.heap[b]? = w.heap[b]?) : RdJ ok w' v s := by
  induction h with
  | mk v da ns ks Z K h1 h2 h3 h4 h5 h6 h7 h8 h9 h10 ih => exact .mk v da ns ks Z K (h1.keep (h2.heap hk)) h2 (h3.keep hk) (h4.keep (h5.heap hk)) h5 h6 ih h8 h9 h10
theorem RowN.mono {ok ok' : Nat → Prop} {w : World} {a : Option Addr} {n c : Nat} {Z : Nat → S3} {ls : List (List UInt8)} (h : RowN ok w a n c Z ls) (hm : ∀ b, ok b → ok' b) : RowN ok' w a n c Z ls :=
  ⟨h.1, h.2.1.mono hm, fun i hi => (h.2.2 i hi).mono hm⟩
theorem RdJ.mono {ok ok' : Nat → Prop} {w : World} {v : JV} {s : Sj} (h : RdJ ok w v s) (hm : ∀ b, ok b → ok' b) : RdJ ok' w v s := by
  induction h with
  | mk v da ns ks Z K h1 h2 h3 h4 h5 h6 h7 h8 h9 h10 ih => exact .mk v da ns ks Z K h1 (h2.mono hm) (h3.mono hm) h4 (h5.mono hm) h6 ih h8 h9 h10
theorem RowJ.lt {w : World} {a : Option Addr} {n c : Nat} {K : Nat → JV} (h : RowJ w a n c K) : InB (fun b => b < w.heap.size) a n := by
  by_cases h0 : n = 0
  · exact .inl h0
  · rcases h.2.2.2 with h4 | ⟨b, o, rfl, h4⟩
    · exact absurd h4 h0
    · refine .inr fun b' o' s e => ?_
      cases e
      exact cell_lt (h4 0 (by omega) 0 _ rfl)
theorem RowN.there {ok : Nat → Prop} {w : World} {a : Option Addr} {n c : Nat} {Z : Nat → S3} {ls : List (List UInt8)} (h : RowN ok w a n c Z ls) : RowN (fun b => ok b ∧ b < w.heap.size) w a n c Z ls :=
  ⟨h.1, h.2.1.both h.1.lt, fun i hi => (h.2.2 i hi).both (h.1.2.2.2.2.2 i hi).inB⟩
theorem RdJ.there {ok : Nat → Prop} {w : World} {v : JV} {s : Sj} (h : RdJ ok w v s) : RdJ (fun b => ok b ∧ b < w.heap.size) w v s := by
  induction h with
  | mk v da ns ks Z K h1 h2 h3 h4 h5 h6 h7 h8 h9 h10 ih => exact .mk v da ns ks Z K h1 (h2.both h1.inB) h3.there h4 (h5.both h4.lt) h6 ih h8 h9 h10
theorem RdJ.after {ok : Nat → Prop} {w w' : World} {v : JV} {s : Sj} (h : RdJ ok w v s) (hb : Below w.heap.size w w') : RdJ ok w' v s :=
  (h.there.keep fun b hb' => hb.block b hb'.2).mono fun _ h => h.1
theorem RowJ.after {w w' : World} {a : Option Addr} {n c : Nat} {K : Nat → JV} (h : RowJ w a n c K) (hb : Below w.heap.size w w') : RowJ w' a n c K :=
  h.keep (h.lt.imp id fun h b o s e => hb.block b (h b o s e))
theorem RowJ.range {w : World} {a : Option Addr} {n c : Nat} {K : Nat → JV} (h : RowJ w a n c K) {i : Nat} (hi : i < n) :
    ∃ b o, a = some ⟨b, o, none⟩ ∧ w.rangeAt b (o + i * 6) (K i).cells.toList := by
  rcases h.2.2.2 with h4 | ⟨b, o, rfl, h4⟩
  · omega
  · exact ⟨b, o, rfl, fun j v hv => h4 i hi j v (by simpa using hv)⟩
theorem lies_sj : (Tryd.prog.info? 28).map (·.size) = some 6 := by kernel_rfl
theorem cells_sj : Tryd.prog.cellsOf 24 = 2 ∧ Tryd.prog.cellsOf 25 = 1 ∧ Tryd.prog.cellsOf 3 = 1 ∧ Tryd.prog.cellsOf 26 = 1 ∧ Tryd.prog.cellsOf 28 = 6 := ⟨by kernel_rfl, by kernel_rfl, by kernel_rfl, by kernel_rfl, by kernel_rfl⟩
/-- the load of a subject within a row -/
theorem wpList_load_jv {ops : Array Oper} {rest : List Oper} {o : Oper} {a : Act} {w : World} {Q : Exit → Act → World → Prop} (hgd : o.guard = none) (x : Operand) (ho : o.op = .load 28 x)
    (b k : Nat) (hx : a.eval x = .pointer (some ⟨b, k, none⟩)) (v : JV) (hc : w.rangeAt b k v.cells.toList) (h : wpList Tryd.prog ops Q rest (a.put o.dst v.val) w) : wpList Tryd.prog ops Q (o :: rest) a w :=
  wpList_load_mid hgd 28 x ho b k hx _ _ hc Tryd.underlying28 rfl (by kernel_rfl) h

section
variable {H : Type} {enc : TypeId × Value → H} {W : World} {held : Bool}
set_option maxRecDepth 100000 in
theorem open_sjf : ∀ (fuel : Nat) (cs : List Value) (x : DataW H × List MemPlace), DataW.trod enc Tryd.prog W 0 (fun _ => true) held fuel 28 cs = some x →
    ∃ (v : JV) (s : Sj), cs = v.cells.toList ∧ RdJ (fun _ => True) W v s := by
  intro fuel
  induction fuel using Nat.strongRecOn with
  | _ fuel ih =>
    intro cs x h
    obtain ⟨k1, k2, k3, k4, k5⟩ := cells_sj
    obtain ⟨m1, _, _, _, m5⟩ := cells_sx
    obtain ⟨xs, n, hf, rfl, hl, hxl, hg⟩ := DataW.trod_struct Tryd.underlying28 h
    rw [k5] at hl
    match cs, hl with
    | [c0, c1, c2, c3, c4, c5], _ =>
      match xs, hxl with
      | [y0, y1, y2, y3, y4], _ =>
        have h0 : DataW.trod enc Tryd.prog W 0 (fun _ => true) held n 5 (([c0, c1, c2, c3, c4, c5].drop 0).take (Tryd.prog.cellsOf 5)) = some y0 := hg 0 _ rfl
        have h1 : DataW.trod enc Tryd.prog W 0 (fun _ => true) held n 24 (([c0, c1, c2, c3, c4, c5].drop 1).take (Tryd.prog.cellsOf 24)) = some y1 := hg 1 _ rfl
        have h2 : DataW.trod enc Tryd.prog W 0 (fun _ => true) held n 25 (([c0, c1, c2, c3, c4, c5].drop 3).take (Tryd.prog.cellsOf 25)) = some y2 := hg 2 _ rfl
        have h3 : DataW.trod enc Tryd.prog W 0 (fun _ => true) held n 3 (([c0, c1, c2, c3, c4, c5].drop 4).take (Tryd.prog.cellsOf 3)) = some y3 := hg 3 _ rfl
        have h4 : DataW.trod enc Tryd.prog W 0 (fun _ => true) held n 26 (([c0, c1, c2, c3, c4, c5].drop 5).take (Tryd.prog.cellsOf 26)) = some y4 := hg 4 _ rfl
        rw [m5] at h0
        rw [k1] at h1
        rw [k2] at h2
        rw [k3] at h3
        rw [k4] at h4
        obtain ⟨kd, e0, _, hkd⟩ := DataW.trod_int Tryd.underlying5 h0
        obtain ⟨ks, a1, n1, q1, l1, rfl, rfl, s1⟩ := open_key h1
        obtain ⟨a2, n2, q2, Z, ls, rfl, s2⟩ := open_sums h2
        obtain ⟨kk, e3, _, hkk⟩ := DataW.trod_int Tryd.underlying3 h3
        have e0' : c0 = .int .u8 kd := by simpa using e0
        have e3' : c4 = .int .i64 kk := by simpa using e3
        subst e0' e3'
        have hkd' : 0 ≤ kd ∧ kd < 256 := by
          simp [Lit.wf, IntKind.min, IntKind.max, IntKind.bits, IntKind.signed] at hkd
          omega
        have hkk' : -9223372036854775808 ≤ kk ∧ kk ≤ 9223372036854775807 := by
          simp [Lit.wf, IntKind.min, IntKind.max, IntKind.bits, IntKind.signed] at hkk
          omega
        obtain ⟨kn, rfl⟩ : ∃ m : Nat, kd = (m : Int) := ⟨kd.toNat, by omega⟩
        have hkn : kn < 256 := by omega
        have hN : RowN (fun _ => True) W a2 n2 q2 Z ls := ⟨s2, .inr fun _ _ _ _ => trivial, fun _ _ => .inr fun _ _ _ _ => trivial⟩
        rcases DataW.trod_slice Tryd.underlying26 h4 with ⟨e4, rfl⟩ | ⟨a, len, cap, elems, rest, m, hm, e4, rfl, _, hlc, hcm, hel, hat, _, _⟩
        · have e4' : c5 = .slice none 0 0 := by simpa using e4
          subst e4'
          exact ⟨⟨kn, ks, a1, n1, q1, a2, n2, q2, kk, none, 0, 0⟩, .mk kn ks l1 ls kk [], rfl, .mk _ l1 ls [] Z (fun _ => JV.nil) s1 (.inr fun _ _ _ _ => trivial) hN ⟨Nat.le_refl _, Nat.zero_le _, fun _ => rfl, .inl rfl⟩ (.inl rfl) rfl (fun i hi => by cases hi) hkn hkk'.1 hkk'.2⟩
        · have e4' : c5 = .slice (some a) len cap := by simpa using e4
          subst e4'
          have key : ∀ i, i < len → ∃ p : JV × Sj, W.cells? 0 (a.add (i * 6)) 6 = some p.1.cells.toList ∧ RdJ (fun _ => True) W p.1 p.2 := fun i hi => by
            have hi' : i < elems.length := by omega
            have h5 := hat i hi
            rw [k5, List.getElem?_eq_getElem hi'] at h5
            obtain ⟨cs', hc1, hc2⟩ := Option.bind_eq_some_iff.1 h5
            obtain ⟨v, s, rfl, hrd⟩ := ih m (by omega) cs' _ hc2
            exact ⟨(v, s), hc1, hrd⟩
          haveI : Inhabited (JV × Sj) := ⟨(JV.nil, default)⟩
          obtain ⟨f, hf'⟩ := Go.Deep.choose_lt key
          obtain ⟨b, o, spot⟩ := a
          have hcell : ∀ i, i < len → ∀ j u, (f i).1.cells[j]? = some u → W.cell? (((⟨b, o, spot⟩ : Addr).add (i * 6)).add j) = some u := fun i hi j u hu => by
            have h6 := (hf' i hi).1
            unfold World.cells? at h6
            rw [if_pos (Nat.zero_le _)] at h6
            have hj : j < 6 := by have := (Array.getElem?_eq_some_iff.1 hu).1; rwa [JV.cells_size] at this
            have h7 := mapM_some_get h6 j j (by simp [hj])
            rw [h7]
            simpa using hu
          have hsp : len = 0 ∨ spot = none := by
            by_cases h0' : len = 0
            · exact .inl h0'
            · right
              have := World.cell?_spot (hcell 0 (by omega) 0 _ rfl)
              simpa [Addr.add] using this
          refine ⟨⟨kn, ks, a1, n1, q1, a2, n2, q2, kk, some ⟨b, o, spot⟩, len, cap⟩, .mk kn ks l1 ls kk ((List.range len).map fun i => (f i).2), rfl,
            .mk _ l1 ls _ Z (fun i => (f i).1) s1 (.inr fun _ _ _ _ => trivial) hN ⟨hlc, hcm, (fun h => by cases h), ?_⟩ (.inr fun _ _ _ _ => trivial) (by simp) (fun i hi => ?_) hkn hkk'.1 hkk'.2⟩
          · rcases hsp with h0' | rfl
            · exact .inl h0'
            · refine .inr ⟨b, o, rfl, fun i hi j u hu => ?_⟩
              have := hcell i hi j u hu
              rwa [Addr.add_mid, Addr.add_mid] at this
          · have hi' : i < len := by simpa using hi
            have := (hf' i hi').2
            simpa using this
set_option maxRecDepth 100000 in
theorem open_sj {r : Reach} {b0 : Nat} {v : Value} {d : DataW H} {p : List MemPlace} (hv : Value.okWide Tryd.prog W r b0 28 v) (h : DataW.Trod enc Tryd.prog W 0 (fun _ => true) held 28 v d p) :
    ∃ (u : JV) (s : Sj), v = u.val ∧ RdJ (fun _ => True) W u s := by
  obtain ⟨cs, rfl, hsz⟩ := okWide_struct Tryd.underlying28 hv
  obtain ⟨fuel, hf⟩ := h
  obtain ⟨u, s, e, hr⟩ := open_sjf fuel _ _ hf
  refine ⟨u, s, ?_, hr⟩
  have : cs = u.cells := by
    apply Array.ext'
    simpa [Value.cells] using e
  rw [this]
  rfl
end
end Go.Proofs.YthmigigclmogiaaDoor

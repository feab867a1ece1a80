/- S-expressions: how they lie in memory, as trees. -/
import Derived.Test.YtcflgoddfakepaaDoorSl5
namespace Go.Proofs.YtcflgoddfakepaaDoor
open Go.RowKit

/-- a tree: a list's mark, a hint's mark, the hint, the data, the values within -/
inductive Sx where
  | mk (l h : Bool) (hi da : List UInt8) (ks : List Sx)

instance : Inhabited Sx := ⟨.mk false false [] [] []⟩

def Sx.l : Sx → Bool | .mk l _ _ _ _ => l
def Sx.h : Sx → Bool | .mk _ h _ _ _ => h
def Sx.hi : Sx → List UInt8 | .mk _ _ x _ _ => x
def Sx.da : Sx → List UInt8 | .mk _ _ _ x _ => x
def Sx.ks : Sx → List Sx | .mk _ _ _ _ x => x

theorem Sx.eta (s : Sx) : s = .mk s.l s.h s.hi s.da s.ks := by cases s; rfl

/-- what holds of a tree if it holds of one whose parts all have it, holds of all -/
theorem Sx.ind {p : Sx → Prop} (h : ∀ l hh hi da ks, (∀ k ∈ ks, p k) → p (.mk l hh hi da ks)) (s : Sx) : p s :=
  Sx.rec (motive_1 := p) (motive_2 := fun ks => ∀ k ∈ ks, p k) (fun l hh hi da ks ih => h l hh hi da ks ih) (fun k hk => by cases hk)
    (fun k ks hk ih j hj => by
      rcases List.mem_cons.1 hj with rfl | hj
      · exact hk
      · exact ih j hj) s

/-- the five cells of a value -/
structure SV where
  l : Bool
  h : Bool
  a1 : Option Addr
  n1 : Nat
  c1 : Nat
  a2 : Option Addr
  n2 : Nat
  c2 : Nat
  a3 : Option Addr
  n3 : Nat
  c3 : Nat
def SV.cells (v : SV) : Array Value := #[.bool v.l, .bool v.h, .slice v.a1 v.n1 v.c1, .slice v.a2 v.n2 v.c2, .slice v.a3 v.n3 v.c3]
def SV.val (v : SV) : Value := .agg #[.bool v.l, .bool v.h, .slice v.a1 v.n1 v.c1, .slice v.a2 v.n2 v.c2, .slice v.a3 v.n3 v.c3]
def SV.nil : SV := ⟨false, false, none, 0, 0, none, 0, 0, none, 0, 0⟩
instance : Inhabited SV := ⟨SV.nil⟩
theorem SV.cells_size (v : SV) : v.cells.size = 5 := rfl

/-- what a slice reads lies in blocks that are ok -/
def InB (ok : Nat → Prop) (a : Option Addr) (n : Nat) : Prop := n = 0 ∨ ∀ b o s, a = some ⟨b, o, s⟩ → ok b
theorem InB.mono {ok ok' : Nat → Prop} {a : Option Addr} {n : Nat} (h : InB ok a n) (hm : ∀ b, ok b → ok' b) : InB ok' a n :=
  h.imp id fun h b o s e => hm b (h b o s e)

/-- a row of values: the cells of each -/
def RowAt (w : World) (a : Option Addr) (n c : Nat) (K : Nat → SV) : Prop :=
  n ≤ c ∧ c ≤ maxLen ∧ (a = none → c = 0) ∧ (n = 0 ∨ ∃ b o, a = some ⟨b, o, none⟩ ∧ ∀ i, i < n → ∀ j v, (K i).cells[j]? = some v → w.cell? ⟨b, o + i * 5 + j, none⟩ = some v)

/-- a value reads as a tree, through blocks that are ok -/
inductive RdI (ok : Nat → Prop) (w : World) : SV → Sx → Prop
  | mk (v : SV) (hi da : List UInt8) (ks : List Sx) (K : Nat → SV) : Sl w v.a1 v.n1 v.c1 hi → InB ok v.a1 v.n1 → Sl w v.a2 v.n2 v.c2 da → InB ok v.a2 v.n2 →
      RowAt w v.a3 v.n3 v.c3 K → InB ok v.a3 v.n3 → v.n3 = ks.length → (∀ i (hi : i < ks.length), RdI ok w (K i) ks[i]) → RdI ok w v (.mk v.l v.h hi da ks)
abbrev Rd (w : World) (v : SV) (s : Sx) : Prop := RdI (fun _ => True) w v s

theorem RdI.parts {ok : Nat → Prop} {w : World} {v : SV} {s : Sx} (h : RdI ok w v s) :
    v.l = s.l ∧ v.h = s.h ∧ Sl w v.a1 v.n1 v.c1 s.hi ∧ Sl w v.a2 v.n2 v.c2 s.da ∧ v.n3 = s.ks.length ∧ v.n3 ≤ v.c3 ∧ v.c3 ≤ maxLen ∧
    ∃ K, RowAt w v.a3 v.n3 v.c3 K ∧ ∀ i (hi : i < s.ks.length), RdI ok w (K i) s.ks[i] := by
  cases h with
  | mk v hi da ks K h1 h2 h3 h4 h5 h6 h7 h8 => exact ⟨rfl, rfl, h1, h3, h7, h5.1, h5.2.1, K, h5, h8⟩

theorem RdI.inb {ok : Nat → Prop} {w : World} {v : SV} {s : Sx} (h : RdI ok w v s) : InB ok v.a1 v.n1 ∧ InB ok v.a2 v.n2 ∧ InB ok v.a3 v.n3 := by
  cases h with
  | mk v hi da ks K h1 h2 h3 h4 h5 h6 h7 h8 => exact ⟨h2, h4, h6⟩
theorem SV.one (v : SV) : v.cells.all (·.oneCell') = true := by simp [SV.cells, Value.oneCell']

theorem RowAt.keep {w w' : World} {a : Option Addr} {n c : Nat} {K : Nat → SV} (h : RowAt w a n c K) (hk : n = 0 ∨ ∀ b o s, a = some ⟨b, o, s⟩ → w'.heap[b]? = w.heap[b]?) : RowAt w' a n c K := by
  obtain ⟨h1, h2, h3, h4⟩ := h
  refine ⟨h1, h2, h3, ?_⟩
  rcases h4 with h4 | ⟨b, o, rfl, h4⟩
  · exact .inl h4
  · rcases hk with hk | hk
    · exact .inl hk
    · exact .inr ⟨b, o, rfl, fun i hi j v hv => (World.cell?_of_block (a := ⟨b, o + i * 5 + j, none⟩) (hk b o none rfl)).trans (h4 i hi j v hv)⟩

theorem Sl.keep {w w' : World} {a : Option Addr} {n c : Nat} {l : List UInt8} (h : Sl w a n c l) (hk : n = 0 ∨ ∀ b o s, a = some ⟨b, o, s⟩ → w'.heap[b]? = w.heap[b]?) : Sl w' a n c l := by
  obtain ⟨h1, h2, h3, h5, h4⟩ := h
  refine ⟨h1, h2, h3, h5, ?_⟩
  rcases h4 with h4 | ⟨b, o, rfl, h4⟩
  · exact .inl h4
  · rcases hk with hk | hk
    · exact .inl hk
    · exact .inr ⟨b, o, rfl, fun i hi => (World.cell?_of_block (a := ⟨b, o + i, none⟩) (hk b o none rfl)).trans (h4 i hi)⟩

theorem InB.heap {ok : Nat → Prop} {w w' : World} {a : Option Addr} {n : Nat} (h : InB ok a n) (hk : ∀ b, ok b → w'.heap[b]? = w.heap[b]?) : n = 0 ∨ ∀ b o s, a = some ⟨b, o, s⟩ → w'.heap[b]? = w.heap[b]? :=
  h.imp id fun h b o s e => hk b (h b o s e)

/-- what lies in blocks that are as they were reads as it did -/
theorem RdI.keep {ok : Nat → Prop} {w w' : World} {v : SV} {s : Sx} (h : RdI ok w v s) (hk : ∀ b, ok b → w'.heap[b]? = w.heap[b]?) : RdI ok w' v s := by
  induction h with
  | mk v hi da ks K h1 h2 h3 h4 h5 h6 h7 h8 ih => exact .mk v hi da ks K (h1.keep (h2.heap hk)) h2 (h3.keep (h4.heap hk)) h4 (h5.keep (h6.heap hk)) h6 h7 ih

theorem RdI.mono {ok ok' : Nat → Prop} {w : World} {v : SV} {s : Sx} (h : RdI ok w v s) (hm : ∀ b, ok b → ok' b) : RdI ok' w v s := by
  induction h with
  | mk v hi da ks K h1 h2 h3 h4 h5 h6 h7 h8 ih => exact .mk v hi da ks K h1 (h2.mono hm) h3 (h4.mono hm) h5 (h6.mono hm) h7 ih

theorem RowAt.lt {w : World} {a : Option Addr} {n c : Nat} {K : Nat → SV} (h : RowAt w a n c K) : InB (fun b => b < w.heap.size) a n := by
  by_cases h0 : n = 0
  · exact .inl h0
  · rcases h.2.2.2 with h4 | ⟨b, o, rfl, h4⟩
    · exact absurd h4 h0
    · refine .inr fun b' o' s e => ?_
      cases e
      exact cell_lt (h4 0 (by omega) 0 _ rfl)

theorem Sl.inB {w : World} {a : Option Addr} {n c : Nat} {l : List UInt8} (h : Sl w a n c l) : InB (fun b => b < w.heap.size) a n := by
  by_cases h0 : n = 0
  · exact .inl h0
  · rcases h.2.2.2.2 with h4 | ⟨b, o, rfl, h4⟩
    · exact absurd h4 h0
    · refine .inr fun b' o' s e => ?_
      cases e
      exact cell_lt (h4 0 (by omega))

theorem InB.both {p q : Nat → Prop} {a : Option Addr} {n : Nat} (h : InB p a n) (h' : InB q a n) : InB (fun b => p b ∧ q b) a n := by
  rcases h with h | h
  · exact .inl h
  · rcases h' with h' | h'
    · exact .inl h'
    · exact .inr fun b o s e => ⟨h b o s e, h' b o s e⟩

/-- it reads through blocks that are there -/
theorem RdI.there {ok : Nat → Prop} {w : World} {v : SV} {s : Sx} (h : RdI ok w v s) : RdI (fun b => ok b ∧ b < w.heap.size) w v s := by
  induction h with
  | mk v hi da ks K h1 h2 h3 h4 h5 h6 h7 h8 ih => exact .mk v hi da ks K h1 (h2.both h1.inB) h3 (h4.both h3.inB) h5 (h6.both h5.lt) h7 ih

theorem RdI.after {ok : Nat → Prop} {w w' : World} {v : SV} {s : Sx} (h : RdI ok w v s) (hb : Below w.heap.size w w') : RdI ok w' v s :=
  (h.there.keep fun b hb' => hb.block b hb'.2).mono fun _ h => h.1
theorem RdI.drew {ok : Nat → Prop} {w : World} {v : SV} {s : Sx} (h : RdI ok w v s) : RdI ok w.drew v s := h.keep fun _ _ => rfl
theorem RowAt.after {w w' : World} {a : Option Addr} {n c : Nat} {K : Nat → SV} (h : RowAt w a n c K) (hb : Below w.heap.size w w') : RowAt w' a n c K :=
  h.keep (h.lt.imp id fun h b o s e => hb.block b (h b o s e))

/-- a value within a row, as cells in the midst of a block -/
theorem RowAt.range {w : World} {a : Option Addr} {n c : Nat} {K : Nat → SV} (h : RowAt w a n c K) {i : Nat} (hi : i < n) :
    ∃ b o, a = some ⟨b, o, none⟩ ∧ w.rangeAt b (o + i * 5) (K i).cells.toList := by
  rcases h.2.2.2 with h4 | ⟨b, o, rfl, h4⟩
  · omega
  · exact ⟨b, o, rfl, fun j v hv => h4 i hi j v (by simpa using hv)⟩

/-- the tree of no value -/
def Sx.nil : Sx := .mk false false [] [] []
theorem Sl.nil (w : World) : Sl w none 0 0 [] := ⟨rfl, Nat.le_refl _, Nat.zero_le _, fun _ => rfl, .inl rfl⟩
theorem rd_nil (ok : Nat → Prop) (w : World) : RdI ok w SV.nil Sx.nil :=
  .mk SV.nil [] [] [] (fun _ => SV.nil) (Sl.nil w) (.inl rfl) (Sl.nil w) (.inl rfl) ⟨Nat.le_refl _, Nat.zero_le _, fun _ => rfl, .inl rfl⟩ (.inl rfl) rfl (fun i hi => by cases hi)
end Go.Proofs.YtcflgoddfakepaaDoor

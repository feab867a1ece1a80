/- An argument that is an S-expression: opened to its cells, as a tree. How a canonical form is read: plain. Lengths and bytes, read as they are written, and cut off: plain. Forms, read as they are written, cut off, and what is read: plain. The document's bytes: what it computes. The document's atom: what it computes. The document's value: what it computes. The document's Get: what it answers. The reader as a machine with a stack of open lists: plain. What Get answers, for what is a form, cut off, or has more behind it: plain. Clones of bytes: what they compute. The program's reader: sign, begins: what they compute. The program's reader: bytes: what it computes. -/
import Derived.Test.YtkbblhioncecmaaDoorNtG4
import Derived.ChangeSlices
import Derived.WideShapes
import Derived.Deep.Slices
import Derived.Recover
namespace Go.Proofs.YtkbblhioncecmaaDoor
open Go.RowKit Go.ChangeShapes Go.WideShapes Go.ChangeAt

theorem cells_sx : Tryd.prog.cellsOf 4 = 1 ∧ Tryd.prog.cellsOf 23 = 1 ∧ Tryd.prog.cellsOf 24 = 1 ∧ Tryd.prog.cellsOf 26 = 5 ∧ Tryd.prog.cellsOf 5 = 1 := ⟨by kernel_rfl, by kernel_rfl, by kernel_rfl, by kernel_rfl, by kernel_rfl⟩

theorem bulk_nodes {H : Type} : ∀ (l : List (DataW H × List MemPlace)) (g : Nat → Sx), (∀ i (h : i < l.length), (g i).nodes ≤ Rows.uptoBulk l[i].1) → Sx.nodesL ((List.range l.length).map g) ≤ Rows.uptoBulkAll (l.map (·.1))
  | [], _, _ => by simp [Sx.nodesL]
  | x :: r, g, h => by
    rw [List.length_cons, List.range_succ_eq_map, List.map_cons, List.map_map]
    simp only [Sx.nodesL, List.map_cons, Rows.uptoBulkAll]
    have h0 := h 0 (by simp)
    have := bulk_nodes r (g ∘ Nat.succ) (fun i hi => by have := h (i + 1) (by simpa using hi); simpa using this)
    simp only [List.getElem_cons_zero] at h0
    omega

section
variable {H : Type} {enc : TypeId × Value → H} {W : World} {held : Bool}

theorem open_slU {fuel : Nat} {c : Value} {x : DataW H × List MemPlace} (h : DataW.trod enc Tryd.prog W 0 (fun _ => true) held fuel 23 [c] = some x) :
    ∃ (a : Option Addr) (n k : Nat) (l : List UInt8), c = .slice a n k ∧ Sl W a n k l := by
  rcases open_ints Tryd.underlying23 Tryd.underlying5 cells_sx.2.2.2.2 h with ⟨hcs, _⟩ | ⟨x, l, k, zs, hcs, _, hl, hm, hz, _, hcell, hwz⟩
  · simp at hcs
    exact ⟨none, 0, 0, [], hcs, Sl.nil W⟩
  · simp at hcs
    have hr : IsRow .u8 W (some x) l k zs := .inr ⟨_, rfl, hl, hm, by simpa using hz, hcell, hwz⟩
    obtain ⟨L, hL⟩ := hr.sl
    exact ⟨_, l, k, L, hcs, hL⟩

set_option maxRecDepth 100000 in
theorem open_sxf : ∀ (fuel : Nat) (cs : List Value) (x : DataW H × List MemPlace), DataW.trod enc Tryd.prog W 0 (fun _ => true) held fuel 26 cs = some x →
    ∃ (v : SV) (s : Sx), cs = v.cells.toList ∧ Rd W v s ∧ s.nodes ≤ Rows.uptoBulk x.1 := by
  intro fuel
  induction fuel using Nat.strongRecOn with
  | _ fuel ih =>
    intro cs x h
    obtain ⟨k1, k2, k3, k4, k5⟩ := cells_sx
    obtain ⟨xs, n, hf, rfl, hl, hxl, hg⟩ := DataW.trod_struct Tryd.underlying26 h
    rw [k4] at hl
    match cs, hl with
    | [c0, c1, c2, c3, c4], _ =>
      match xs, hxl with
      | [y0, y1, y2, y3, y4], _ =>
        have h0 : DataW.trod enc Tryd.prog W 0 (fun _ => true) held n 4 (([c0, c1, c2, c3, c4].drop 0).take (Tryd.prog.cellsOf 4)) = some y0 := hg 0 _ rfl
        have h1 : DataW.trod enc Tryd.prog W 0 (fun _ => true) held n 4 (([c0, c1, c2, c3, c4].drop 1).take (Tryd.prog.cellsOf 4)) = some y1 := hg 1 _ rfl
        have h2 : DataW.trod enc Tryd.prog W 0 (fun _ => true) held n 23 (([c0, c1, c2, c3, c4].drop 2).take (Tryd.prog.cellsOf 23)) = some y2 := hg 2 _ rfl
        have h3 : DataW.trod enc Tryd.prog W 0 (fun _ => true) held n 23 (([c0, c1, c2, c3, c4].drop 3).take (Tryd.prog.cellsOf 23)) = some y3 := hg 3 _ rfl
        have h4 : DataW.trod enc Tryd.prog W 0 (fun _ => true) held n 24 (([c0, c1, c2, c3, c4].drop 4).take (Tryd.prog.cellsOf 24)) = some y4 := hg 4 _ rfl
        rw [k1] at h0 h1
        rw [k2] at h2 h3
        rw [k3] at h4
        obtain ⟨bl, e0, _⟩ := DataW.trod_bool Tryd.underlying4 h0
        obtain ⟨bh, e1, _⟩ := DataW.trod_bool Tryd.underlying4 h1
        obtain ⟨a2, n2, q2, l2, rfl, s2⟩ := open_slU h2
        obtain ⟨a3, n3, q3, l3, rfl, s3⟩ := open_slU h3
        have e0' : c0 = .bool bl := by simpa using e0
        have e1' : c1 = .bool bh := by simpa using e1
        subst e0' e1'
        rcases DataW.trod_slice Tryd.underlying24 h4 with ⟨e4, rfl⟩ | ⟨a, len, cap, elems, rest, m, hm, e4, rfl, _, hlc, hcm, hel, hat, _, _⟩
        · have e4' : c4 = .slice none 0 0 := by simpa using e4
          subst e4'
          refine ⟨⟨bl, bh, a2, n2, q2, a3, n3, q3, none, 0, 0⟩, .mk bl bh l2 l3 [], rfl, .mk _ l2 l3 [] (fun _ => SV.nil) s2 (.inr fun _ _ _ _ => trivial) s3 (.inr fun _ _ _ _ => trivial) ⟨Nat.le_refl _, Nat.zero_le _, fun _ => rfl, .inl rfl⟩ (.inl rfl) rfl (fun i hi => by cases hi), ?_⟩
          simp only [Sx.nodes, Sx.nodesL, Rows.uptoBulk]
          omega
        · have e4' : c4 = .slice (some a) len cap := by simpa using e4
          subst e4'
          have key : ∀ i, i < len → ∃ p : SV × Sx, (∃ he : i < elems.length, p.2.nodes ≤ Rows.uptoBulk elems[i].1) ∧ W.cells? 0 (a.add (i * 5)) 5 = some p.1.cells.toList ∧ Rd W p.1 p.2 := fun i hi => by
            have hi' : i < elems.length := by omega
            have h5 := hat i hi
            rw [k4, List.getElem?_eq_getElem hi'] at h5
            obtain ⟨cs', hc1, hc2⟩ := Option.bind_eq_some_iff.1 h5
            obtain ⟨v, s, rfl, hrd, hnd⟩ := ih m (by omega) cs' _ hc2
            exact ⟨(v, s), ⟨hi', hnd⟩, hc1, hrd⟩
          haveI : Inhabited (SV × Sx) := ⟨(SV.nil, default)⟩
          obtain ⟨f, hf'⟩ := Go.Deep.choose_lt key
          obtain ⟨b, o, spot⟩ := a
          have hcell : ∀ i, i < len → ∀ j u, (f i).1.cells[j]? = some u → W.cell? (((⟨b, o, spot⟩ : Addr).add (i * 5)).add j) = some u := fun i hi j u hu => by
            have h6 := (hf' i hi).2.1
            unfold World.cells? at h6
            rw [if_pos (Nat.zero_le _)] at h6
            have hj : j < 5 := by have := (Array.getElem?_eq_some_iff.1 hu).1; rwa [SV.cells_size] at this
            have h7 := mapM_some_get h6 j j (by simp [hj])
            rw [h7]
            simpa using hu
          have hsp : len = 0 ∨ spot = none := by
            by_cases h0' : len = 0
            · exact .inl h0'
            · right
              have := World.cell?_spot (hcell 0 (by omega) 0 _ rfl)
              simpa [Addr.add] using this
          refine ⟨⟨bl, bh, a2, n2, q2, a3, n3, q3, some ⟨b, o, spot⟩, len, cap⟩, .mk bl bh l2 l3 ((List.range len).map fun i => (f i).2), rfl,
            .mk _ l2 l3 _ (fun i => (f i).1) s2 (.inr fun _ _ _ _ => trivial) s3 (.inr fun _ _ _ _ => trivial) ⟨hlc, hcm, (fun h => by cases h), ?_⟩ (.inr fun _ _ _ _ => trivial) (by simp) (fun i hi => ?_), ?_⟩
          · rcases hsp with h0' | rfl
            · exact .inl h0'
            · refine .inr ⟨b, o, rfl, fun i hi j u hu => ?_⟩
              have := hcell i hi j u hu
              rwa [Addr.add_mid, Addr.add_mid] at this
          · have hi' : i < len := by simpa using hi
            have := (hf' i hi').2.2
            simpa using this
          · have := bulk_nodes elems (fun i => (f i).2) (fun i hi => (hf' i (by omega)).1.2)
            rw [hel] at this
            simp only [Sx.nodes, Rows.uptoBulk, Rows.uptoBulkAll, List.map_cons, List.map_nil]
            omega

set_option maxRecDepth 100000 in
theorem open_sx {r : Reach} {b0 : Nat} {v : Value} {d : DataW H} {p : List MemPlace} (hv : Value.okWide Tryd.prog W r b0 26 v) (h : DataW.Trod enc Tryd.prog W 0 (fun _ => true) held 26 v d p) :
    ∃ (u : SV) (s : Sx), v = u.val ∧ Rd W u s ∧ s.nodes ≤ Rows.uptoBulk d := by
  obtain ⟨cs, rfl, hsz⟩ := okWide_struct Tryd.underlying26 hv
  obtain ⟨fuel, hf⟩ := h
  obtain ⟨u, s, e, hr, hn⟩ := open_sxf fuel _ _ hf
  refine ⟨u, s, ?_, hr, hn⟩
  have : cs = u.cells := by
    apply Array.ext'
    simpa [Value.cells] using e
  rw [this]
  rfl

set_option maxRecDepth 100000 in
theorem open_sxs {a : Option Addr} {n c : Nat} {d : DataW H} {p : List MemPlace} (h : DataW.Trod enc Tryd.prog W 0 (fun _ => true) held 24 (.slice a n c) d p) :
    ∃ (K : Nat → SV) (ks : List Sx), RowAt W a n c K ∧ n = ks.length ∧ (∀ i (hi : i < ks.length), Rd W (K i) ks[i]) ∧ Sx.nodesL ks ≤ Rows.uptoBulk d := by
  obtain ⟨fuel, h4⟩ := h
  obtain ⟨k1, k2, k3, k4, k5⟩ := cells_sx
  rcases DataW.trod_slice Tryd.underlying24 h4 with ⟨e4, e5⟩ | ⟨ad, len, cap, elems, rest, m, hm, e4, e5, _, hlc, hcm, hel, hat, _, _⟩
  · have e4' : (Value.slice a n c) = .slice none 0 0 := by simpa [Value.cells] using e4
    cases e4'
    exact ⟨fun _ => SV.nil, [], ⟨Nat.le_refl _, Nat.zero_le _, fun _ => rfl, .inl rfl⟩, rfl, (fun i hi => by cases hi), by simp [Sx.nodesL]⟩
  · have e4' : (Value.slice a n c) = .slice (some ad) len cap := by simpa [Value.cells] using e4
    cases e4'
    have e6 : d = .slice (elems.map (·.1)) (rest.map (·.1)) := congrArg Prod.fst e5
    subst e6
    have key : ∀ i, i < n → ∃ p : SV × Sx, (∃ he : i < elems.length, p.2.nodes ≤ Rows.uptoBulk elems[i].1) ∧ W.cells? 0 (ad.add (i * 5)) 5 = some p.1.cells.toList ∧ Rd W p.1 p.2 := fun i hi => by
      have hi' : i < elems.length := by omega
      have h5 := hat i hi
      rw [k4, List.getElem?_eq_getElem hi'] at h5
      obtain ⟨cs', hc1, hc2⟩ := Option.bind_eq_some_iff.1 h5
      obtain ⟨v, s, rfl, hrd, hnd⟩ := open_sxf m cs' _ hc2
      exact ⟨(v, s), ⟨hi', hnd⟩, hc1, hrd⟩
    haveI : Inhabited (SV × Sx) := ⟨(SV.nil, default)⟩
    obtain ⟨f, hf'⟩ := Go.Deep.choose_lt key
    obtain ⟨b, o, spot⟩ := ad
    have hcell : ∀ i, i < n → ∀ j u, (f i).1.cells[j]? = some u → W.cell? (((⟨b, o, spot⟩ : Addr).add (i * 5)).add j) = some u := fun i hi j u hu => by
      have h6 := (hf' i hi).2.1
      unfold World.cells? at h6
      rw [if_pos (Nat.zero_le _)] at h6
      have hj : j < 5 := by have := (Array.getElem?_eq_some_iff.1 hu).1; rwa [SV.cells_size] at this
      have h7 := mapM_some_get h6 j j (by simp [hj])
      rw [h7]
      simpa using hu
    have hsp : n = 0 ∨ spot = none := by
      by_cases h0' : n = 0
      · exact .inl h0'
      · right
        have := World.cell?_spot (hcell 0 (by omega) 0 _ rfl)
        simpa [Addr.add] using this
    refine ⟨fun i => (f i).1, (List.range n).map fun i => (f i).2, ⟨hlc, hcm, (fun h => by cases h), ?_⟩, by simp, (fun i hi => ?_), ?_⟩
    · rcases hsp with h0' | rfl
      · exact .inl h0'
      · refine .inr ⟨b, o, rfl, fun i hi j u hu => ?_⟩
        have := hcell i hi j u hu
        rwa [Addr.add_mid, Addr.add_mid] at this
    · have hi' : i < n := by simpa using hi
      have := (hf' i hi').2.2
      simpa using this
    · have := bulk_nodes elems (fun i => (f i).2) (fun i hi => (hf' i (by omega)).1.2)
      rw [hel] at this
      simp only [Rows.uptoBulk]
      omega
end
end Go.Proofs.YtkbblhioncecmaaDoor
namespace Go.Proofs.YtkbblhioncecmaaDoor
open Go.RowKit

/-- bytes with their length, at a place: the bytes, the place behind, the error -/
def rBytes (l : List UInt8) (p : Nat) : List UInt8 × Nat × Nat :=
  let r := lenR l p 4096
  if r.2.2 = 2 then ([], l.length, 2) else if r.2.2 ≠ 0 then ([], p, r.2.2.toNat) else
  if l.length ≤ r.2.1.toNat then ([], l.length, 2) else if l.getD r.2.1.toNat 0 ≠ 58 then ([], r.2.1.toNat, 3) else
  if l.length - r.2.1.toNat - 1 < r.1.toNat then ([], l.length, 2) else ((l.drop (r.2.1.toNat + 1)).take r.1.toNat, r.2.1.toNat + 1 + r.1.toNat, 0)

/-- what was read -/
structure RV where
  v : Sx
  p : Nat
  n : Nat
  e : Nat
def RV.err (p e : Nat) : RV := ⟨Sx.nil, p, 0, e⟩

/-- an atom, at a place -/
def rAtom (l : List UInt8) (p n : Nat) : RV :=
  if l.getD p 0 = 91 then
    let h := rBytes l (p + 1)
    if h.2.2 ≠ 0 then RV.err h.2.1 h.2.2 else if l.length ≤ h.2.1 then RV.err l.length 2 else if l.getD h.2.1 0 ≠ 93 then RV.err h.2.1 3 else
    let d := rBytes l (h.2.1 + 1)
    if d.2.2 ≠ 0 then RV.err d.2.1 d.2.2 else ⟨.mk false true h.1 d.1 [], d.2.1, n, 0⟩
  else
    let d := rBytes l p
    if d.2.2 ≠ 0 then RV.err d.2.1 d.2.2 else ⟨.mk false false [] d.1 [], d.2.1, n, 0⟩

/-- may a value begin so? -/
def starts (c : UInt8) : Prop := c = 40 ∨ c = 91 ∨ isD c
instance (c : UInt8) : Decidable (starts c) := by unfold starts; infer_instance

/-- reading: of a value (none), of what is left of a list whose values so far are there (some) -/
inductive St (l : List UInt8) : Option (List Sx) → Nat → Nat → Nat → RV → Prop
  | short {p lv n : Nat} : l.length ≤ p → St l none p lv n (RV.err l.length 2)
  | bad {p lv n : Nat} : p < l.length → ¬ starts (l.getD p 0) → St l none p lv n (RV.err p 3)
  | long {p lv n : Nat} : p < l.length → starts (l.getD p 0) → (512 < n + 1 ∨ l.getD p 0 = 40 ∧ 16 < lv) → St l none p lv n (RV.err p 4)
  | atom {p lv n : Nat} : p < l.length → starts (l.getD p 0) → l.getD p 0 ≠ 40 → n + 1 ≤ 512 → St l none p lv n (rAtom l p (n + 1))
  | list {p lv n : Nat} {r : RV} : p < l.length → l.getD p 0 = 40 → n + 1 ≤ 512 → lv ≤ 16 → St l (some []) (p + 1) lv (n + 1) r → St l none p lv n r
  | close {p lv n : Nat} {acc : List Sx} : p < l.length → l.getD p 0 = 41 → St l (some acc) p lv n ⟨.mk true false [] [] acc, p + 1, n, 0⟩
  | fail {p lv n : Nat} {acc : List Sx} {r : RV} : ¬ (p < l.length ∧ l.getD p 0 = 41) → St l none p (lv + 1) n r → r.e ≠ 0 → St l (some acc) p lv n r
  | more {p lv n : Nat} {acc : List Sx} {r r' : RV} : ¬ (p < l.length ∧ l.getD p 0 = 41) → St l none p (lv + 1) n r → r.e = 0 → St l (some (acc ++ [r.v])) r.p lv r.n r' → St l (some acc) p lv n r'

theorem starts40 : starts 40 := .inl rfl
theorem St.det {l : List UInt8} {m : Option (List Sx)} {p lv n : Nat} {r r' : RV} (h : St l m p lv n r) (h' : St l m p lv n r') : r = r' := by
  induction h generalizing r' with
  | short h1 =>
    cases h' with
    | short => rfl
    | bad h2 | long h2 | atom h2 | list h2 => omega
  | bad h1 h2 =>
    cases h' with
    | short h3 => omega
    | bad => rfl
    | long _ h3 | atom _ h3 => exact absurd h3 h2
    | list _ h3 => exact absurd (h3 ▸ starts40) h2
  | long h1 h2 h3 =>
    cases h' with
    | short h4 => omega
    | bad _ h4 => exact absurd h2 h4
    | long => rfl
    | atom _ _ h4 h5 => rcases h3 with h3 | h3; · omega
                        · exact absurd h3.1 h4
    | list _ h4 h5 h6 => rcases h3 with h3 | h3; · omega
                         · omega
  | atom h1 h2 h3 h4 =>
    cases h' with
    | short h5 => omega
    | bad _ h5 => exact absurd h2 h5
    | long _ _ h5 => rcases h5 with h5 | h5; · omega
                     · exact absurd h5.1 h3
    | atom => rfl
    | list _ h5 => exact absurd h5 h3
  | list h1 h2 h3 h4 _ ih =>
    cases h' with
    | short h5 => omega
    | bad _ h5 => exact absurd (h2 ▸ starts40) h5
    | long _ _ h5 => rcases h5 with h5 | h5; · omega
                     · omega
    | atom _ _ h5 => exact absurd h2 h5
    | list _ _ _ _ h5 => exact ih h5
  | close h1 h2 =>
    cases h' with
    | close => rfl
    | fail h3 | more h3 => exact absurd ⟨h1, h2⟩ h3
  | fail h1 _ h3 ih =>
    cases h' with
    | close h4 h5 => exact absurd ⟨h4, h5⟩ h1
    | fail _ h4 => exact ih h4
    | more _ h4 h5 => rw [ih h4] at h3; exact absurd h5 h3
  | more h1 _ h3 _ ih1 ih2 =>
    cases h' with
    | close h4 h5 => exact absurd ⟨h4, h5⟩ h1
    | fail _ h4 h5 => rw [ih1 h4] at h3; exact absurd h3 h5
    | more _ h4 h5 h6 =>
      obtain rfl := ih1 h4
      exact ih2 h6
end Go.Proofs.YtkbblhioncecmaaDoor
namespace Go.Proofs.YtkbblhioncecmaaDoor
open Go.RowKit

theorem lenScan_some {M n k : Nat} : ∀ (w : List UInt8) (a : Nat), lenScan M a w = some (n, k) → k ≤ w.length ∧ (∀ c ∈ w.take k, isD c) ∧ n = valA a (w.take k) ∧ (a ≤ M → n ≤ M)
  | [], a, h => by
    simp only [lenScan, Option.some.injEq, Prod.mk.injEq] at h
    obtain ⟨rfl, rfl⟩ := h
    exact ⟨Nat.le_refl _, (fun c hc => by cases hc), rfl, fun h => h⟩
  | c :: w, a, h => by
    unfold lenScan at h
    split at h
    · rename_i hd
      split at h
      · cases h
      · rename_i hM
        cases hr : lenScan M (10 * a + (c.toNat - 48)) w with
        | none => rw [hr] at h; cases h
        | some q =>
          obtain ⟨n', k'⟩ := q
          rw [hr] at h
          simp only [Option.map_some, Option.some.injEq, Prod.mk.injEq] at h
          obtain ⟨rfl, rfl⟩ := h
          obtain ⟨h1, h2, h3, h4⟩ := lenScan_some w _ hr
          refine ⟨by simp only [List.length_cons]; omega, fun d hd' => ?_, by rw [List.take_succ_cons, valA_cons]; exact h3, fun _ => h4 (by omega)⟩
          rw [List.take_succ_cons] at hd'
          rcases List.mem_cons.1 hd' with rfl | hd'
          · exact hd
          · exact h2 d hd'
    · simp only [Option.some.injEq, Prod.mk.injEq] at h
      obtain ⟨rfl, rfl⟩ := h
      exact ⟨Nat.zero_le _, (fun c hc => by simp at hc), by simp [valA_nil], fun h => h⟩

theorem digit_back (c : UInt8) (h : isD c) : UInt8.ofNat (48 + (c.toNat - 48)) = c := by
  unfold isD at h
  rw [show 48 + (c.toNat - 48) = c.toNat by omega]
  simp
/-- digits that begin with no nought are how their number is written -/
theorem numL_valA : ∀ (k : Nat) (d : List UInt8), d.length = k → (∀ c ∈ d, isD c) → d ≠ [] → d.getD 0 0 ≠ 48 → numL ((valA 0 d : Nat) : Int) = d ∧ 1 ≤ valA 0 d := by
  intro k
  induction k with
  | zero => intro d hl _ hn; exact absurd (List.eq_nil_of_length_eq_zero hl) hn
  | succ k ih =>
    intro d hl hd hn h0
    obtain ⟨d', c, rfl⟩ : ∃ d' c, d = d' ++ [c] := ⟨_, _, (List.dropLast_concat_getLast hn).symm⟩
    have hc : isD c := hd c (by simp)
    have hc2 := hc
    unfold isD at hc2
    rw [valA_snoc]
    by_cases e : d' = []
    · subst e
      simp only [List.nil_append, List.getD_cons_zero] at h0
      have hne : c.toNat ≠ 48 := fun e => h0 (by rw [← UInt8.toNat_inj]; exact e)
      rw [valA_nil, numL_small _ (by omega)]
      refine ⟨?_, by omega⟩
      rw [show (((10 * 0 + (c.toNat - 48) : Nat) : Int)).toNat = c.toNat - 48 by omega, digit_back c hc]
      rfl
    · have hl' : d'.length = k := by simpa using hl
      have hpos : 0 < d'.length := List.length_pos_iff.2 e
      obtain ⟨h1, h2⟩ := ih d' hl' (fun c hc => hd c (by simp [hc])) e (by
        simp only [List.getD_eq_getElem?_getD] at h0 ⊢
        rwa [List.getElem?_append_left hpos] at h0)
      refine ⟨?_, by omega⟩
      rw [numL_step _ (by omega)]
      rw [show ((10 * valA 0 d' + (c.toNat - 48) : Nat) : Int) / 10 = ((valA 0 d' : Nat) : Int) by omega, h1]
      rw [show (((10 * valA 0 d' + (c.toNat - 48) : Nat) : Int) % 10).toNat = c.toNat - 48 by omega, digit_back c hc]

/-- what a length at a place is -/
theorem lenR_cases (l : List UInt8) (p M : Nat) :
    (l.length ≤ p ∧ lenR l p M = (0, (p : Int), 2)) ∨ (p < l.length ∧ ¬ isD (l.getD p 0) ∧ lenR l p M = (0, (p : Int), 3)) ∨ (p < l.length ∧ lenR l p M = (0, (p : Int), 4)) ∨
    ∃ k n, 1 ≤ k ∧ p + k ≤ l.length ∧ n ≤ M ∧ (l.drop p).take k = numL ((n : Nat) : Int) ∧ lenR l p M = ((n : Int), ((p + k : Nat) : Int), 0) := by
  by_cases h1 : l.length ≤ p
  · exact .inl ⟨h1, by unfold lenR; rw [if_neg (by omega), if_pos (by omega)]⟩
  · replace h1 : p < l.length := by omega
    right
    by_cases h2 : isD (l.getD p 0)
    · right
      by_cases h3 : l.getD p 0 = 48
      · right
        refine ⟨1, 0, Nat.le_refl _, h1, Nat.zero_le _, ?_, ?_⟩
        · rw [List.drop_eq_getElem_cons h1]
          have : l[p] = 48 := by rw [← h3]; simp [List.getD_eq_getElem?_getD, h1]
          rw [this, numL_small _ (by omega)]
          rfl
        · unfold lenR
          rw [if_neg (by omega), if_neg (by omega), Int.toNat_natCast, if_neg (fun h => h h2), if_pos h3]
          rfl
      · have hb : lenR l p M = match lenScan M 0 (l.drop p) with
          | none => (0, (p : Int), 4)
          | some (n, k) => ((n : Int), (p : Int) + k, 0) := by
          unfold lenR
          rw [if_neg (by omega), if_neg (by omega), Int.toNat_natCast, if_neg (fun h => h h2), if_neg h3]
          all_goals (cases lenScan M 0 (l.drop p) <;> rfl)
        cases hs : lenScan M 0 (l.drop p) with
        | none => exact .inl ⟨h1, by rw [hb, hs]⟩
        | some q =>
          right
          obtain ⟨n, k⟩ := q
          obtain ⟨k1, k2, k3, k4⟩ := lenScan_some _ _ hs
          have hk : 1 ≤ k := by
            rcases Nat.eq_zero_or_pos k with e | e
            · subst e
              rw [List.drop_eq_getElem_cons h1] at hs
              unfold lenScan at hs
              have e2 : l[p] = l.getD p 0 := by simp [List.getD_eq_getElem?_getD, h1]
              rw [e2, if_pos h2] at hs
              split at hs
              · cases hs
              · cases hr : lenScan M (10 * 0 + ((l.getD p 0).toNat - 48)) (l.drop (p + 1)) with
                | none => rw [hr] at hs; cases hs
                | some q => rw [hr] at hs; simp at hs
            · exact e
          rw [List.length_drop] at k1
          refine ⟨k, n, hk, by omega, k4 (Nat.zero_le _), ?_, by rw [hb, hs]; simp⟩
          rw [k3]
          refine (numL_valA k _ (by simp; omega) k2 ?_ ?_).1.symm
          · intro e
            have := congrArg List.length e
            simp at this
            omega
          · simp only [List.getD_eq_getElem?_getD] at h3 ⊢
            rw [List.getElem?_take_of_lt (by omega), List.getElem?_drop]
            simpa using h3
    · exact .inl ⟨h1, h2, by unfold lenR; rw [if_neg (by omega), if_neg (by omega), Int.toNat_natCast, if_pos h2]⟩

/-- a length that stands at a place is read -/
theorem lenR_at {l : List UInt8} {p n M : Nat} {t : List UInt8} (h : l.drop p = numL ((n : Nat) : Int) ++ t) (ht : ∀ c r, t = c :: r → ¬ isD c) (hM : n ≤ M) : lenR l p M = ((n : Int), ((p + (numL ((n : Nat) : Int)).length : Nat) : Int), 0) := by
  have hb := back_len (n : Int) (by omega) t ht M (by omega)
  have hpos := (numL_facts n).2.2
  have hlt : p < l.length := by
    have := congrArg List.length h
    simp at this
    omega
  have e0 : l.getD p 0 = (l.drop p).getD 0 0 := by simp [List.getD_eq_getElem?_getD]
  rw [← h] at hb
  unfold lenR at hb ⊢
  rw [if_neg (by omega), if_neg (by simp; omega), Int.toNat_zero] at hb
  rw [if_neg (by omega), if_neg (by omega), Int.toNat_natCast, e0]
  rw [List.drop_zero] at hb
  split at hb
  · simp at hb
  · rename_i h1
    rw [if_neg h1]
    split at hb
    · rename_i h2
      rw [if_pos h2]
      simp only [Prod.mk.injEq] at hb ⊢
      exact ⟨by omega, by omega, trivial⟩
    · rename_i h2
      rw [if_neg h2]
      cases hs : lenScan M 0 (l.drop p) with
      | none => rw [hs] at hb; simp at hb
      | some q =>
        obtain ⟨n', k'⟩ := q
        rw [hs] at hb
        simp only [Prod.mk.injEq] at hb ⊢
        exact ⟨hb.1, by omega, trivial⟩

theorem getD_drop (l : List UInt8) (p i : Nat) : (l.drop p).getD i 0 = l.getD (p + i) 0 := by simp [List.getD_eq_getElem?_getD]

/-- bytes that stand at a place are read -/
theorem rBytes_at {l b r : List UInt8} {p : Nat} (h : l.drop p = textL b ++ r) (hb : b.length ≤ 4096) : rBytes l p = (b, p + (textL b).length, 0) := by
  simp only [textL, List.append_assoc, List.cons_append] at h
  have hn := lenR_at h (fun c r e => by simp only [List.cons.injEq] at e; rw [← e.1]; exact not_isD (by decide)) hb
  have hlen := congrArg List.length h
  simp only [List.length_drop, List.length_append, List.length_cons] at hlen
  have h58 : l.getD (p + (numL ((b.length : Nat) : Int)).length) 0 = 58 := by
    rw [← getD_drop, h]
    simp [List.getD_eq_getElem?_getD]
  have hpos := (numL_facts b.length).2.2
  have hdr : l.drop (p + (numL ((b.length : Nat) : Int)).length + 1) = b ++ r := by
    rw [Nat.add_assoc, ← List.drop_drop, h, ← List.drop_drop, List.drop_left]
    rfl
  unfold rBytes
  simp only [hn, Int.toNat_natCast]
  rw [if_neg (by omega), if_neg (by omega), if_neg (by omega), if_neg (by rw [h58]; simp), if_neg (by omega), hdr]
  simp only [Prod.mk.injEq, and_true]
  exact ⟨by simp, by simp [textL]; omega⟩

/-- bytes that were read stood there -/
theorem rBytes_ok {l b : List UInt8} {p q : Nat} (h : rBytes l p = (b, q, 0)) : l.drop p = textL b ++ l.drop q ∧ q = p + (textL b).length ∧ q ≤ l.length ∧ b.length ≤ 4096 := by
  unfold rBytes at h
  simp only at h
  rcases lenR_cases l p 4096 with ⟨_, e⟩ | ⟨_, _, e⟩ | ⟨_, e⟩ | ⟨k, n, hk, hp, hn, ht, e⟩
  · rw [e] at h; simp at h
  · rw [e] at h; simp at h
  · rw [e] at h; simp at h
  · rw [e] at h
    simp only [Int.toNat_natCast] at h
    rw [if_neg (by omega), if_neg (by omega)] at h
    split at h
    · simp at h
    · rename_i h1
      split at h
      · simp at h
      · rename_i h2
        split at h
        · simp at h
        · rename_i h3
          simp only [Prod.mk.injEq, and_true] at h
          obtain ⟨rfl, rfl⟩ := h
          replace h2 : l.getD (p + k) 0 = 58 := by simpa using h2
          have hbl : ((l.drop (p + k + 1)).take n).length = n := by simp; omega
          have hnl : (numL ((n : Nat) : Int)).length = k := by rw [← ht]; simp; omega
          refine ⟨?_, by simp only [textL, List.length_append, List.length_cons, hbl, hnl]; omega, by omega, by rw [hbl]; exact hn⟩
          simp only [textL, hbl, List.append_assoc, List.cons_append]
          rw [← ht]
          have e1 : l.drop p = (l.drop p).take k ++ (l.drop p).drop k := (List.take_append_drop k _).symm
          rw [List.drop_drop] at e1
          have e2 : l.drop (p + k) = 58 :: l.drop (p + k + 1) := by
            rw [List.drop_eq_getElem_cons (by omega)]
            congr 1
            rw [← h2]
            simp [List.getD_eq_getElem?_getD, show p + k < l.length by omega]
          have e3 : l.drop (p + k + 1) = (l.drop (p + k + 1)).take n ++ l.drop (p + k + 1 + n) := by
            have := (List.take_append_drop n (l.drop (p + k + 1))).symm
            rwa [List.drop_drop] at this
          rw [← e3, ← e2]
          exact e1

/-- an error is told at a place that is there -/
theorem rBytes_err {l b : List UInt8} {p q e : Nat} (h : rBytes l p = (b, q, e)) (hp : p ≤ l.length) : q ≤ l.length ∧ e ≤ 4 := by
  unfold rBytes at h
  simp only at h
  rcases lenR_cases l p 4096 with ⟨_, e1⟩ | ⟨_, _, e1⟩ | ⟨_, e1⟩ | ⟨k, n, hk, hp, hn, ht, e1⟩
  · rw [e1] at h; simp at h; omega
  · rw [e1] at h; simp at h; omega
  · rw [e1] at h; simp at h; omega
  · rw [e1] at h
    simp only [Int.toNat_natCast] at h
    rw [if_neg (by omega), if_neg (by omega)] at h
    split at h
    · simp at h; omega
    · split at h
      · simp at h; omega
      · split at h
        · simp at h; omega
        · simp at h; omega

/-- bytes that are cut off are short -/
theorem rBytes_cut {l b r : List UInt8} {p k : Nat} (h : l.drop p = (textL b ++ r).take k) (hk : k < (textL b).length) (hb : b.length ≤ 4096) (hp : p ≤ l.length) : rBytes l p = ([], l.length, 2) := by
  rw [List.take_append_of_le_length (by omega)] at h
  have hkl : l.length = p + k := by
    have := congrArg List.length h
    simp at this
    omega
  obtain ⟨N, hN⟩ : ∃ N, N = numL ((b.length : Nat) : Int) := ⟨_, rfl⟩
  obtain ⟨f1, f2, f3⟩ := numL_facts b.length
  rw [← hN] at f1 f2 f3
  have ht : textL b = N ++ 58 :: b := by rw [hN]; rfl
  rw [ht] at h hk
  simp only [List.length_append, List.length_cons] at hk
  unfold rBytes
  simp only
  by_cases h1 : k ≤ N.length
  · rw [List.take_append_of_le_length h1] at h
    rcases lenR_cases l p 4096 with ⟨_, e⟩ | ⟨h2, h3, e⟩ | ⟨h2, e⟩ | ⟨k', n, hk', hp', hn', ht', e⟩
    · rw [e]; simp
    · refine absurd (f1 _ ?_) h3
      have : l.getD p 0 = (l.drop p).getD 0 0 := by simp [List.getD_eq_getElem?_getD]
      rw [this, h]
      have hk0 : 0 < k := by omega
      simp only [List.getD_eq_getElem?_getD]
      rw [List.getElem?_take_of_lt hk0, List.getElem?_eq_getElem f3]
      simp
    · -- the digits of a small number are not too many
      exfalso
      have h2' : isD (l.getD p 0) ∧ l.getD p 0 ≠ 48 ∧ lenScan 4096 0 (l.drop p) = none := by
        unfold lenR at e
        rw [if_neg (by omega), if_neg (by omega), Int.toNat_natCast] at e
        split at e
        · simp at e
        · rename_i h5
          split at e
          · simp at e
          · rename_i h6
            cases hs : lenScan 4096 0 (l.drop p) with
            | none => exact ⟨Decidable.not_not.1 h5, h6, rfl⟩
            | some q => rw [hs] at e; simp at e
      have h7 := h2'.2.2
      rw [h] at h7
      have happ := lenScan_app 4096 [] (N.take k) 0 (fun c hc => f1 c (List.mem_of_mem_take hc)) (Nat.zero_le _)
      rw [List.append_nil, h7] at happ
      have hle : valA 0 (N.take k) ≤ valA 0 N := by
        have e1 : valA 0 N = valA (valA 0 (N.take k)) (N.drop k) := by
          conv => lhs; rw [← List.take_append_drop k N]
          unfold valA
          rw [List.foldl_append]
        rw [e1]
        exact valA_ge _ _
      rw [f2] at hle
      rw [if_neg (by omega)] at happ
      simp [lenScan] at happ
    · have hall : p + k' = l.length := by
        rcases Nat.lt_or_ge (p + k') l.length with h4 | h4
        · exfalso
          -- what stands behind the digits is no digit, or the number is a nought
          by_cases h0 : l.getD p 0 = 48
          · have hN0 : N.getD 0 0 = 48 := by
              have : l.getD p 0 = (l.drop p).getD 0 0 := by simp [List.getD_eq_getElem?_getD]
              rw [this, h] at h0
              have hk0 : 0 < k := by omega
              simp only [List.getD_eq_getElem?_getD] at h0 ⊢
              rwa [List.getElem?_take_of_lt hk0] at h0
            have := (dec_facts b.length).2.2.1
            have hz : b.length = 0 := by
              rcases Nat.eq_zero_or_pos b.length with e0 | e0
              · exact e0
              · exact absurd (by rw [hN] at hN0; unfold numL at hN0; simpa using hN0) (this e0)
            have hNl : N.length = 1 := by rw [hN, hz, show ((0 : Nat) : Int) = 0 from rfl, numL_small 0 (by omega)]; rfl
            omega
          · have h8 : lenScan 4096 0 (l.drop p) = some (n, k') := by
              have e' := e
              unfold lenR at e'
              rw [if_neg (by omega), if_neg (by omega), Int.toNat_natCast] at e'
              split at e'
              · simp at e'
              · cases hs : lenScan 4096 0 (l.drop p) with
                | none => rw [hs] at e'; simp at e'
                | some q =>
                  obtain ⟨a, c⟩ := q
                  rw [hs] at e'
                  simp only [Prod.mk.injEq] at e'
                  congr 2 <;> omega
            have happ := lenScan_app 4096 [] (N.take k) 0 (fun c hc => f1 c (List.mem_of_mem_take hc)) (Nat.zero_le _)
            rw [List.append_nil, ← h, h8] at happ
            split at happ
            · cases happ
            · simp only [lenScan, Option.map_some, Option.some.injEq, Prod.mk.injEq, Nat.zero_add] at happ
              have := happ.2
              rw [List.length_drop] at this
              omega
        · omega
      rw [e]
      simp only [Int.toNat_natCast]
      rw [if_neg (by omega), if_neg (by omega), if_pos (by omega)]
  · replace h1 : N.length < k := by omega
    have h' : l.drop p = N ++ 58 :: b.take (k - N.length - 1) := by
      rw [h, List.take_append]
      rw [List.take_of_length_le (by omega), show k - N.length = (k - N.length - 1) + 1 by omega, List.take_succ_cons]
      rfl
    have hn := lenR_at (by rw [hN] at h'; exact h') (fun c r e => by simp only [List.cons.injEq] at e; rw [← e.1]; exact not_isD (by decide)) hb
    rw [← hN] at hn
    have h58 : l.getD (p + N.length) 0 = 58 := by
      rw [← getD_drop, h']
      simp [List.getD_eq_getElem?_getD]
    simp only [hn, Int.toNat_natCast]
    rw [if_neg (by omega), if_neg (by omega), if_neg (by omega), if_neg (by rw [h58]; simp), if_pos (by omega)]
end Go.Proofs.YtkbblhioncecmaaDoor
namespace Go.Proofs.YtkbblhioncecmaaDoor
open Go.RowKit

theorem drop_cons {l : List UInt8} {p : Nat} {c : UInt8} {r : List UInt8} (h : l.drop p = c :: r) : p < l.length ∧ l.getD p 0 = c ∧ l.drop (p + 1) = r := by
  have hlt : p < l.length := by
    have := congrArg List.length h
    simp at this
    omega
  refine ⟨hlt, ?_, ?_⟩
  · have := getD_drop l p 0
    rw [h] at this
    simpa using this.symm
  · rw [← List.drop_drop, h]; rfl
theorem drop_app {l a r : List UInt8} {p : Nat} (h : l.drop p = a ++ r) : l.drop (p + a.length) = r := by
  rw [← List.drop_drop, h, List.drop_left]
theorem textL_bound {x : List UInt8} : x.length < (textL x).length := by simp [textL]; omega

/-- an atom that stands at a place -/
theorem rAtom_at {l : List UInt8} {h : Bool} {hi da r : List UInt8} {p n : Nat} (hl : l.drop p = (Sx.mk false h hi da []).form ++ r) (hc : (Sx.mk false h hi da []).clean = true) (hf : (Sx.mk false h hi da []).form.length ≤ 4096) :
    rAtom l p n = ⟨.mk false h hi da [], p + (Sx.mk false h hi da []).form.length, n, 0⟩ := by
  obtain ⟨_, p2, _⟩ := clean_parts hc
  rw [form_def] at hl hf ⊢
  have b1 := textL_bound (x := hi)
  have b2 := textL_bound (x := da)
  cases h with
  | true =>
    simp only [Bool.false_eq_true, if_false, if_true, List.length_cons, List.length_append, List.length_nil] at hl hf ⊢
    simp only [List.cons_append, List.append_assoc] at hl
    obtain ⟨h1, h2, h3⟩ := drop_cons hl
    have r1 := rBytes_at h3 (by omega)
    have h4 := drop_app h3
    simp only [List.nil_append] at h4
    obtain ⟨h5, h6, h7⟩ := drop_cons h4
    have r2 := rBytes_at h7 (by omega)
    unfold rAtom
    rw [if_pos h2]
    simp only [r1]
    rw [if_neg (by simp), if_neg (by omega), if_neg (by rw [h6]; simp)]
    simp only [r2]
    rw [if_neg (by simp)]
    congr 1
    omega
  | false =>
    obtain rfl := (p2 rfl).2 rfl
    simp only [Bool.false_eq_true, if_false, List.nil_append] at hl hf ⊢
    obtain ⟨c, t, e, hd⟩ := textL_head da r
    have h2 := (drop_cons (hl.trans e)).2.1
    have r1 := rBytes_at hl (by omega)
    unfold rAtom
    rw [if_neg (by rw [h2]; intro e2; subst e2; exact absurd hd (not_isD (by decide)))]
    simp only [r1]
    rw [if_neg (by simp)]

theorem starts_head {l : List UInt8} {s : Sx} {r : List UInt8} {p : Nat} (h : l.drop p = s.form ++ r) : p < l.length ∧ starts (l.getD p 0) ∧ (l.getD p 0 = 40 ↔ s.l = true) ∧ l.getD p 0 ≠ 41 := by
  obtain ⟨c, t, e, hc⟩ := form_head s r
  obtain ⟨h1, h2, _⟩ := drop_cons (h.trans e)
  rw [h2]
  refine ⟨h1, ?_⟩
  have d1 : ¬ isD 40 := not_isD (by decide)
  have d2 : ¬ isD 41 := not_isD (by decide)
  rcases hc with ⟨a, rfl⟩ | ⟨a, b, rfl⟩ | ⟨a, b, hd⟩
  · exact ⟨.inl rfl, ⟨fun _ => a, fun _ => rfl⟩, by decide⟩
  · exact ⟨.inr (.inl rfl), ⟨fun h => absurd h (by decide), fun h => by rw [a] at h; cases h⟩, by decide⟩
  · exact ⟨.inr (.inr hd), ⟨fun h => absurd (h ▸ hd) d1, fun h => by rw [a] at h; cases h⟩, fun h => d2 (h ▸ hd)⟩

/-- a form that stands at a place is read -/
theorem St_form {l : List UInt8} (s : Sx) : ∀ (p lv n : Nat) (r : List UInt8), s.clean = true → l.drop p = s.form ++ r → n + s.nodes ≤ 512 → s.deep + lv ≤ 17 → s.form.length ≤ 4096 → St l none p lv n ⟨s, p + s.form.length, n + s.nodes, 0⟩ := by
  induction s using Sx.ind with
  | h tl th hi da ks ih =>
    intro p lv n r hc h hn hd hf
    obtain ⟨h1, h2, h3, _⟩ := starts_head h
    obtain ⟨p1, p2, p3⟩ := clean_parts hc
    cases tl with
    | false =>
      obtain ⟨rfl, _⟩ := p2 rfl
      have hA := rAtom_at (n := n + 1) h hc hf
      have e : (Sx.mk false th hi da []).nodes = 1 := by simp [Sx.nodes, Sx.nodesL]
      rw [e] at hn ⊢
      rw [← hA]
      exact .atom h1 h2 (fun h => by have := h3.1 h; cases this) (by omega)
    | true =>
      obtain ⟨rfl, rfl, rfl⟩ := p1 rfl
      have h4 := h3.2 rfl
      rw [form_def, if_pos rfl] at h hf
      have hfd : (Sx.mk true false [] [] ks).form = 40 :: (Sx.formL ks ++ [41]) := by rw [form_def, if_pos rfl]
      rw [hfd]
      simp only [List.length_cons, List.length_append, List.length_nil] at hf ⊢
      simp only [Sx.nodes, Sx.deep, if_true] at hn hd ⊢
      simp only [List.cons_append, List.append_assoc, List.nil_append] at h
      obtain ⟨_, _, h5⟩ := drop_cons h
      have key : ∀ (ks' acc : List Sx) (q m : Nat), (∀ k ∈ ks', k ∈ ks) → l.drop q = Sx.formL ks' ++ 41 :: r → m + Sx.nodesL ks' ≤ 512 → (Sx.formL ks').length ≤ 4096 →
          St l (some acc) q lv m ⟨.mk true false [] [] (acc ++ ks'), q + (Sx.formL ks').length + 1, m + Sx.nodesL ks', 0⟩ := by
        intro ks'
        induction ks' with
        | nil =>
          intro acc q m _ hq _ _
          obtain ⟨q1, q2, _⟩ := drop_cons (by simpa [Sx.formL] using hq)
          simpa [Sx.formL, Sx.nodesL] using St.close (lv := lv) (n := m) (acc := acc) q1 q2
        | cons a t iht =>
          intro acc q m hin hq hm hfl
          simp only [Sx.formL, List.append_assoc] at hq
          simp only [Sx.nodesL, Sx.formL, List.length_append] at hm hfl ⊢
          have ha := hin a List.mem_cons_self
          have hdeep := Sx.deepL_mem ha
          have s1 := ih a ha q (lv + 1) m _ (p3 a ha) hq (by omega) (by omega) (by omega)
          have s2 := iht (acc ++ [a]) (q + a.form.length) (m + a.nodes) (fun k hk => hin k (List.mem_cons_of_mem _ hk)) (drop_app hq) (by omega) (by omega)
          have hno := (starts_head hq).2.2.2
          have := St.more (fun h => hno h.2) s1 rfl s2
          simpa [Nat.add_assoc] using this
      have hk := key ks [] (p + 1) (n + 1) (fun k hk => hk) h5 (by omega) (by omega)
      rw [List.nil_append] at hk
      have := St.list h1 h4 (by omega) (by omega) hk
      have e1 : p + 1 + (Sx.formL ks).length + 1 = p + ((Sx.formL ks).length + (0 + 1) + 1) := by omega
      have e2 : n + 1 + Sx.nodesL ks = n + (1 + Sx.nodesL ks) := by omega
      rw [e1, e2] at this
      exact this

/-- what is read stood there -/
def OkP (l : List UInt8) : Option (List Sx) → Nat → Nat → Nat → RV → Prop
  | none, p, lv, n, r => lv ≤ 17 → n ≤ 512 → l.drop p = r.v.form ++ l.drop r.p ∧ r.p = p + r.v.form.length ∧ r.p ≤ l.length ∧ r.v.clean = true ∧ r.n = n + r.v.nodes ∧ r.n ≤ 512 ∧ r.v.deep + lv ≤ 17
  | some acc, p, lv, n, r => lv ≤ 16 → n ≤ 512 → ∃ ks, r.v = .mk true false [] [] (acc ++ ks) ∧ l.drop p = Sx.formL ks ++ 41 :: l.drop r.p ∧ r.p = p + (Sx.formL ks).length + 1 ∧ r.p ≤ l.length ∧ Sx.cleanL ks = true ∧ r.n = n + Sx.nodesL ks ∧ r.n ≤ 512 ∧ Sx.deepL ks + lv ≤ 16

theorem cleanL_cons (a : Sx) (ks : List Sx) : Sx.cleanL (a :: ks) = (a.clean && Sx.cleanL ks) := rfl
theorem drop_eq {l : List UInt8} {p : Nat} (h : p < l.length) : l.drop p = l.getD p 0 :: l.drop (p + 1) := by
  rw [List.drop_eq_getElem_cons h]
  congr 1
  simp [List.getD_eq_getElem?_getD, h]

theorem St_ok {l : List UInt8} {m : Option (List Sx)} {p lv n : Nat} {r : RV} (h : St l m p lv n r) : r.e = 0 → OkP l m p lv n r := by
  induction h with
  | short | bad | long => intro h; cases h
  | @atom p lv n h1 h2 h3 h4 =>
    intro h hlv hn
    unfold rAtom at h ⊢
    split at h
    · rename_i h5
      rw [if_pos h5]
      obtain ⟨⟨b1, q1, e1⟩, hr1⟩ : ∃ x, x = rBytes l (p + 1) := ⟨_, rfl⟩
      simp only [← hr1] at h ⊢
      split at h
      · rename_i h6; exact absurd h h6
      · rename_i h6
        rw [if_neg h6]
        replace h6 : e1 = 0 := by simpa using h6
        subst h6
        obtain ⟨k1, k2, k3, k4⟩ := rBytes_ok hr1.symm
        split at h
        · cases h
        · rename_i h7
          rw [if_neg h7]
          split at h
          · cases h
          · rename_i h8
            rw [if_neg h8]
            obtain ⟨⟨b2, q2, e2⟩, hr2⟩ : ∃ x, x = rBytes l (q1 + 1) := ⟨_, rfl⟩
            simp only [← hr2] at h ⊢
            split at h
            · rename_i h9; exact absurd h h9
            · rename_i h9
              rw [if_neg h9]
              replace h9 : e2 = 0 := by simpa using h9
              subst h9
              obtain ⟨g1, g2, g3, g4⟩ := rBytes_ok hr2.symm
              replace h8 : l.getD q1 0 = 93 := by simpa using h8
              have hfd : (Sx.mk false true b1 b2 []).form = 91 :: (textL b1 ++ [93]) ++ textL b2 := by rw [form_def, if_neg (by simp), if_pos rfl]
              refine ⟨?_, ?_, g3, by rw [clean_def]; simp [headOk, Sx.cleanL], by simp [Sx.nodes, Sx.nodesL], by omega, by simp [Sx.deep]; exact hlv⟩
              · simp only [hfd, List.cons_append, List.append_assoc, List.nil_append]
                rw [drop_eq h1, h5, k1, drop_eq (by omega), h8, g1]
              · simp only [hfd, List.length_append, List.length_cons, List.length_nil]; omega
    · rename_i h5
      rw [if_neg h5]
      obtain ⟨⟨b1, q1, e1⟩, hr1⟩ : ∃ x, x = rBytes l p := ⟨_, rfl⟩
      simp only [← hr1] at h ⊢
      split at h
      · rename_i h6; exact absurd h h6
      · rename_i h6
        rw [if_neg h6]
        replace h6 : e1 = 0 := by simpa using h6
        subst h6
        obtain ⟨k1, k2, k3, k4⟩ := rBytes_ok hr1.symm
        have hfd : (Sx.mk false false [] b1 []).form = textL b1 := by rw [form_def]; simp
        refine ⟨by simp only [hfd]; exact k1, by simp only [hfd]; exact k2, k3, by rw [clean_def]; simp [headOk, Sx.cleanL], by simp [Sx.nodes, Sx.nodesL], by omega, by simp [Sx.deep]; exact hlv⟩
  | @list p lv n r h1 h2 h3 h4 _ ih =>
    intro h hlv hn
    obtain ⟨ks, e1, e2, e3, e4, e5, e6, e7, e8⟩ := ih h h4 h3
    rw [List.nil_append] at e1
    have hfd : r.v.form = 40 :: (Sx.formL ks ++ [41]) := by rw [e1, form_def, if_pos rfl]
    refine ⟨by rw [hfd, drop_eq h1, h2, e2]; simp, by rw [hfd]; simp only [List.length_cons, List.length_append, List.length_nil]; omega, e4, by rw [e1, clean_def, e5]; simp [headOk], by rw [e1]; simp only [Sx.nodes]; omega, e7, by rw [e1]; simp only [Sx.deep, if_true]; omega⟩
  | @close p lv n acc h1 h2 =>
    intro _ hlv hn
    exact ⟨[], by simp, by rw [drop_eq h1, h2]; rfl, by simp [Sx.formL], h1, rfl, by simp [Sx.nodesL], hn, by simpa [Sx.deepL] using hlv⟩
  | fail _ _ h3 => intro h; exact absurd h h3
  | @more p lv n acc r r' h1 _ h3 _ ih1 ih2 =>
    intro h hlv hn
    obtain ⟨a1, a2, a3, a4, a5, a6, a7⟩ := ih1 h3 (by omega) hn
    obtain ⟨ks, e1, e2, e3, e4, e5, e6, e7, e8⟩ := ih2 h hlv a6
    refine ⟨r.v :: ks, by rw [e1]; simp, by simp only [Sx.formL, List.append_assoc]; rw [← e2]; exact a1, by simp only [Sx.formL, List.length_append]; omega, e4, by rw [cleanL_cons, a4, e5]; rfl, by simp only [Sx.nodesL]; omega, e7, by simp only [Sx.deepL]; omega⟩

theorem take_cons_pos {c : UInt8} {x : List UInt8} {k : Nat} (h : 0 < k) : (c :: x).take k = c :: x.take (k - 1) := by
  cases k with
  | zero => omega
  | succ k => rfl

/-- a form that is cut off is short -/
theorem St_cut {l : List UInt8} (s : Sx) : ∀ (p lv n k : Nat), s.clean = true → l.drop p = s.form.take k → k < s.form.length → n + s.nodes ≤ 512 → s.deep + lv ≤ 17 → s.form.length ≤ 4096 → p ≤ l.length → St l none p lv n (RV.err l.length 2) := by
  induction s using Sx.ind with
  | h tl th hi da ks ih =>
    intro p lv n k hc h hk hn hd hf hp
    have hkl : l.length = p + k := by
      have := congrArg List.length h
      simp at this
      omega
    by_cases hk0 : k = 0
    · exact .short (by omega)
    replace hk0 : 0 < k := by omega
    obtain ⟨p1, p2, p3⟩ := clean_parts hc
    have hhead : p < l.length ∧ starts (l.getD p 0) ∧ (l.getD p 0 = 40 ↔ tl = true) := by
      obtain ⟨c, t, e, hcc⟩ := form_head (.mk tl th hi da ks) []
      rw [List.append_nil] at e
      rw [e, take_cons_pos hk0] at h
      obtain ⟨h1, h2, _⟩ := drop_cons h
      rw [h2]
      refine ⟨h1, ?_⟩
      have d1 : ¬ isD 40 := not_isD (by decide)
      rcases hcc with ⟨a, rfl⟩ | ⟨a, b, rfl⟩ | ⟨a, b, hdd⟩
      · exact ⟨.inl rfl, ⟨fun _ => a, fun _ => rfl⟩⟩
      · exact ⟨.inr (.inl rfl), ⟨fun h => absurd h (by decide), fun h => by simp only [Sx.l] at a; rw [a] at h; cases h⟩⟩
      · exact ⟨.inr (.inr hdd), ⟨fun h => absurd (h ▸ hdd) d1, fun h => by simp only [Sx.l] at a; rw [a] at h; cases h⟩⟩
    obtain ⟨h1, h2, h3⟩ := hhead
    cases tl with
    | false =>
      obtain ⟨rfl, p4⟩ := p2 rfl
      have e : (Sx.mk false th hi da []).nodes = 1 := by simp [Sx.nodes, Sx.nodesL]
      rw [e] at hn
      have hA : rAtom l p (n + 1) = RV.err l.length 2 := by
        have b1 := textL_bound (x := hi)
        have b2 := textL_bound (x := da)
        rw [form_def] at h hf hk
        cases th with
        | true =>
          simp only [Bool.false_eq_true, if_false, if_true, List.length_cons, List.length_append, List.length_nil] at h hf hk
          simp only [List.cons_append, List.append_assoc] at h
          rw [take_cons_pos hk0] at h
          obtain ⟨_, h5, h6⟩ := drop_cons h
          unfold rAtom
          rw [if_pos h5]
          by_cases hk1 : k - 1 < (textL hi).length
          · have r1 := rBytes_cut h6 hk1 (by omega) (by omega)
            simp only [r1]
            rw [if_pos (by simp)]
          · rw [List.take_append, List.take_of_length_le (by omega)] at h6
            have r1 := rBytes_at h6 (by omega)
            simp only [r1]
            rw [if_neg (by simp)]
            by_cases hk2 : k - 1 = (textL hi).length
            · rw [if_pos (by omega)]
            · rw [if_neg (by omega)]
              have h7 := drop_app h6
              simp only [List.nil_append] at h7
              rw [show k - 1 - (textL hi).length = (k - 2 - (textL hi).length) + 1 by omega] at h7
              simp only [List.take_succ_cons] at h7
              obtain ⟨h8, h9, h10⟩ := drop_cons h7
              rw [if_neg (by rw [h9]; simp)]
              have r2 := rBytes_cut (r := []) (by rw [List.append_nil]; exact h10) (by omega) (by omega) (by omega)
              simp only [r2]
              rw [if_pos (by simp)]
        | false =>
          obtain rfl := p4 rfl
          simp only [Bool.false_eq_true, if_false, List.nil_append] at h hf hk
          have r1 := rBytes_cut (r := []) (by rw [List.append_nil]; exact h) hk (by omega) hp
          have hne : l.getD p 0 ≠ 91 := by
            obtain ⟨c, t, e, hdd⟩ := textL_head da []
            rw [List.append_nil] at e
            rw [e, take_cons_pos hk0] at h
            rw [(drop_cons h).2.1]
            intro e2
            subst e2
            exact absurd hdd (not_isD (by decide))
          unfold rAtom
          rw [if_neg hne]
          simp only [r1]
          rw [if_pos (by simp)]
      rw [← hA]
      exact .atom h1 h2 (fun h => by have := h3.1 h; cases this) (by omega)
    | true =>
      obtain ⟨rfl, rfl, rfl⟩ := p1 rfl
      have h4 := h3.2 rfl
      rw [form_def, if_pos rfl] at h hf hk
      simp only [List.length_cons, List.length_append, List.length_nil] at hf hk
      simp only [Sx.nodes, Sx.deep, if_true] at hn hd
      rw [take_cons_pos hk0] at h
      obtain ⟨_, _, h5⟩ := drop_cons h
      have key : ∀ (ks' acc : List Sx) (q m k' : Nat), (∀ x ∈ ks', x ∈ ks) → l.drop q = (Sx.formL ks' ++ [41]).take k' → k' < (Sx.formL ks').length + 1 → m + Sx.nodesL ks' ≤ 512 → (Sx.formL ks').length ≤ 4096 → q ≤ l.length →
          St l (some acc) q lv m (RV.err l.length 2) := by
        intro ks'
        induction ks' with
        | nil =>
          intro acc q m k' _ hq hk' _ _ hql
          have : k' = 0 := by simp only [Sx.formL, List.length_nil] at hk'; omega
          subst this
          have hlen := congrArg List.length hq
          simp at hlen
          exact .fail (fun h => by omega) (.short (by omega)) (by simp [RV.err])
        | cons a t iht =>
          intro acc q m k' hin hq hk' hm hfl hql
          simp only [Sx.formL, List.append_assoc] at hq
          simp only [Sx.nodesL, Sx.formL, List.length_append] at hm hfl hk'
          have ha := hin a List.mem_cons_self
          have hdeep := Sx.deepL_mem ha
          by_cases hka : k' < a.form.length
          · rw [List.take_append_of_le_length (by omega)] at hq
            have s1 := ih a ha q (lv + 1) m k' (p3 a ha) hq hka (by omega) (by omega) (by omega) hql
            refine .fail (fun h => ?_) s1 (by simp [RV.err])
            obtain ⟨c, x, e, hcc⟩ := form_head a []
            rw [List.append_nil] at e
            rcases Nat.eq_zero_or_pos k' with e0 | e0
            · subst e0
              have hlen := congrArg List.length hq
              simp at hlen
              omega
            · rw [e, take_cons_pos e0] at hq
              have h9 := (drop_cons hq).2.1
              rw [h9] at h
              rcases hcc with ⟨_, rfl⟩ | ⟨_, _, rfl⟩ | ⟨_, _, hdd⟩
              · exact absurd h.2 (by decide)
              · exact absurd h.2 (by decide)
              · exact absurd (h.2 ▸ hdd) (not_isD (by decide))
          · rw [List.take_append, List.take_of_length_le (by omega)] at hq
            have s1 := St_form a q (lv + 1) m _ (p3 a ha) hq (by omega) (by omega) (by omega)
            have hno := (starts_head hq).2.2.2
            have h9 := drop_app hq
            have hql2 : q + a.form.length ≤ l.length := by
              have := congrArg List.length hq
              simp at this
              omega
            have s2 := iht (acc ++ [a]) (q + a.form.length) (m + a.nodes) (k' - a.form.length) (fun x hx => hin x (List.mem_cons_of_mem _ hx)) h9 (by omega) (by omega) (by omega) hql2
            exact .more (fun h => hno h.2) s1 rfl s2
      exact .list h1 h4 (by omega) (by omega) (key ks [] (p + 1) (n + 1) (k - 1) (fun x hx => hx) h5 (by omega) (by omega) (by omega) (by omega))
end Go.Proofs.YtkbblhioncecmaaDoor
namespace Go.Proofs.YtkbblhioncecmaaDoor
open Go.RowKit
set_option linter.unusedSimpArgs false
set_option linter.unusedVariables false

def BytesP (ok : Nat → Prop) (r : List UInt8 × Nat × Nat) (w : World) (e : Ending) (w' : World) : Prop :=
  ∃ a n c, e = .returned (.tuple #[.slice a n c, .int .i64 r.2.1, .int .i64 r.2.2]) ∧ Sl w' a n c r.1 ∧ InB ok a n ∧ Below w.heap.size w w'

theorem slCut {w : World} {b o n c : Nat} {l : List UInt8} (h : Sl w (some ⟨b, o, none⟩) n c l) (lo m : Nat) (hm : lo + m ≤ n) :
    (c ≠ lo → Sl w (some ⟨b, o + lo, none⟩) m (c - lo) ((l.drop lo).take m)) ∧ (c = lo → Sl w (some ⟨b, o, none⟩) m 0 ((l.drop lo).take m)) := by
  have h1 := (h.take (lo + m) hm).drop lo (by omega)
  rw [Nat.add_sub_cancel_left, show (l.take (lo + m)).drop lo = (l.drop lo).take m by rw [List.drop_take]; congr 1; omega] at h1
  refine ⟨fun e => by rwa [if_neg e] at h1, fun e => ?_⟩
  subst e
  rwa [if_pos rfl, Nat.sub_self] at h1
theorem Sl.keepB {w w2 u : World} {a : Option Addr} {n c : Nat} {l : List UInt8} (h : Sl w2 a n c l) (hi : InB (fun k => k < w.heap.size) a n) (b2 : Below w.heap.size w w2) (bu : Below w.heap.size w u) : Sl u a n c l :=
  h.keep (hi.imp id fun h b o s e => (bu.block b (h b o s e)).trans (b2.block b (h b o s e)).symm)
theorem bytesP_yes {ok : Nat → Prop} {R : List UInt8 × Nat × Nat} {L : List UInt8} {q : Nat} {z : Int} (h : R = (L, q, 0)) (hz : z = (q : Int)) {w w' : World} {a : Option Addr} {n c : Nat} (hs : Sl w' a n c L) (hi : InB ok a n) (hb : Below w.heap.size w w') : BytesP ok R w (.returned (.tuple #[.slice a n c, .int .i64 z, .int .i64 0])) w' := by
  subst h hz
  exact ⟨_, _, _, rfl, hs, hi, hb⟩
theorem bytesP_no {ok : Nat → Prop} {R : List UInt8 × Nat × Nat} {q e : Nat} (h : R = ([], q, e)) {w w' : World} (g : Nat) (hb : Below w.heap.size w w') : BytesP ok R w (.returned (.tuple #[.slice (some ⟨g, 0, none⟩) 0 0, .int .i64 q, .int .i64 e])) w' := by
  subst h
  exact ⟨_, _, _, rfl, ⟨rfl, Nat.le_refl _, Nat.zero_le _, (fun h => by cases h), .inl rfl⟩, .inl rfl, hb⟩

end Go.Proofs.YtkbblhioncecmaaDoor
namespace Go.Proofs.YtkbblhioncecmaaDoor
open Go.RowKit
set_option linter.unusedSimpArgs false
set_option linter.unusedVariables false

/-- what was read is handed back -/
def RP (ok : Nat → Prop) (r : RV) (w : World) (e : Ending) (w' : World) : Prop :=
  ∃ v : SV, e = .returned (.agg #[.bool v.l, .bool v.h, .slice v.a1 v.n1 v.c1, .slice v.a2 v.n2 v.c2, .slice v.a3 v.n3 v.c3, .int .i64 r.p, .int .i64 r.n, .int .i64 r.e]) ∧ RdI (fun k => ok k ∨ w.heap.size ≤ k) w' v r.v ∧ Below w.heap.size w w'
theorem rp_err {ok : Nat → Prop} {r : RV} {p e : Nat} (h : r = RV.err p e) {w w' : World} (hb : Below w.heap.size w w') : RP ok r w (.returned (.agg #[.bool false, .bool false, .slice none 0 0, .slice none 0 0, .slice none 0 0, .int .i64 p, .int .i64 0, .int .i64 e])) w' := by
  subst h
  exact ⟨SV.nil, rfl, rd_nil _ _, hb⟩
theorem rp_ok {ok : Nat → Prop} {r : RV} {s : Sx} {p n : Nat} (h : r = ⟨s, p, n, 0⟩) {w w' : World} (v : SV) (hr : RdI (fun k => ok k ∨ w.heap.size ≤ k) w' v s) (hb : Below w.heap.size w w') :
    RP ok r w (.returned (.agg #[.bool v.l, .bool v.h, .slice v.a1 v.n1 v.c1, .slice v.a2 v.n2 v.c2, .slice v.a3 v.n3 v.c3, .int .i64 p, .int .i64 n, .int .i64 0])) w' := by
  subst h
  exact ⟨v, rfl, hr, hb⟩
theorem byte_ne {a : UInt8} {k : Nat} (h : a.toNat ≠ k) : ((a.toNat : Int) == (k : Int)) = false ∧ ((a.toNat : Int) != (k : Int)) = true := by
  have h1 : ((a.toNat : Int) == (k : Int)) = false := beq_eq_false_iff_ne.2 (fun e => h (Int.ofNat.inj e))
  exact ⟨h1, by rw [bne, h1]; rfl⟩
theorem byte_eq {a : UInt8} {k : Nat} (h : a.toNat = k) : ((a.toNat : Int) == (k : Int)) = true ∧ ((a.toNat : Int) != (k : Int)) = false := by
  have h1 : ((a.toNat : Int) == (k : Int)) = true := beq_iff_eq.2 (by rw [h])
  exact ⟨h1, by rw [bne, h1]; rfl⟩
theorem nat_ne {a : Nat} (h : a ≠ 0) : ((a : Int) == 0) = false ∧ ((a : Int) != 0) = true := by
  have h1 : ((a : Int) == 0) = false := beq_eq_false_iff_ne.2 (by omega)
  exact ⟨h1, by rw [bne, h1]; rfl⟩
theorem rBytes_place {l b : List UInt8} {p q e : Nat} (h : rBytes l p = (b, q, e)) (hp : p ≤ l.length) : q ≤ l.length := (rBytes_err h hp).1
theorem rd_atomI {ok : Nat → Prop} {w : World} {a : Option Addr} {n c : Nat} {l : List UInt8} (h : Sl w a n c l) (hi : InB ok a n) : RdI ok w ⟨false, false, none, 0, 0, a, n, c, none, 0, 0⟩ (.mk false false [] l []) :=
  .mk _ [] l [] (fun _ => SV.nil) (Sl.nil w) (.inl rfl) h hi ⟨Nat.le_refl _, Nat.zero_le _, fun _ => rfl, .inl rfl⟩ (.inl rfl) rfl (fun i hi => by cases hi)
theorem rd_hint {ok : Nat → Prop} {w : World} {a1 a2 : Option Addr} {n1 c1 n2 c2 : Nat} {l1 l2 : List UInt8} (h : Sl w a1 n1 c1 l1) (h2 : Sl w a2 n2 c2 l2) (hi : InB ok a1 n1) (hi2 : InB ok a2 n2) : RdI ok w ⟨false, true, a1, n1, c1, a2, n2, c2, none, 0, 0⟩ (.mk false true l1 l2 []) :=
  .mk _ l1 l2 [] (fun _ => SV.nil) h hi h2 hi2 ⟨Nat.le_refl _, Nat.zero_le _, fun _ => rfl, .inl rfl⟩ (.inl rfl) rfl (fun i hi => by cases hi)

end Go.Proofs.YtkbblhioncecmaaDoor
namespace Go.Proofs.YtkbblhioncecmaaDoor
open Go.RowKit
set_option linter.unusedSimpArgs false
set_option linter.unusedVariables false

/-- a reading's outcome is handed back -/
def RS (ok : Nat → Prop) (l : List UInt8) (p lv m : Nat) (w : World) (e : Ending) (w' : World) : Prop := ∃ r, St l none p lv m r ∧ RP ok r w e w'
/-- what a value in the row may lead to: not to the row itself -/
def okK (ok : Nat → Prop) (g : Nat) (vt : Value) : Nat → Prop := fun k => (ok k ∨ g < k) ∧ vt.ownBlock ≠ some k

theorem bEq {a : UInt8} (k : Nat) (z : Int) (hz : z = (k : Int)) (h : a.toNat = k) : ((a.toNat : Int) == z) = true ∧ ((a.toNat : Int) != z) = false ∧ (a.toNat : Int) = z := by
  subst hz
  exact ⟨(byte_eq h).1, (byte_eq h).2, by rw [h]⟩
theorem bNe {a : UInt8} (k : Nat) (z : Int) (hz : z = (k : Int)) (h : a.toNat ≠ k) : ((a.toNat : Int) == z) = false ∧ ((a.toNat : Int) != z) = true ∧ ¬ (a.toNat : Int) = z := by
  subst hz
  exact ⟨(byte_ne h).1, (byte_ne h).2, by omega⟩
theorem St_place {l : List UInt8} {p lv n : Nat} {r : RV} (h : St l none p lv n r) (he : r.e = 0) (hlv : lv ≤ 17) (hn : n ≤ 512) : p < r.p ∧ r.p ≤ l.length ∧ r.n ≤ 512 ∧ n < r.n := by
  obtain ⟨h1, h2, h3, h4, h5, h6, h7⟩ := St_ok h he hlv hn
  have := nodes_pos r.v
  have hpos : 0 < r.v.form.length := by
    obtain ⟨c, t, e, _⟩ := form_head r.v []
    rw [List.append_nil] at e
    rw [e]; simp
  exact ⟨by omega, h3, h6, by omega⟩
theorem St_err {l : List UInt8} {m : Option (List Sx)} {p lv n : Nat} {r : RV} (h : St l m p lv n r) : r.e ≤ 5 ∧ (p ≤ l.length → r.p ≤ l.length) := by
  induction h with
  | short | bad | long => simp [RV.err]; try omega
  | @atom p lv n h1 h2 h3 h4 =>
    unfold rAtom
    split
    · obtain ⟨⟨b1, q1, e1⟩, hr1⟩ : ∃ x, x = rBytes l (p + 1) := ⟨_, rfl⟩
      have k1 := rBytes_err hr1.symm (by omega)
      simp only [← hr1]
      split
      · simp only [RV.err]; exact ⟨by omega, fun _ => k1.1⟩
      · split
        · simp [RV.err]
        · split
          · simp only [RV.err]; exact ⟨by omega, fun _ => k1.1⟩
          · obtain ⟨⟨b2, q2, e2⟩, hr2⟩ : ∃ x, x = rBytes l (q1 + 1) := ⟨_, rfl⟩
            have k2 := rBytes_err hr2.symm (by omega)
            simp only [← hr2]
            split
            · simp only [RV.err]; exact ⟨by omega, fun _ => k2.1⟩
            · exact ⟨by simp, fun _ => k2.1⟩
    · obtain ⟨⟨b1, q1, e1⟩, hr1⟩ : ∃ x, x = rBytes l p := ⟨_, rfl⟩
      have k1 := rBytes_err hr1.symm (by omega)
      simp only [← hr1]
      split
      · simp only [RV.err]; exact ⟨by omega, fun _ => k1.1⟩
      · exact ⟨by simp, fun _ => k1.1⟩
  | list h1 h2 h3 h4 _ ih => exact ⟨ih.1, fun _ => ih.2 (by omega)⟩
  | close h1 h2 => exact ⟨by simp, fun _ => by simp only []; omega⟩
  | fail _ _ _ ih => exact ih
  | more _ _ _ _ ih1 ih2 => exact ⟨ih2.1, fun h => ih2.2 (ih1.2 h)⟩

theorem Box.range {w : World} {g : Nat} {T : TypeId} {cs : Array Value} (h : Box w g T cs) (o : Nat) (xs : List Value) (hx : ∀ j u, xs[j]? = some u → cs[o + j]? = some u) : w.rangeAt g o xs := fun j u hu => h.cell (o + j) (hx j u hu)
theorem newsK_snoc (K : Nat → SV) (n : Nat) (v : SV) : newsK K n ++ newsK (fun _ => v) 1 = newsK (fun i => if i = n then v else K i) (n + 1) := by
  have e : newsK (fun i => if i = n then v else K i) n = newsK K n := newsK_congr fun i h => if_neg (by omega)
  show newsK K n ++ ([] ++ v.cells.toList) = newsK _ n ++ (if n = n then v else K n).cells.toList
  rw [e, if_pos rfl, List.nil_append]
theorem src_one (w : World) (v : SV) : Src Tryd.prog 5 24 (.slice (some ⟨w.heap.size, 0, none⟩) 1 1) 1 (newsK (fun _ => v) 1) (w.alloc (.cells v.cells 26)) := by
  refine Src.ofSlice _ Tryd.underlying24 _ 1 1 _ (newsK_len _ 1) (fun j u hu => ?_) (newsK_one _ 1)
  rw [Addr.add_mid]
  refine (Box.new w 26 v.cells).cell (0 + j) ?_
  rw [Nat.zero_add]
  simpa [newsK] using hu
theorem kids_more {ok : Nat → Prop} {g B G al : Nat} {own v' : Value} {u w2 : World} {K : Nat → SV} {acc : List Sx} {v : SV} {rv : Sx} (hal : al = acc.length)
    (hK : ∀ i (hi : i < acc.length), RdI (okK ok g own) u (K i) acc[i]) (hR : RdI (fun k => (ok k ∨ B ≤ k) ∧ k < G) u v rv)
    (hok : ∀ k, ok k → k < g) (hB : g < B) (hown : ∀ k, own.ownBlock = some k → g < k ∧ k < B)
    (hg : u.grownBy w2 own.ownBlock) (hw : ∀ k, v'.ownBlock = some k → own.ownBlock = some k ∨ u.heap.size ≤ k) (x : Value) :
    ∀ i (hi : i < (acc ++ [rv]).length), RdI (okK ok g v') (w2.setCell ⟨g, 4, none⟩ x) (if i = al then v else K i) (acc ++ [rv])[i] := by
  have key : ∀ {p : Nat → Prop} {v0 : SV} {s0 : Sx}, RdI p u v0 s0 → (∀ k, p k → (ok k ∨ g < k) ∧ own.ownBlock ≠ some k) → RdI (okK ok g v') (w2.setCell ⟨g, 4, none⟩ x) v0 s0 := by
    intro p v0 s0 h hp
    refine (h.there.keep (fun k hk => ?_)).mono (fun k hk => ⟨(hp k hk.1).1, fun e => ?_⟩)
    · obtain ⟨h1, h2⟩ := hp k hk.1
      have hne : k ≠ g := by
        rcases h1 with h1 | h1
        · exact Nat.ne_of_lt (hok k h1)
        · omega
      exact (heap_setCell_other _ _ _ _ hne).trans (hg.block k hk.2 (fun e => h2 e.symm))
    · rcases hw k e with e | e
      · exact (hp k hk.1).2 e
      · exact absurd hk.2 (by omega)
  intro i hi
  by_cases hia : i = al
  · rw [if_pos hia]
    have e : (acc ++ [rv])[i] = rv := by
      subst hia hal
      simp
    rw [e]
    refine key hR (fun k hk => ⟨hk.1.imp id (fun h => by omega), fun e => ?_⟩)
    have h1 := hown k e
    rcases hk.1 with h2 | h2
    · have := hok k h2; omega
    · omega
  · rw [if_neg hia]
    have hlt : i < acc.length := by simp at hi; omega
    rw [List.getElem_append_left hlt]
    exact key (hK i hlt) (fun k hk => hk)

end Go.Proofs.YtkbblhioncecmaaDoor
namespace Go.Proofs.YtkbblhioncecmaaDoor
open Go.RowKit
set_option linter.unusedSimpArgs false
set_option linter.unusedVariables false

/-- what Get answers: a value, a place, an error -/
def Got (l : List UInt8) (s : Sx) (p e : Nat) : Prop :=
  (4096 < l.length ∧ s = Sx.nil ∧ p = 4096 ∧ e = 4) ∨ (l.length ≤ 4096 ∧ ∃ r, St l none 0 1 0 r ∧ ((r.e ≠ 0 ∧ s = Sx.nil ∧ p = r.p ∧ e = r.e) ∨ (r.e = 0 ∧ r.p < l.length ∧ s = Sx.nil ∧ p = r.p ∧ e = 5) ∨ (r.e = 0 ∧ l.length ≤ r.p ∧ s = r.v ∧ p = 0 ∧ e = 0)))
theorem Got.det {l : List UInt8} {s s' : Sx} {p p' e e' : Nat} (h : Got l s p e) (h' : Got l s' p' e') : s = s' ∧ p = p' ∧ e = e' := by
  rcases h with ⟨h1, h2, h3, h4⟩ | ⟨h1, r, hr, h2⟩
  · rcases h' with ⟨_, h2', h3', h4'⟩ | ⟨h1', _⟩
    · exact ⟨h2.trans h2'.symm, h3.trans h3'.symm, h4.trans h4'.symm⟩
    · omega
  · rcases h' with ⟨h1', _⟩ | ⟨_, r', hr', h2'⟩
    · omega
    · obtain rfl := hr.det hr'
      rcases h2 with ⟨a, b, c, d⟩ | ⟨a, a', b, c, d⟩ | ⟨a, a', b, c, d⟩ <;> rcases h2' with ⟨a1, b1, c1, d1⟩ | ⟨a1, a2, b1, c1, d1⟩ | ⟨a1, a2, b1, c1, d1⟩ <;>
        first | exact ⟨b.trans b1.symm, c.trans c1.symm, d.trans d1.symm⟩ | (exfalso; omega)
def GetP (ok : Nat → Prop) (l : List UInt8) (w : World) (e : Ending) (w' : World) : Prop :=
  ∃ (v : SV) (s : Sx) (p x : Nat), Got l s p x ∧ e = .returned (.tuple #[.agg #[.bool v.l, .bool v.h, .slice v.a1 v.n1 v.c1, .slice v.a2 v.n2 v.c2, .slice v.a3 v.n3 v.c3], .int .i64 p, .int .i64 x]) ∧ RdI (fun k => ok k ∨ w.heap.size ≤ k) w' v s ∧ Below w.heap.size w w'
theorem box_result22 {P : Program} {fn : Func} {p q r : Tmp} {ty : TypeId} (h : fn.results = #[.cell p ty, .tmp q, .tmp r]) (tmps : Array Value) (w : World) {g : Nat} {T : TypeId} {cs : Array Value} {d : TypeDesc}
    (hp : tmps.getD p undef = .pointer (some ⟨g, 0, none⟩)) (hg : Box w g T cs) (hu : P.underlying ty = some d) (hd : (match d with | .struct _ | .array _ _ => true | _ => false) = true) (hi : (P.info? ty).map (·.size) = some cs.size) :
    (results fn tmps).run P w = .ok (.tuple #[.agg cs, tmps.getD q undef, tmps.getD r undef]) w := by
  have hp' : tmps[p]?.getD undef = .pointer (some ⟨g, 0, none⟩) := by simpa using hp
  simp [results, h, hp', asAddr, run_loadVar_row w g T ty cs (0, 0) d hg hu hd hi]

end Go.Proofs.YtkbblhioncecmaaDoor
namespace Go.Proofs.YtkbblhioncecmaaDoor
open Go.RowKit

/-- from a stack of open lists (the innermost first), a place, and how many values began, to what is read in the end -/
inductive Mach (l : List UInt8) : List (List Sx) → Nat → Nat → RV → Prop
  | short {st : List (List Sx)} {p n : Nat} : l.length ≤ p → Mach l st p n (RV.err l.length 2)
  | bad {st : List (List Sx)} {p n : Nat} : p < l.length → ¬ starts (l.getD p 0) → (l.getD p 0 = 41 → st = []) → Mach l st p n (RV.err p 3)
  | long {st : List (List Sx)} {p n : Nat} : p < l.length → starts (l.getD p 0) → (512 < n + 1 ∨ l.getD p 0 = 40 ∧ 16 ≤ st.length) → Mach l st p n (RV.err p 4)
  | fail {st : List (List Sx)} {p n : Nat} : p < l.length → starts (l.getD p 0) → l.getD p 0 ≠ 40 → n + 1 ≤ 512 → (rAtom l p (n + 1)).e ≠ 0 → Mach l st p n (rAtom l p (n + 1))
  | atom {p n : Nat} : p < l.length → starts (l.getD p 0) → l.getD p 0 ≠ 40 → n + 1 ≤ 512 → (rAtom l p (n + 1)).e = 0 → Mach l [] p n (rAtom l p (n + 1))
  | more {ks : List Sx} {st : List (List Sx)} {p n : Nat} {r : RV} : p < l.length → starts (l.getD p 0) → l.getD p 0 ≠ 40 → n + 1 ≤ 512 → (rAtom l p (n + 1)).e = 0 →
      Mach l ((ks ++ [(rAtom l p (n + 1)).v]) :: st) (rAtom l p (n + 1)).p (n + 1) r → Mach l (ks :: st) p n r
  | opens {st : List (List Sx)} {p n : Nat} {r : RV} : p < l.length → l.getD p 0 = 40 → n + 1 ≤ 512 → st.length < 16 → Mach l ([] :: st) (p + 1) (n + 1) r → Mach l st p n r
  | close {ks : List Sx} {p n : Nat} : p < l.length → l.getD p 0 = 41 → Mach l [ks] p n ⟨.mk true false [] [] ks, p + 1, n, 0⟩
  | closes {ks kt : List Sx} {st : List (List Sx)} {p n : Nat} {r : RV} : p < l.length → l.getD p 0 = 41 → Mach l ((kt ++ [.mk true false [] [] ks]) :: st) (p + 1) n r → Mach l (ks :: kt :: st) p n r

/-- what was read of the innermost list goes on into the lists around it -/
def Up (l : List UInt8) : List (List Sx) → RV → RV → Prop
  | [], r1, r => r = r1
  | ks :: st, r1, r => if r1.e ≠ 0 then r = r1 else ∃ r2, St l (some (ks ++ [r1.v])) r1.p (st.length + 1) r1.n r2 ∧ Up l st r2 r
theorem Up.err {l : List UInt8} {st : List (List Sx)} {r : RV} (h : r.e ≠ 0) : Up l st r r := by
  cases st with
  | nil => rfl
  | cons => unfold Up; rw [if_pos h]
theorem Up.same {l : List UInt8} {st : List (List Sx)} {r1 r : RV} (h : Up l st r1 r) (he : r1.e ≠ 0) : r = r1 := by
  cases st with
  | nil => exact h
  | cons => unfold Up at h; rwa [if_pos he] at h
/-- what the machine reads, as the document's reading -/
def MSt (l : List UInt8) : List (List Sx) → Nat → Nat → RV → Prop
  | [], p, n, r => St l none p 1 n r
  | ks :: st, p, n, r => ∃ r1, St l (some ks) p (st.length + 1) n r1 ∧ Up l st r1 r
/-- a value that is read at a place, as what stands next -/
theorem MSt.next {l : List UInt8} {st : List (List Sx)} {p n : Nat} {r1 r : RV} (h : St l none p (st.length + 1) n r1) (hc : p < l.length → l.getD p 0 = 41 → st = []) (hu : Up l st r1 r) : MSt l st p n r := by
  cases st with
  | nil => obtain rfl : r = r1 := hu; exact h
  | cons ks st =>
    have hno : ¬ (p < l.length ∧ l.getD p 0 = 41) := fun e => by have := hc e.1 e.2; cases this
    by_cases he : r1.e = 0
    · unfold Up at hu
      rw [if_neg (by simpa using he)] at hu
      obtain ⟨r2, h2, hu2⟩ := hu
      exact ⟨r2, St.more hno h he h2, hu2⟩
    · obtain rfl := hu.same he
      exact ⟨r, St.fail hno h he, Up.err he⟩
theorem starts_not41 {c : UInt8} (h : starts c) : c ≠ 41 := by
  rintro rfl
  rcases h with h | h | h
  · exact absurd h (by decide)
  · exact absurd h (by decide)
  · exact absurd h (not_isD (by decide))
theorem rAtom_n {l : List UInt8} {p n : Nat} (h : (rAtom l p n).e = 0) : (rAtom l p n).n = n := by
  revert h
  unfold rAtom
  split
  · dsimp only
    split
    · intro h; rename_i h1; exact absurd h (by simpa [RV.err] using h1)
    · split
      · intro h; cases h
      · split
        · intro h; cases h
        · split
          · intro h; rename_i h1; exact absurd h (by simpa [RV.err] using h1)
          · intro _; rfl
  · dsimp only
    split
    · intro h; rename_i h1; exact absurd h (by simpa [RV.err] using h1)
    · intro _; rfl
theorem Mach.toSt {l : List UInt8} {st : List (List Sx)} {p n : Nat} {r : RV} (h : Mach l st p n r) : MSt l st p n r := by
  induction h with
  | @short st p n h1 => exact MSt.next (St.short h1) (fun h => by omega) (Up.err (by simp [RV.err]))
  | bad h1 h2 h3 => exact MSt.next (St.bad h1 h2) (fun _ => h3) (Up.err (by simp [RV.err]))
  | long h1 h2 h3 => exact MSt.next (St.long h1 h2 (h3.imp id (fun h => ⟨h.1, by omega⟩))) (fun _ h => absurd h (starts_not41 h2)) (Up.err (by simp [RV.err]))
  | fail h1 h2 h3 h4 h5 => exact MSt.next (St.atom h1 h2 h3 h4) (fun _ h => absurd h (starts_not41 h2)) (Up.err h5)
  | atom h1 h2 h3 h4 h5 => exact St.atom h1 h2 h3 h4
  | @more ks st p n r h1 h2 h3 h4 h5 _ ih =>
    refine MSt.next (St.atom h1 h2 h3 h4) (fun _ h => absurd h (starts_not41 h2)) ?_
    obtain ⟨r2, h6, h7⟩ := ih
    unfold Up
    rw [if_neg (by simpa using h5)]
    exact ⟨r2, by rw [rAtom_n h5]; exact h6, h7⟩
  | @opens st p n r h1 h2 h3 h4 _ ih =>
    obtain ⟨r1, h6, h7⟩ := ih
    exact MSt.next (St.list h1 h2 h3 (by omega) h6) (fun _ h => by rw [h2] at h; exact absurd h (by decide)) h7
  | close h1 h2 => exact ⟨_, St.close h1 h2, rfl⟩
  | @closes ks kt st p n r h1 h2 _ ih =>
    obtain ⟨r2, h6, h7⟩ := ih
    refine ⟨_, St.close h1 h2, ?_⟩
    unfold Up
    rw [if_neg (by simp)]
    exact ⟨r2, h6, h7⟩
end Go.Proofs.YtkbblhioncecmaaDoor
namespace Go.Proofs.YtkbblhioncecmaaDoor
open Go.RowKit

theorem got_ok {l : List UInt8} {s : Sx} {p : Nat} (h : Got l s p 0) : s.form = l ∧ s.may = true ∧ s.wide 0 = false ∧ p = 0 := by
  rcases h with ⟨_, _, _, h⟩ | ⟨h1, r, hr, ⟨h2, _, _, h3⟩ | ⟨_, _, _, _, h3⟩ | ⟨h2, h3, h4, h5, _⟩⟩
  · cases h
  · exact absurd h3.symm h2
  · cases h3
  · subst h4
    obtain ⟨k1, k2, k3, k4, k5, k6, k7⟩ := St_ok hr h2 (by omega) (by omega)
    have e : r.v.form = l := by
      rw [List.drop_zero, List.drop_of_length_le h3, List.append_nil] at k1
      exact k1.symm
    refine ⟨e, ?_, wide_of _ 0 k4 (by omega) (by rw [e]; omega) (by omega), h5⟩
    unfold Sx.may
    rw [k4, decide_eq_true (show r.v.nodes ≤ 512 by omega), decide_eq_true (show r.v.deep ≤ 16 by omega), decide_eq_true (show r.v.form.length ≤ 4096 by rw [e]; exact h1)]
    rfl
theorem got_form {s : Sx} (h : s.may = true) : Got s.form s 0 0 := by
  obtain ⟨h1, h2, h3, h4⟩ := may_parts h
  have := St_form (l := s.form) s 0 1 0 [] h1 (by simp) (by omega) (by omega) h4
  exact .inr ⟨h4, _, this, .inr (.inr ⟨rfl, by simp, rfl, rfl, rfl⟩)⟩
theorem got_cut {s : Sx} (h : s.may = true) {k : Nat} (hk : k < s.form.length) : Got (s.form.take k) Sx.nil k 2 := by
  obtain ⟨h1, h2, h3, h4⟩ := may_parts h
  have hlen : (s.form.take k).length = k := by simp; omega
  have := St_cut (l := s.form.take k) s 0 1 0 k h1 (by simp) hk (by omega) (by omega) h4 (Nat.zero_le _)
  rw [hlen] at this
  exact .inr ⟨by omega, _, this, .inl ⟨by simp [RV.err], rfl, rfl, rfl⟩⟩
theorem got_more {s : Sx} (h : s.may = true) {more : List UInt8} (hm : more ≠ []) (hl : s.form.length + more.length ≤ 4096) : Got (s.form ++ more) Sx.nil s.form.length 5 := by
  obtain ⟨h1, h2, h3, h4⟩ := may_parts h
  have hp : 0 < more.length := List.length_pos_iff.2 hm
  have := St_form (l := s.form ++ more) s 0 1 0 more h1 (by simp) (by omega) (by omega) h4
  exact .inr ⟨by simp; omega, _, this, .inr (.inl ⟨rfl, by simp; omega, rfl, by simp, rfl⟩)⟩
end Go.Proofs.YtkbblhioncecmaaDoor
namespace Go.Proofs.YtkbblhioncecmaaDoor
open Go.RowKit
set_option linter.unusedSimpArgs false
set_option linter.unusedVariables false

def CloneP (l : List UInt8) (w : World) (e : Ending) (w' : World) : Prop := ∃ v', e = .returned v' ∧ OwnB w' w.heap.size v' l ∧ Below w.heap.size w w'

set_option maxHeartbeats 2000000 in
set_option maxRecDepth 100000 in
theorem cloneB_any (a : Option Addr) (n c : Nat) (l : List UInt8) (w : World) (hs : Sl w a n c l) (hn : n ≤ 1000000) : Calls Tryd.prog 106 #[.slice a n c] w (CloneP l w) := by
  cases a with
  | none =>
    have hc := hs.2.2.2.1 rfl
    have hle := hs.2.1
    have hl := hs.1
    have e : l = [] := List.eq_nil_of_length_eq_zero (by omega)
    obtain rfl : n = 0 := by omega
    subst hc e
    clear hle hl hs
    have hnn : ∀ W, (binOp .eql 23 (.slice none 0 0) (.slice none 0 0)).run Tryd.prog W = .ok (.bool true) W := fun _ => rfl
    go_enter Tryd.func106, Tryd.ntmps106
    go_wp2_with fail
    go_ret
    exact ⟨_, rfl, OwnB.nil _ _, Below.refl _ _⟩
  | some ad =>
    have hnn : ∀ W, (binOp .eql 23 (.slice (some ad) n c) (.slice none 0 0)).run Tryd.prog W = .ok (.bool false) W := fun _ => rfl
    have hb0 : Below w.heap.size w (w.alloc (.cells #[] 5)) := (Below.refl _ _).alloc (Nat.le_refl _) _
    have ho0 : OwnB (w.alloc (.cells #[] 5)) w.heap.size (.slice (some ⟨w.heap.size, 0, none⟩) 0 0) [] := OwnG.new w w.heap.size 1 (Nat.le_refl _) #[] 5 0 0 (Nat.le_refl _) (Nat.zero_le _) rfl
    have HO := Lib.hid ho0
    have HS := Lib.hid (hs.after hb0)
    have HL := Lib.hid hs.1
    clear ho0 hs
    go_enter Tryd.func106, Tryd.ntmps106
    go_wp2_with (refine wpList_append_B rfl _ _ rfl rfl HO.out rfl HS.out (by have := HL.out; simp only [List.length_nil]; omega) (by simp) ?_; intro v2 w2 ho2 hg2)
    rw [List.nil_append] at ho2
    have hB := hb0.grown hg2 (by simp) (fun k hk => by cases hk; exact Nat.le_refl _)
    clear hg2
    go_ret
    exact ⟨v2, rfl, ho2, hB⟩

end Go.Proofs.YtkbblhioncecmaaDoor
namespace Go.Proofs.YtkbblhioncecmaaDoor
open Go.RowKit
set_option linter.unusedSimpArgs false
set_option linter.unusedVariables false

/-- the reader's cells -/
abbrev RdC (a : Option Addr) (n c : Nat) (p m : Nat) (vo : Value) : Array Value := #[.slice a n c, .int .i64 p, .int .i64 m, vo]
/-- a fault is thrown -/
def FaultE (p e : Nat) : Ending := .panicked [{ v := .iface 53 (.agg #[.int .i64 p, .int .i64 e]), recovered := false }]

/-- sign: either a fault or a step -/
def SignP (g : Nat) (a : Option Addr) (n c : Nat) (l : List UInt8) (p m : Nat) (vo : Value) (ch : UInt8) (w : World) (e : Ending) (w' : World) : Prop :=
  But (fun k => k = g) w w' ∧ ((l.length ≤ p ∧ e = FaultE l.length 2) ∨ (p < l.length ∧ l.getD p 0 ≠ ch ∧ e = FaultE p 3) ∨
    (p < l.length ∧ l.getD p 0 = ch ∧ e = .returned (.tuple #[]) ∧ Box w' g 56 (RdC a n c (p + 1) m vo)))
theorem but_set {w : World} {g : Nat} (i : Nat) (v : Value) : But (fun k => k = g) w (w.setCell ⟨g, i, none⟩ v) := (But.refl (fun k => k = g) w).setCell (p := ⟨g, i, none⟩) (.inl rfl) v
theorem But.drewN {S : Nat → Prop} {w1 w2 : World} (h : But S w1 w2) (n : Nat) : But S w1 (w2.drewN n) := ⟨h.os, h.tape, h.output, h.size, h.block⟩
theorem Box.drewN {w : World} {g : Nat} {T : TypeId} {cs : Array Value} (h : Box w g T cs) (n : Nat) : Box (w.drewN n) g T cs := h
theorem byteIntNe {x y : UInt8} (h : x ≠ y) : ((x.toNat : Int) == (y.toNat : Int)) = false ∧ ((x.toNat : Int) != (y.toNat : Int)) = true := by
  have h1 : ((x.toNat : Int) == (y.toNat : Int)) = false := beq_eq_false_iff_ne.2 (fun e => h (UInt8.toNat_inj.1 (Int.ofNat.inj e)))
  exact ⟨h1, by rw [bne, h1]; rfl⟩

set_option maxHeartbeats 4000000 in
set_option maxRecDepth 100000 in
theorem sign_any (g : Nat) (a : Option Addr) (n c : Nat) (l : List UInt8) (p m : Nat) (vo : Value) (ch : UInt8) (w : World) (hX : Box w g 56 (RdC a n c p m vo)) (hs : Sl w a n c l) (hn : n ≤ 100000) (hp : p ≤ 200000) :
    Calls Tryd.prog 96 #[.pointer (some ⟨g, 0, none⟩), .int .u8 (ch.toNat : Int)] w (SignP g a n c l p m vo ch w) := by
  have HL := Lib.hid (Nat.le_of_eq hs.1)
  have HL' := Lib.hid (Nat.le_of_eq hs.1.symm)
  have x0 : w.cell? ⟨g, 0, none⟩ = some (.slice a n c) := hX.cell 0 rfl
  have x1 : w.cell? ⟨g, 1, none⟩ = some (.int .i64 p) := hX.cell 1 rfl
  have f1 := hX.frozen 1
  by_cases hlong : n ≤ p
  · have hlong' : (n : Int) ≤ (p : Int) := by omega
    clear hs hX
    go_enter Tryd.func96, Tryd.ntmps96
    go_wp2_with fail
    go_quiet (fail)
    go_wp2_with fail
    exact ⟨rfl, (But.refl _ _).drewN _, .inl ⟨by have := HL'.out; omega, by have h1 := HL.out; have h2 := HL'.out; rw [show l.length = n by omega]; rfl⟩⟩
  have hlong' : ¬ (n : Int) ≤ (p : Int) := by omega
  obtain ⟨b, o, rfl, hc⟩ : ∃ b o, a = some ⟨b, o, none⟩ ∧ ∀ i, i < n → w.cell? ⟨b, o + i, none⟩ = some (.int .u8 ((l.getD i 0).toNat : Int)) := by
    rcases hs.2.2.2.2 with h0 | h0
    · omega
    · exact h0
  have q0 := hc p (by omega)
  obtain ⟨x, hx⟩ : ∃ x, x = l.getD p 0 := ⟨_, rfl⟩
  rw [← hx] at q0
  have HX := Lib.hid hx
  have HB := Lib.hid hX
  have hplt : p < n := by omega
  clear hx hc hs hX
  by_cases he : x = ch
  · subst he
    have e1 : ((x.toNat : Int) != (x.toNat : Int)) = false := by simp
    go_enter Tryd.func96, Tryd.ntmps96
    go_wp2_with fail
    go_quiet (fail)
    go_wp2_with fail
    go_quiet (fail)
    go_wp2_with fail
    exact bodyPost_ret (results_none rfl _ _ _) rfl ⟨((But.refl (fun k => k = g) w).drewN _).setCell (p := ⟨g, 1, none⟩) (.inl rfl) _, .inr (.inr ⟨by have := HL.out; omega, HX.out.symm, rfl, (HB.out.drewN _).set 1 _⟩)⟩
  · obtain ⟨z1, z2⟩ := byteIntNe he
    have HE := Lib.hid he
    clear he
    go_enter Tryd.func96, Tryd.ntmps96
    go_wp2_with fail
    go_quiet (fail)
    go_wp2_with fail
    go_quiet (fail)
    go_wp2_with fail
    exact ⟨rfl, (But.refl _ _).drewN _, .inr (.inl ⟨by have := HL.out; omega, by rw [← HX.out]; exact HE.out, rfl⟩)⟩

/-- too many values, or too deep -/
def Over (m d : Nat) (ls : Bool) : Prop := 512 < m + 1 ∨ ls = true ∧ 16 ≤ d
/-- begins: a value may begin, or not -/
def BeginsP (g : Nat) (a : Option Addr) (n c : Nat) (p m d : Nat) (vo : Value) (ls : Bool) (w : World) (e : Ending) (w' : World) : Prop :=
  But (fun k => k = g) w w' ∧ ((Over m d ls ∧ e = FaultE p 4) ∨ (¬ Over m d ls ∧ e = .returned (.tuple #[]) ∧ Box w' g 56 (RdC a n c p (m + 1) vo)))

set_option maxHeartbeats 4000000 in
set_option maxRecDepth 100000 in
theorem begins_any (g : Nat) (a : Option Addr) (n c p m : Nat) (ao : Option Addr) (d co : Nat) (ls : Bool) (w : World) (hX : Box w g 56 (RdC a n c p m (.slice ao d co))) (hm : m ≤ 100000) (hd : d ≤ 100000) :
    Calls Tryd.prog 74 #[.pointer (some ⟨g, 0, none⟩), .bool ls] w (BeginsP g a n c p m d (.slice ao d co) ls w) := by
  have x2 : w.cell? ⟨g, 2, none⟩ = some (.int .i64 m) := hX.cell 2 rfl
  have f2 := hX.frozen 2
  have B2 : Box (w.setCell ⟨g, 2, none⟩ (.int .i64 ((m : Int) + 1))) g 56 (RdC a n c p (m + 1) (.slice ao d co)) := hX.set 2 _
  have y1 : (w.setCell ⟨g, 2, none⟩ (.int .i64 ((m : Int) + 1))).cell? ⟨g, 1, none⟩ = some (.int .i64 p) := B2.cell 1 rfl
  have y2 : (w.setCell ⟨g, 2, none⟩ (.int .i64 ((m : Int) + 1))).cell? ⟨g, 2, none⟩ = some (.int .i64 ((m : Int) + 1)) := B2.cell 2 rfl
  have y3 : (w.setCell ⟨g, 2, none⟩ (.int .i64 ((m : Int) + 1))).cell? ⟨g, 3, none⟩ = some (.slice ao d co) := B2.cell 3 rfl
  have HB2 := Lib.hid B2
  have HBut := Lib.hid (but_set (w := w) (g := g) 2 (.int .i64 ((m : Int) + 1)))
  clear hX B2
  by_cases hm5 : 512 < m + 1
  · have HT := Lib.hid (show Over m d ls from .inl hm5)
    have hm5' : (512 : Int) < (m : Int) + 1 := by omega
    go_enter Tryd.func74, Tryd.ntmps74
    go_upto_region 1 with fail
    change Code.wp _ _ _ _ (w.setCell ⟨g, 2, none⟩ (.int .i64 ((m : Int) + 1)))
    generalize w.setCell ⟨g, 2, none⟩ (.int .i64 ((m : Int) + 1)) = u at *
    go_wp2_with fail
    exact ⟨rfl, HBut.out, .inl ⟨HT.out, rfl⟩⟩
  have hm5' : ¬ (512 : Int) < (m : Int) + 1 := by omega
  cases ls with
  | false =>
    have HT := Lib.hid (show ¬ Over m d false from fun h => h.elim hm5 (fun h => by cases h.1))
    clear hm5
    go_enter Tryd.func74, Tryd.ntmps74
    go_upto_region 1 with fail
    change Code.wp _ _ _ _ (w.setCell ⟨g, 2, none⟩ (.int .i64 ((m : Int) + 1)))
    generalize w.setCell ⟨g, 2, none⟩ (.int .i64 ((m : Int) + 1)) = u at *
    go_wp2_with fail
    exact bodyPost_ret (results_none rfl _ _ _) rfl ⟨HBut.out, .inr ⟨HT.out, rfl, HB2.out⟩⟩
  | true =>
    by_cases hd : 16 ≤ d
    · have HT := Lib.hid (show Over m d true from .inr ⟨rfl, hd⟩)
      have hd' : (16 : Int) ≤ (d : Int) := by omega
      clear hm5
      go_enter Tryd.func74, Tryd.ntmps74
      go_upto_region 1 with fail
      change Code.wp _ _ _ _ (w.setCell ⟨g, 2, none⟩ (.int .i64 ((m : Int) + 1)))
      generalize w.setCell ⟨g, 2, none⟩ (.int .i64 ((m : Int) + 1)) = u at *
      go_wp2_with fail
      exact ⟨rfl, HBut.out, .inl ⟨HT.out, rfl⟩⟩
    · have HT := Lib.hid (show ¬ Over m d true from fun h => h.elim hm5 (fun h => hd h.2))
      have hd' : ¬ (16 : Int) ≤ (d : Int) := by omega
      clear hm5
      go_enter Tryd.func74, Tryd.ntmps74
      go_upto_region 1 with fail
      change Code.wp _ _ _ _ (w.setCell ⟨g, 2, none⟩ (.int .i64 ((m : Int) + 1)))
      generalize w.setCell ⟨g, 2, none⟩ (.int .i64 ((m : Int) + 1)) = u at *
      go_wp2_with fail
      exact bodyPost_ret (results_none rfl _ _ _) rfl ⟨HBut.out, .inr ⟨HT.out, rfl, HB2.out⟩⟩

end Go.Proofs.YtkbblhioncecmaaDoor
namespace Go.Proofs.YtkbblhioncecmaaDoor
open Go.RowKit
set_option linter.unusedSimpArgs false
set_option linter.unusedVariables false

/-- bytes: a fault, or the bytes, the call's own -/
def RBytesP (g : Nat) (a : Option Addr) (n c : Nat) (R : List UInt8 × Nat × Nat) (m : Nat) (vo : Value) (w : World) (e : Ending) (w' : World) : Prop :=
  But (fun k => k = g) w w' ∧ ((R.2.2 ≠ 0 ∧ e = FaultE R.2.1 R.2.2) ∨ (R.2.2 = 0 ∧ ∃ v', e = .returned v' ∧ OwnB w' w.heap.size v' R.1 ∧ Box w' g 56 (RdC a n c R.2.1 m vo)))
theorem rb_no {g : Nat} {a : Option Addr} {n c : Nat} {R : List UInt8 × Nat × Nat} {q e m : Nat} {vo : Value} (h : R = ([], q, e)) (he : e ≠ 0) {w w' : World} (hb : But (fun k => k = g) w w') : RBytesP g a n c R m vo w (FaultE q e) w' := by
  subst h
  exact ⟨hb, .inl ⟨he, rfl⟩⟩
theorem rb_yes {g : Nat} {a : Option Addr} {n c : Nat} {R : List UInt8 × Nat × Nat} {L : List UInt8} {q m : Nat} {vo : Value} (h : R = (L, q, 0)) {w w' : World} (hb : But (fun k => k = g) w w') {v' : Value} (ho : OwnB w' w.heap.size v' L) (hX : Box w' g 56 (RdC a n c q m vo)) : RBytesP g a n c R m vo w (.returned v') w' := by
  subst h
  exact ⟨hb, .inr ⟨rfl, v', rfl, ho, hX⟩⟩

set_option maxHeartbeats 4000000 in
set_option maxRecDepth 100000 in
theorem bytes_any (g : Nat) (a : Option Addr) (n c : Nat) (l : List UInt8) (p m : Nat) (vo : Value) (w : World) (hX : Box w g 56 (RdC a n c p m vo)) (hs : Sl w a n c l) (hi : InB (fun k => ¬ k = g) a n) (hn : n ≤ 100000) (hp : p ≤ n) :
    Calls Tryd.prog 95 #[.pointer (some ⟨g, 0, none⟩)] w (RBytesP g a n c (rBytes l p) m vo w) := by
  have hl := hs.1
  have hx := hs.2.2.1
  have HS := Lib.hid hs
  have HX := Lib.hid hX
  have HL := Lib.hid (Nat.le_of_eq hl)
  have HL' := Lib.hid (Nat.le_of_eq hl.symm)
  have CX0 : Hid (∀ w', Below w.heap.size w w' → w'.cell? ⟨g, 0, none⟩ = some (.slice a n c)) := Lib.hid fun w' hb => (HX.out.after hb).cell 0 rfl
  have CX1 : Hid (∀ w', Below w.heap.size w w' → w'.cell? ⟨g, 1, none⟩ = some (.int .i64 p)) := Lib.hid fun w' hb => (HX.out.after hb).cell 1 rfl
  have CALL := Lib.hid (fun w' (hb : Below w.heap.size w w') => getLen_any a n c l p 4096 4096 w' (HS.out.after hb) (by omega) (by omega) (by omega) rfl (by omega))
  obtain ⟨R, hR⟩ : ∃ R, R = rBytes l p := ⟨_, rfl⟩
  rw [← hR]
  have HR := Lib.hid hR
  unfold maxLen at hx
  clear hs hR hX
  rcases lenR_cases l p 4096 with ⟨h1, e1⟩ | ⟨h1, h2, e1⟩ | ⟨h1, e1⟩ | ⟨k, sz, hk, hpk, hmk, ht, e1⟩
  · have HE : Hid (R = ([], p, 2)) := Lib.hid (by rw [HR.out]; unfold rBytes; simp only [e1]; rw [if_pos trivial, show l.length = p by omega])
    rw [e1] at CALL
    clear e1 hl
    go_enter Tryd.func95, Tryd.ntmps95
    go_upto_region 1 with fail
    refine wp_region_made w.heap.size w rfl (by kernel_rfl) (Below.refl _ _) ?_
    refine wpQ_run rfl (.pointer (some ⟨g, 0, none⟩)) (fun w' hw => by simp [go_sem]) ?_
    simp only [Act.put, List.setIfInBounds_toArray, List.set_cons_zero, List.set_cons_succ]
    refine wpQ_run rfl (.pointer (some ⟨g, 0, none⟩)) (fun w' hw => by simp [go_sem]) ?_
    simp only [Act.put, List.setIfInBounds_toArray, List.set_cons_zero, List.set_cons_succ]
    refine wpQ_run rfl (.pointer (some ⟨g, 0, none⟩)) (fun w' hw => by simp [go_sem]) ?_
    simp only [Act.put, List.setIfInBounds_toArray, List.set_cons_zero, List.set_cons_succ]
    refine wpQ_run rfl (.slice a n c) (fun w' hw => by simp [go_sem, CX0.out w' hw]) ?_
    simp only [Act.put, List.setIfInBounds_toArray, List.set_cons_zero, List.set_cons_succ]
    refine wpQ_run rfl (.pointer (some ⟨g, 0, none⟩)) (fun w' hw => by simp [go_sem]) ?_
    simp only [Act.put, List.setIfInBounds_toArray, List.set_cons_zero, List.set_cons_succ]
    refine wpQ_run rfl (.pointer (some ⟨g, 0, none⟩)) (fun w' hw => by simp [go_sem]) ?_
    simp only [Act.put, List.setIfInBounds_toArray, List.set_cons_zero, List.set_cons_succ]
    refine wpQ_run rfl (.pointer (some ⟨g, 1, none⟩)) (fun w' hw => by simp [go_sem]) ?_
    simp only [Act.put, List.setIfInBounds_toArray, List.set_cons_zero, List.set_cons_succ]
    refine wpQ_run rfl (.int .i64 p) (fun w' hw => by simp [go_sem, CX1.out w' hw]) ?_
    simp only [Act.put, List.setIfInBounds_toArray, List.set_cons_zero, List.set_cons_succ]
    refine wpQ_callS rfl 87 #[.slice a n c, .int .i64 p, .int .i64 4096] (fun w' => by simp [go_sem]) (.tuple #[.int .i64 0, .int .i64 p, .int .i64 2]) (Nat.le_refl _) CALL.out ?_
    simp only [Act.put, List.setIfInBounds_toArray, List.set_cons_zero, List.set_cons_succ]
    refine wpQ_run rfl (.tuple #[.int .i64 0, .int .i64 p, .int .i64 2]) (fun w' hw => by simp [go_sem]) ?_
    simp only [Act.put, List.setIfInBounds_toArray, List.set_cons_zero, List.set_cons_succ]
    refine wpQ_run rfl (.int .i64 0) (fun w' hw => by simp [go_sem]) ?_
    simp only [Act.put, List.setIfInBounds_toArray, List.set_cons_zero, List.set_cons_succ]
    refine wpQ_run rfl (.int .i64 p) (fun w' hw => by simp [go_sem]) ?_
    simp only [Act.put, List.setIfInBounds_toArray, List.set_cons_zero, List.set_cons_succ]
    refine wpQ_run rfl (.int .i64 2) (fun w' hw => by simp [go_sem]) ?_
    simp only [Act.put, List.setIfInBounds_toArray, List.set_cons_zero, List.set_cons_succ]
    refine wpQ_run rfl (.int .i64 0) (fun w' hw => by simp [go_sem]) ?_
    simp only [Act.put, List.setIfInBounds_toArray, List.set_cons_zero, List.set_cons_succ]
    refine wpQ_run rfl (.int .i64 p) (fun w' hw => by simp [go_sem]) ?_
    simp only [Act.put, List.setIfInBounds_toArray, List.set_cons_zero, List.set_cons_succ]
    refine wpQ_run rfl (.int .i64 2) (fun w' hw => by simp [go_sem]) ?_
    simp only [Act.put, List.setIfInBounds_toArray, List.set_cons_zero, List.set_cons_succ]
    intro w1 hb1
    have b1 : But (fun k => k = g) w w1 := But.ofBelow hb1
    have X1 := HX.out.after hb1
    have y1 : w1.cell? ⟨g, 1, none⟩ = some (.int .i64 p) := X1.cell 1 rfl
    have f1 := X1.frozen 1
    go_wp2_with fail
    exact ⟨rfl, rb_no HE.out (by decide) b1⟩
  · have HE : Hid (R = ([], p, 3)) := Lib.hid (by rw [HR.out]; unfold rBytes; simp only [e1]; rw [if_neg (by omega), if_pos (by omega)]; rfl)
    rw [e1] at CALL
    clear e1 hl
    go_enter Tryd.func95, Tryd.ntmps95
    go_upto_region 1 with fail
    refine wp_region_made w.heap.size w rfl (by kernel_rfl) (Below.refl _ _) ?_
    refine wpQ_run rfl (.pointer (some ⟨g, 0, none⟩)) (fun w' hw => by simp [go_sem]) ?_
    simp only [Act.put, List.setIfInBounds_toArray, List.set_cons_zero, List.set_cons_succ]
    refine wpQ_run rfl (.pointer (some ⟨g, 0, none⟩)) (fun w' hw => by simp [go_sem]) ?_
    simp only [Act.put, List.setIfInBounds_toArray, List.set_cons_zero, List.set_cons_succ]
    refine wpQ_run rfl (.pointer (some ⟨g, 0, none⟩)) (fun w' hw => by simp [go_sem]) ?_
    simp only [Act.put, List.setIfInBounds_toArray, List.set_cons_zero, List.set_cons_succ]
    refine wpQ_run rfl (.slice a n c) (fun w' hw => by simp [go_sem, CX0.out w' hw]) ?_
    simp only [Act.put, List.setIfInBounds_toArray, List.set_cons_zero, List.set_cons_succ]
    refine wpQ_run rfl (.pointer (some ⟨g, 0, none⟩)) (fun w' hw => by simp [go_sem]) ?_
    simp only [Act.put, List.setIfInBounds_toArray, List.set_cons_zero, List.set_cons_succ]
    refine wpQ_run rfl (.pointer (some ⟨g, 0, none⟩)) (fun w' hw => by simp [go_sem]) ?_
    simp only [Act.put, List.setIfInBounds_toArray, List.set_cons_zero, List.set_cons_succ]
    refine wpQ_run rfl (.pointer (some ⟨g, 1, none⟩)) (fun w' hw => by simp [go_sem]) ?_
    simp only [Act.put, List.setIfInBounds_toArray, List.set_cons_zero, List.set_cons_succ]
    refine wpQ_run rfl (.int .i64 p) (fun w' hw => by simp [go_sem, CX1.out w' hw]) ?_
    simp only [Act.put, List.setIfInBounds_toArray, List.set_cons_zero, List.set_cons_succ]
    refine wpQ_callS rfl 87 #[.slice a n c, .int .i64 p, .int .i64 4096] (fun w' => by simp [go_sem]) (.tuple #[.int .i64 0, .int .i64 p, .int .i64 3]) (Nat.le_refl _) CALL.out ?_
    simp only [Act.put, List.setIfInBounds_toArray, List.set_cons_zero, List.set_cons_succ]
    refine wpQ_run rfl (.tuple #[.int .i64 0, .int .i64 p, .int .i64 3]) (fun w' hw => by simp [go_sem]) ?_
    simp only [Act.put, List.setIfInBounds_toArray, List.set_cons_zero, List.set_cons_succ]
    refine wpQ_run rfl (.int .i64 0) (fun w' hw => by simp [go_sem]) ?_
    simp only [Act.put, List.setIfInBounds_toArray, List.set_cons_zero, List.set_cons_succ]
    refine wpQ_run rfl (.int .i64 p) (fun w' hw => by simp [go_sem]) ?_
    simp only [Act.put, List.setIfInBounds_toArray, List.set_cons_zero, List.set_cons_succ]
    refine wpQ_run rfl (.int .i64 3) (fun w' hw => by simp [go_sem]) ?_
    simp only [Act.put, List.setIfInBounds_toArray, List.set_cons_zero, List.set_cons_succ]
    refine wpQ_run rfl (.int .i64 0) (fun w' hw => by simp [go_sem]) ?_
    simp only [Act.put, List.setIfInBounds_toArray, List.set_cons_zero, List.set_cons_succ]
    refine wpQ_run rfl (.int .i64 p) (fun w' hw => by simp [go_sem]) ?_
    simp only [Act.put, List.setIfInBounds_toArray, List.set_cons_zero, List.set_cons_succ]
    refine wpQ_run rfl (.int .i64 3) (fun w' hw => by simp [go_sem]) ?_
    simp only [Act.put, List.setIfInBounds_toArray, List.set_cons_zero, List.set_cons_succ]
    intro w1 hb1
    have b1 : But (fun k => k = g) w w1 := But.ofBelow hb1
    have X1 := HX.out.after hb1
    have y1 : w1.cell? ⟨g, 1, none⟩ = some (.int .i64 p) := X1.cell 1 rfl
    have f1 := X1.frozen 1
    go_wp2_with fail
    exact ⟨rfl, rb_no HE.out (by decide) b1⟩
  · have HE : Hid (R = ([], p, 4)) := Lib.hid (by rw [HR.out]; unfold rBytes; simp only [e1]; rw [if_neg (by omega), if_pos (by omega)]; rfl)
    rw [e1] at CALL
    clear e1 hl
    go_enter Tryd.func95, Tryd.ntmps95
    go_upto_region 1 with fail
    refine wp_region_made w.heap.size w rfl (by kernel_rfl) (Below.refl _ _) ?_
    refine wpQ_run rfl (.pointer (some ⟨g, 0, none⟩)) (fun w' hw => by simp [go_sem]) ?_
    simp only [Act.put, List.setIfInBounds_toArray, List.set_cons_zero, List.set_cons_succ]
    refine wpQ_run rfl (.pointer (some ⟨g, 0, none⟩)) (fun w' hw => by simp [go_sem]) ?_
    simp only [Act.put, List.setIfInBounds_toArray, List.set_cons_zero, List.set_cons_succ]
    refine wpQ_run rfl (.pointer (some ⟨g, 0, none⟩)) (fun w' hw => by simp [go_sem]) ?_
    simp only [Act.put, List.setIfInBounds_toArray, List.set_cons_zero, List.set_cons_succ]
    refine wpQ_run rfl (.slice a n c) (fun w' hw => by simp [go_sem, CX0.out w' hw]) ?_
    simp only [Act.put, List.setIfInBounds_toArray, List.set_cons_zero, List.set_cons_succ]
    refine wpQ_run rfl (.pointer (some ⟨g, 0, none⟩)) (fun w' hw => by simp [go_sem]) ?_
    simp only [Act.put, List.setIfInBounds_toArray, List.set_cons_zero, List.set_cons_succ]
    refine wpQ_run rfl (.pointer (some ⟨g, 0, none⟩)) (fun w' hw => by simp [go_sem]) ?_
    simp only [Act.put, List.setIfInBounds_toArray, List.set_cons_zero, List.set_cons_succ]
    refine wpQ_run rfl (.pointer (some ⟨g, 1, none⟩)) (fun w' hw => by simp [go_sem]) ?_
    simp only [Act.put, List.setIfInBounds_toArray, List.set_cons_zero, List.set_cons_succ]
    refine wpQ_run rfl (.int .i64 p) (fun w' hw => by simp [go_sem, CX1.out w' hw]) ?_
    simp only [Act.put, List.setIfInBounds_toArray, List.set_cons_zero, List.set_cons_succ]
    refine wpQ_callS rfl 87 #[.slice a n c, .int .i64 p, .int .i64 4096] (fun w' => by simp [go_sem]) (.tuple #[.int .i64 0, .int .i64 p, .int .i64 4]) (Nat.le_refl _) CALL.out ?_
    simp only [Act.put, List.setIfInBounds_toArray, List.set_cons_zero, List.set_cons_succ]
    refine wpQ_run rfl (.tuple #[.int .i64 0, .int .i64 p, .int .i64 4]) (fun w' hw => by simp [go_sem]) ?_
    simp only [Act.put, List.setIfInBounds_toArray, List.set_cons_zero, List.set_cons_succ]
    refine wpQ_run rfl (.int .i64 0) (fun w' hw => by simp [go_sem]) ?_
    simp only [Act.put, List.setIfInBounds_toArray, List.set_cons_zero, List.set_cons_succ]
    refine wpQ_run rfl (.int .i64 p) (fun w' hw => by simp [go_sem]) ?_
    simp only [Act.put, List.setIfInBounds_toArray, List.set_cons_zero, List.set_cons_succ]
    refine wpQ_run rfl (.int .i64 4) (fun w' hw => by simp [go_sem]) ?_
    simp only [Act.put, List.setIfInBounds_toArray, List.set_cons_zero, List.set_cons_succ]
    refine wpQ_run rfl (.int .i64 0) (fun w' hw => by simp [go_sem]) ?_
    simp only [Act.put, List.setIfInBounds_toArray, List.set_cons_zero, List.set_cons_succ]
    refine wpQ_run rfl (.int .i64 p) (fun w' hw => by simp [go_sem]) ?_
    simp only [Act.put, List.setIfInBounds_toArray, List.set_cons_zero, List.set_cons_succ]
    refine wpQ_run rfl (.int .i64 4) (fun w' hw => by simp [go_sem]) ?_
    simp only [Act.put, List.setIfInBounds_toArray, List.set_cons_zero, List.set_cons_succ]
    intro w1 hb1
    have b1 : But (fun k => k = g) w w1 := But.ofBelow hb1
    have X1 := HX.out.after hb1
    have y1 : w1.cell? ⟨g, 1, none⟩ = some (.int .i64 p) := X1.cell 1 rfl
    have f1 := X1.frozen 1
    go_wp2_with fail
    exact ⟨rfl, rb_no HE.out (by decide) b1⟩
  · have hpk' : p + k ≤ n := by omega
    obtain ⟨q, hq⟩ : ∃ q, q = p + k := ⟨_, rfl⟩
    rw [← hq] at hpk'
    have e1' : lenR l p 4096 = ((sz : Int), (q : Int), 0) := by rw [e1, hq]
    rw [e1'] at CALL
    have HRR : Hid (R = if l.length ≤ q then ([], l.length, 2) else if l.getD q 0 ≠ 58 then ([], q, 3) else if l.length - q - 1 < sz then ([], l.length, 2) else ((l.drop (q + 1)).take sz, q + 1 + sz, 0)) := Lib.hid (by rw [HR.out]; unfold rBytes; simp only [e1', Int.toNat_natCast]; rw [if_neg (by omega), if_neg (by omega)])
    have HEQ := Lib.hid hl
    clear e1 e1' ht hq hl
    go_enter Tryd.func95, Tryd.ntmps95
    go_upto_region 1 with fail
    refine wp_region_made w.heap.size w rfl (by kernel_rfl) (Below.refl _ _) ?_
    refine wpQ_run rfl (.pointer (some ⟨g, 0, none⟩)) (fun w' hw => by simp [go_sem]) ?_
    simp only [Act.put, List.setIfInBounds_toArray, List.set_cons_zero, List.set_cons_succ]
    refine wpQ_run rfl (.pointer (some ⟨g, 0, none⟩)) (fun w' hw => by simp [go_sem]) ?_
    simp only [Act.put, List.setIfInBounds_toArray, List.set_cons_zero, List.set_cons_succ]
    refine wpQ_run rfl (.pointer (some ⟨g, 0, none⟩)) (fun w' hw => by simp [go_sem]) ?_
    simp only [Act.put, List.setIfInBounds_toArray, List.set_cons_zero, List.set_cons_succ]
    refine wpQ_run rfl (.slice a n c) (fun w' hw => by simp [go_sem, CX0.out w' hw]) ?_
    simp only [Act.put, List.setIfInBounds_toArray, List.set_cons_zero, List.set_cons_succ]
    refine wpQ_run rfl (.pointer (some ⟨g, 0, none⟩)) (fun w' hw => by simp [go_sem]) ?_
    simp only [Act.put, List.setIfInBounds_toArray, List.set_cons_zero, List.set_cons_succ]
    refine wpQ_run rfl (.pointer (some ⟨g, 0, none⟩)) (fun w' hw => by simp [go_sem]) ?_
    simp only [Act.put, List.setIfInBounds_toArray, List.set_cons_zero, List.set_cons_succ]
    refine wpQ_run rfl (.pointer (some ⟨g, 1, none⟩)) (fun w' hw => by simp [go_sem]) ?_
    simp only [Act.put, List.setIfInBounds_toArray, List.set_cons_zero, List.set_cons_succ]
    refine wpQ_run rfl (.int .i64 p) (fun w' hw => by simp [go_sem, CX1.out w' hw]) ?_
    simp only [Act.put, List.setIfInBounds_toArray, List.set_cons_zero, List.set_cons_succ]
    refine wpQ_callS rfl 87 #[.slice a n c, .int .i64 p, .int .i64 4096] (fun w' => by simp [go_sem]) (.tuple #[.int .i64 sz, .int .i64 q, .int .i64 0]) (Nat.le_refl _) CALL.out ?_
    simp only [Act.put, List.setIfInBounds_toArray, List.set_cons_zero, List.set_cons_succ]
    refine wpQ_run rfl (.tuple #[.int .i64 sz, .int .i64 q, .int .i64 0]) (fun w' hw => by simp [go_sem]) ?_
    simp only [Act.put, List.setIfInBounds_toArray, List.set_cons_zero, List.set_cons_succ]
    refine wpQ_run rfl (.int .i64 sz) (fun w' hw => by simp [go_sem]) ?_
    simp only [Act.put, List.setIfInBounds_toArray, List.set_cons_zero, List.set_cons_succ]
    refine wpQ_run rfl (.int .i64 q) (fun w' hw => by simp [go_sem]) ?_
    simp only [Act.put, List.setIfInBounds_toArray, List.set_cons_zero, List.set_cons_succ]
    refine wpQ_run rfl (.int .i64 0) (fun w' hw => by simp [go_sem]) ?_
    simp only [Act.put, List.setIfInBounds_toArray, List.set_cons_zero, List.set_cons_succ]
    refine wpQ_run rfl (.int .i64 sz) (fun w' hw => by simp [go_sem]) ?_
    simp only [Act.put, List.setIfInBounds_toArray, List.set_cons_zero, List.set_cons_succ]
    refine wpQ_run rfl (.int .i64 q) (fun w' hw => by simp [go_sem]) ?_
    simp only [Act.put, List.setIfInBounds_toArray, List.set_cons_zero, List.set_cons_succ]
    refine wpQ_run rfl (.int .i64 0) (fun w' hw => by simp [go_sem]) ?_
    simp only [Act.put, List.setIfInBounds_toArray, List.set_cons_zero, List.set_cons_succ]
    intro w1 hb1
    have b1 : But (fun k => k = g) w w1 := But.ofBelow hb1
    have X1 := HX.out.after hb1
    have y1 : w1.cell? ⟨g, 1, none⟩ = some (.int .i64 p) := X1.cell 1 rfl
    have f1 := X1.frozen 1
    go_upto_region 5 with fail
    have X2 : Box (w1.setCell ⟨g, 1, none⟩ (.int .i64 q)) g 56 (RdC a n c q m vo) := X1.set 1 _
    have b2 := b1.setCell (p := ⟨g, 1, none⟩) (.inl rfl) (.int .i64 q)
    have HS2 := Lib.hid (HS.out.but b2 hi (fun k hk => hk))
    change Code.wp _ _ _ _ (w1.setCell ⟨g, 1, none⟩ (.int .i64 q))
    generalize w1.setCell ⟨g, 1, none⟩ (.int .i64 q) = u2 at *
    have hz2 := b2.size
    clear y1 f1 X1 b1 hb1 HX CX0 CX1 CALL
    go_wp2_with fail
    refine (sign_any g a n c l q m vo 58 u2 X2 HS2.out (by omega) (by omega)).mono ?_
    rintro e w3 ⟨b3, ⟨h3, rfl⟩ | ⟨h3, h4, rfl⟩ | ⟨h3, h4, rfl, X3⟩⟩
    · have HE : Hid (R = ([], l.length, 2)) := Lib.hid (by rw [HRR.out, if_pos h3])
      unfold FaultE
      exact ⟨rfl, rb_no HE.out (by decide) (b2.trans b3 (fun k hk => .inl hk))⟩
    · have HE : Hid (R = ([], q, 3)) := Lib.hid (by rw [HRR.out, if_neg (by omega), if_pos h4])
      unfold FaultE
      exact ⟨rfl, rb_no HE.out (by decide) (b2.trans b3 (fun k hk => .inl hk))⟩
    have b4 := b2.trans b3 (fun k hk => .inl hk)
    have hlq : q < n := by have := HEQ.out; omega
    have x0 : w3.cell? ⟨g, 0, none⟩ = some (.slice a n c) := X3.cell 0 rfl
    have x1 : w3.cell? ⟨g, 1, none⟩ = some (.int .i64 ((q + 1 : Nat) : Int)) := X3.cell 1 rfl
    have f1 := X3.frozen 1
    have HS3 := Lib.hid (HS2.out.but b3 hi (fun k hk => hk))
    rw [show ((q + 1 : Nat) : Int) = (q : Int) + 1 by omega] at x1
    have HRS : Hid (R = if l.length - q - 1 < sz then ([], l.length, 2) else ((l.drop (q + 1)).take sz, q + 1 + sz, 0)) := Lib.hid (by rw [HRR.out, if_neg (by omega), if_neg (by simpa using h4)])
    clear h3 h4 HRR HS2 b2 b3 X2 HR
    by_cases h5 : n - q - 1 < sz
    · have HE : Hid (R = ([], n, 2)) := Lib.hid (by rw [HRS.out, if_pos (by have := HEQ.out; omega), HEQ.out])
      have h5' : (n : Int) - ((q : Int) + 1) < (sz : Int) := by omega
      go_wp2_with fail
      go_quiet (fail)
      go_wp2_with fail
      exact ⟨rfl, rb_no HE.out (by decide) (b4.drewN _)⟩
    have HE : Hid (R = ((l.drop (q + 1)).take sz, q + 1 + sz, 0)) := Lib.hid (by rw [HRS.out, if_neg (by have := HEQ.out; omega)])
    have h5' : ¬ (n : Int) - ((q : Int) + 1) < (sz : Int) := by omega
    go_upto_region 6 with fail
    go_quiet (fail)
    have X4 : Box ((w3.drewN nq).setCell ⟨g, 1, none⟩ (.int .i64 (((q : Int) + 1) + sz))) g 56 (RdC a n c (q + 1 + sz) m vo) := by
      have := (X3.drewN nq).set 1 (.int .i64 ((q + 1 + sz : Nat) : Int))
      rw [show (((q : Int) + 1) + sz) = ((q + 1 + sz : Nat) : Int) by omega]
      exact this
    have b5 := (b4.drewN nq).setCell (p := ⟨g, 1, none⟩) (.inl rfl) (.int .i64 (((q : Int) + 1) + sz))
    have HS5 := Lib.hid (HS.out.but b5 hi (fun k hk => hk))
    go_upto_region 9 with fail
    change Code.wp _ _ _ _ ((w3.drewN nq).setCell ⟨g, 1, none⟩ (.int .i64 (((q : Int) + 1) + sz)))
    generalize (w3.drewN nq).setCell ⟨g, 1, none⟩ (.int .i64 (((q : Int) + 1) + sz)) = u5 at *
    clear x0 x1 f1 X3 HS3 b4
    obtain ⟨q2, hq2⟩ : ∃ q2 : Nat, q2 = q + 1 := ⟨_, rfl⟩
    obtain ⟨q3, hq3⟩ : ∃ q3 : Nat, q3 = q2 + sz := ⟨_, rfl⟩
    rw [← hq2] at X4 HE
    rw [← hq3] at X4 HE
    obtain ⟨b, o, rfl⟩ : ∃ b o, a = some ⟨b, o, none⟩ := by
      rcases HS.out.2.2.2.2 with h0 | ⟨b, o, h0, _⟩
      · omega
      · exact ⟨b, o, h0⟩
    have hcut := slCut HS5.out q2 sz (by omega)
    have hcn := HS.out.2.1
    have hvs : Sl u5 (if c = q2 then some ⟨b, o, none⟩ else some ⟨b, o + q2, none⟩) sz (c - q2) ((l.drop q2).take sz) := by
      split
      · rename_i hcq
        rw [show c - q2 = 0 by omega]
        exact hcut.2 hcq
      · rename_i hcq
        exact hcut.1 hcq
    clear hcut HS5
    obtain ⟨va, hva⟩ : ∃ va, va = (if c = q2 then some (⟨b, o, none⟩ : Addr) else some ⟨b, o + q2, none⟩) := ⟨_, rfl⟩
    rw [← hva] at hvs
    have HVA := Lib.hid hva
    have X4' : Box u5 g 56 (RdC (some ⟨b, o, none⟩) n c q3 m vo) := X4
    have z2 : (q3 : Int) - (sz : Int) = (q2 : Int) := by omega
    have wq : IntKind.i64.wrap (q2 : Int) = (q2 : Int) := by rw [IntKind.wrap_i64]; omega
    have zq : (((q : Int) + 1) + (sz : Int)) = (q3 : Int) := by omega
    clear hva
    have hKS : Keeps (fun w' => Box w' g 56 (RdC (some ⟨b, o, none⟩) n c q3 m vo) ∧ Sl w' va sz (c - q2) ((l.drop q2).take sz)) := fun w w' h b => ⟨h.1.after b, h.2.after b⟩
    refine wp_region_U (w := u5) (fun w' => Box w' g 56 (RdC (some ⟨b, o, none⟩) n c q3 m vo) ∧ Sl w' va sz (c - q2) ((l.drop q2).take sz)) rfl ⟨X4'.drew, hvs.keep (.inr fun _ _ _ _ => rfl)⟩ ?_
    refine wpU_val 0 hKS rfl (by kernel_rfl) (by kernel_rfl) (by kernel_rfl) rfl (fun _ _ _ _ h => h) (.pointer (some ⟨g, 0, none⟩)) (fun w' h => by simp [go_sem]) ?_
    simp only [Act.put, List.setIfInBounds_toArray, List.set_cons_zero, List.set_cons_succ]
    refine wpU_val 1 hKS rfl (by kernel_rfl) (by kernel_rfl) (by kernel_rfl) rfl (fun _ _ _ _ h => h) (.pointer (some ⟨g, 0, none⟩)) (fun w' h => by simp [go_sem]) ?_
    simp only [Act.put, List.setIfInBounds_toArray, List.set_cons_zero, List.set_cons_succ]
    refine wpU_val 2 hKS rfl (by kernel_rfl) (by kernel_rfl) (by kernel_rfl) rfl (fun _ _ _ _ h => h) (.pointer (some ⟨g, 0, none⟩)) (fun w' h => by simp [go_sem]) ?_
    simp only [Act.put, List.setIfInBounds_toArray, List.set_cons_zero, List.set_cons_succ]
    refine wpU_val 3 hKS rfl (by kernel_rfl) (by kernel_rfl) (by kernel_rfl) rfl (fun _ _ _ _ h => h) (.slice (some ⟨b, o, none⟩) n c) (fun w' h => by simp [go_sem, h.1.cell 0 rfl]) ?_
    simp only [Act.put, List.setIfInBounds_toArray, List.set_cons_zero, List.set_cons_succ]
    refine wpU_val 4 hKS rfl (by kernel_rfl) (by kernel_rfl) (by kernel_rfl) rfl (fun _ _ _ _ h => h) (.pointer (some ⟨g, 0, none⟩)) (fun w' h => by simp [go_sem]) ?_
    simp only [Act.put, List.setIfInBounds_toArray, List.set_cons_zero, List.set_cons_succ]
    refine wpU_val 5 hKS rfl (by kernel_rfl) (by kernel_rfl) (by kernel_rfl) rfl (fun _ _ _ _ h => h) (.pointer (some ⟨g, 0, none⟩)) (fun w' h => by simp [go_sem]) ?_
    simp only [Act.put, List.setIfInBounds_toArray, List.set_cons_zero, List.set_cons_succ]
    refine wpU_val 6 hKS rfl (by kernel_rfl) (by kernel_rfl) (by kernel_rfl) rfl (fun _ _ _ _ h => h) (.pointer (some ⟨g, 1, none⟩)) (fun w' h => by simp [go_sem]) ?_
    simp only [Act.put, List.setIfInBounds_toArray, List.set_cons_zero, List.set_cons_succ]
    refine wpU_val 7 hKS rfl (by kernel_rfl) (by kernel_rfl) (by kernel_rfl) rfl (fun _ _ _ _ h => h) (.int .i64 q3) (fun w' h => by simp [go_sem, h.1.cell 1 rfl]) ?_
    simp only [Act.put, List.setIfInBounds_toArray, List.set_cons_zero, List.set_cons_succ]
    refine wpU_val 8 hKS rfl (by kernel_rfl) (by kernel_rfl) (by kernel_rfl) rfl (fun _ _ _ _ h => h) (.int .i64 sz) (fun w' h => by simp [go_sem]) ?_
    simp only [Act.put, List.setIfInBounds_toArray, List.set_cons_zero, List.set_cons_succ]
    refine wpU_val 9 hKS rfl (by kernel_rfl) (by kernel_rfl) (by kernel_rfl) rfl (fun _ _ _ _ h => h) (.int .i64 q2) (fun w' h => by simp [go_sem, z2, wq]) ?_
    simp only [Act.put, List.setIfInBounds_toArray, List.set_cons_zero, List.set_cons_succ]
    refine wpU_val 10 hKS rfl (by kernel_rfl) (by kernel_rfl) (by kernel_rfl) rfl (fun _ _ _ _ h => h) (.pointer (some ⟨g, 0, none⟩)) (fun w' h => by simp [go_sem]) ?_
    simp only [Act.put, List.setIfInBounds_toArray, List.set_cons_zero, List.set_cons_succ]
    refine wpU_val 11 hKS rfl (by kernel_rfl) (by kernel_rfl) (by kernel_rfl) rfl (fun _ _ _ _ h => h) (.pointer (some ⟨g, 0, none⟩)) (fun w' h => by simp [go_sem]) ?_
    simp only [Act.put, List.setIfInBounds_toArray, List.set_cons_zero, List.set_cons_succ]
    refine wpU_val 12 hKS rfl (by kernel_rfl) (by kernel_rfl) (by kernel_rfl) rfl (fun _ _ _ _ h => h) (.pointer (some ⟨g, 1, none⟩)) (fun w' h => by simp [go_sem]) ?_
    simp only [Act.put, List.setIfInBounds_toArray, List.set_cons_zero, List.set_cons_succ]
    refine wpU_val 13 hKS rfl (by kernel_rfl) (by kernel_rfl) (by kernel_rfl) rfl (fun _ _ _ _ h => h) (.int .i64 q3) (fun w' h => by simp [go_sem, h.1.cell 1 rfl]) ?_
    simp only [Act.put, List.setIfInBounds_toArray, List.set_cons_zero, List.set_cons_succ]
    refine wpU_val 14 hKS rfl (by kernel_rfl) (by kernel_rfl) (by kernel_rfl) rfl (fun _ _ _ _ h => h) (.slice va sz (c - q2)) (fun w' h => by simp [go_sem]; rw [if_pos (by omega), if_pos (by omega), show q3 - q2 = sz by omega, HVA.out]) ?_
    simp only [Act.put, List.setIfInBounds_toArray, List.set_cons_zero, List.set_cons_succ]
    refine wpU_one 15 rfl (by kernel_rfl) rfl ?_
    intro w6 b6 s6
    refine wp_callR 106 #[.slice va sz (c - q2)] (by simp [go_sem]) _ (cloneB_any va sz (c - q2) ((l.drop q2).take sz) w6 s6.2 (by omega)) ?_
    rintro e w7 ⟨v', rfl, ho7, hb7⟩
    refine ⟨_, rfl, hKS _ _ s6 hb7, ?_⟩
    simp only [Act.put, List.setIfInBounds_toArray, List.set_cons_zero, List.set_cons_succ]
    refine wpU_val 16 hKS rfl (by kernel_rfl) (by kernel_rfl) (by kernel_rfl) rfl (fun _ _ _ _ h => h) (v') (fun w' h => by simp [go_sem]) ?_
    simp only [Act.put, List.setIfInBounds_toArray, List.set_cons_zero, List.set_cons_succ]
    refine wpU_done (by kernel_rfl) ?_
    intro w8 b8 s8
    have b56 : But (fun k => k = g) w w8 := (b5.drew.trans (But.ofBelow (S := fun _ => False) b6) (fun k hk => hk.elim)).trans (But.ofBelow (S := fun _ => False) (hb7.trans (b8.mono hb7.size))) (fun k hk => hk.elim)
    have ho8 := (ho7.after b8).le (show w.heap.size ≤ w6.heap.size from Nat.le_trans b5.size b6.size)
    have X8 := s8.1
    clear hKS s6 s8 b6 b8 hb7 ho7 X4 X4' hvs b5
    go_wp2_with fail
    go_ret
    exact rb_yes HE.out b56 ho8 X8

end Go.Proofs.YtkbblhioncecmaaDoor

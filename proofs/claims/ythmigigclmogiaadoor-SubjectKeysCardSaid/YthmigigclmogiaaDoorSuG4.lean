/- An argument that is an S-expression: opened to its cells, as a tree. How a canonical form is read: plain. Lengths and bytes, read as they are written, and cut off: plain. Forms, read as they are written, cut off, and what is read: plain. The document's bytes: what it computes. Clones of bytes: what they compute. Principals: key.May, key.Put: what they compute. Windows: an end may be, a window may be; the window without ends, put. Arguments that are lists of canceled sums, or slices of bytes: opened to their cells. The window without ends, put; no sums, put. The list of 'awake', put. The document's Is and Head; 'awake'. Is a second in a window? The program's Cancels: what it computes. The document's Cancels and Great: what they compute. The document's Great; the walk of CrlCancels. -/
import Derived.Test.YthmigigclmogiaaDoorSuG3
import Derived.ChangeSlices
import Derived.WideShapes
import Derived.Deep.Slices
namespace Go.Proofs.YthmigigclmogiaaDoor
open Go.RowKit Go.ChangeShapes Go.WideShapes Go.ChangeAt

theorem cells_sx : Tryd.prog.cellsOf 4 = 1 ∧ Tryd.prog.cellsOf 22 = 1 ∧ Tryd.prog.cellsOf 31 = 1 ∧ Tryd.prog.cellsOf 33 = 5 ∧ Tryd.prog.cellsOf 5 = 1 := ⟨by kernel_rfl, by kernel_rfl, by kernel_rfl, by kernel_rfl, by kernel_rfl⟩

theorem bulk_nodes {H : Type} : ∀ (l : List (DataW H × List MemPlace)) (g : Nat → Sx), (∀ i (h : i < l.length), (g i).nodes ≤ Rows.uptoBulk l[i].1) → Sx.nodesL ((List.range l.length).map g) ≤ Rows.uptoBulkAll (l.map (·.1))
  | [], _, _ => by simp [Sx.nodesL]
  | x :: r, g, h => by
    rw [List.length_cons, List.range_succ_eq_map, List.map_cons, List.map_map]
    simp only [Sx.nodesL, List.map_cons, Rows.uptoBulkAll]
    have h0 := h 0 (by simp)
    have := bulk_nodes r (g ∘ Nat.succ) (fun i hi => by have := h (i + 1) (by simpa using hi); simpa using this)
    simp only [List.getElem_cons_zero] at h0
    omega

section
variable {H : Type} {enc : TypeId × Value → H} {W : World} {held : Bool}

theorem open_slU {fuel : Nat} {c : Value} {x : DataW H × List MemPlace} (h : DataW.trod enc Tryd.prog W 0 (fun _ => true) held fuel 22 [c] = some x) :
    ∃ (a : Option Addr) (n k : Nat) (l : List UInt8), c = .slice a n k ∧ Sl W a n k l := by
  rcases open_ints Tryd.underlying22 Tryd.underlying5 cells_sx.2.2.2.2 h with ⟨hcs, _⟩ | ⟨x, l, k, zs, hcs, _, hl, hm, hz, _, hcell, hwz⟩
  · simp at hcs
    exact ⟨none, 0, 0, [], hcs, Sl.nil W⟩
  · simp at hcs
    have hr : IsRow .u8 W (some x) l k zs := .inr ⟨_, rfl, hl, hm, by simpa using hz, hcell, hwz⟩
    obtain ⟨L, hL⟩ := hr.sl
    exact ⟨_, l, k, L, hcs, hL⟩

set_option maxRecDepth 100000 in
theorem open_sxf : ∀ (fuel : Nat) (cs : List Value) (x : DataW H × List MemPlace), DataW.trod enc Tryd.prog W 0 (fun _ => true) held fuel 33 cs = some x →
    ∃ (v : SV) (s : Sx), cs = v.cells.toList ∧ Rd W v s ∧ s.nodes ≤ Rows.uptoBulk x.1 := by
  intro fuel
  induction fuel using Nat.strongRecOn with
  | _ fuel ih =>
    intro cs x h
    obtain ⟨k1, k2, k3, k4, k5⟩ := cells_sx
    obtain ⟨xs, n, hf, rfl, hl, hxl, hg⟩ := DataW.trod_struct Tryd.underlying33 h
    rw [k4] at hl
    match cs, hl with
    | [c0, c1, c2, c3, c4], _ =>
      match xs, hxl with
      | [y0, y1, y2, y3, y4], _ =>
        have h0 : DataW.trod enc Tryd.prog W 0 (fun _ => true) held n 4 (([c0, c1, c2, c3, c4].drop 0).take (Tryd.prog.cellsOf 4)) = some y0 := hg 0 _ rfl
        have h1 : DataW.trod enc Tryd.prog W 0 (fun _ => true) held n 4 (([c0, c1, c2, c3, c4].drop 1).take (Tryd.prog.cellsOf 4)) = some y1 := hg 1 _ rfl
        have h2 : DataW.trod enc Tryd.prog W 0 (fun _ => true) held n 22 (([c0, c1, c2, c3, c4].drop 2).take (Tryd.prog.cellsOf 22)) = some y2 := hg 2 _ rfl
        have h3 : DataW.trod enc Tryd.prog W 0 (fun _ => true) held n 22 (([c0, c1, c2, c3, c4].drop 3).take (Tryd.prog.cellsOf 22)) = some y3 := hg 3 _ rfl
        have h4 : DataW.trod enc Tryd.prog W 0 (fun _ => true) held n 31 (([c0, c1, c2, c3, c4].drop 4).take (Tryd.prog.cellsOf 31)) = some y4 := hg 4 _ rfl
        rw [k1] at h0 h1
        rw [k2] at h2 h3
        rw [k3] at h4
        obtain ⟨bl, e0, _⟩ := DataW.trod_bool Tryd.underlying4 h0
        obtain ⟨bh, e1, _⟩ := DataW.trod_bool Tryd.underlying4 h1
        obtain ⟨a2, n2, q2, l2, rfl, s2⟩ := open_slU h2
        obtain ⟨a3, n3, q3, l3, rfl, s3⟩ := open_slU h3
        have e0' : c0 = .bool bl := by simpa using e0
        have e1' : c1 = .bool bh := by simpa using e1
        subst e0' e1'
        rcases DataW.trod_slice Tryd.underlying31 h4 with ⟨e4, rfl⟩ | ⟨a, len, cap, elems, rest, m, hm, e4, rfl, _, hlc, hcm, hel, hat, _, _⟩
        · have e4' : c4 = .slice none 0 0 := by simpa using e4
          subst e4'
          refine ⟨⟨bl, bh, a2, n2, q2, a3, n3, q3, none, 0, 0⟩, .mk bl bh l2 l3 [], rfl, .mk _ l2 l3 [] (fun _ => SV.nil) s2 (.inr fun _ _ _ _ => trivial) s3 (.inr fun _ _ _ _ => trivial) ⟨Nat.le_refl _, Nat.zero_le _, fun _ => rfl, .inl rfl⟩ (.inl rfl) rfl (fun i hi => by cases hi), ?_⟩
          simp only [Sx.nodes, Sx.nodesL, Rows.uptoBulk]
          omega
        · have e4' : c4 = .slice (some a) len cap := by simpa using e4
          subst e4'
          have key : ∀ i, i < len → ∃ p : SV × Sx, (∃ he : i < elems.length, p.2.nodes ≤ Rows.uptoBulk elems[i].1) ∧ W.cells? 0 (a.add (i * 5)) 5 = some p.1.cells.toList ∧ Rd W p.1 p.2 := fun i hi => by
            have hi' : i < elems.length := by omega
            have h5 := hat i hi
            rw [k4, List.getElem?_eq_getElem hi'] at h5
            obtain ⟨cs', hc1, hc2⟩ := Option.bind_eq_some_iff.1 h5
            obtain ⟨v, s, rfl, hrd, hnd⟩ := ih m (by omega) cs' _ hc2
            exact ⟨(v, s), ⟨hi', hnd⟩, hc1, hrd⟩
          haveI : Inhabited (SV × Sx) := ⟨(SV.nil, default)⟩
          obtain ⟨f, hf'⟩ := Go.Deep.choose_lt key
          obtain ⟨b, o, spot⟩ := a
          have hcell : ∀ i, i < len → ∀ j u, (f i).1.cells[j]? = some u → W.cell? (((⟨b, o, spot⟩ : Addr).add (i * 5)).add j) = some u := fun i hi j u hu => by
            have h6 := (hf' i hi).2.1
            unfold World.cells? at h6
            rw [if_pos (Nat.zero_le _)] at h6
            have hj : j < 5 := by have := (Array.getElem?_eq_some_iff.1 hu).1; rwa [SV.cells_size] at this
            have h7 := mapM_some_get h6 j j (by simp [hj])
            rw [h7]
            simpa using hu
          have hsp : len = 0 ∨ spot = none := by
            by_cases h0' : len = 0
            · exact .inl h0'
            · right
              have := World.cell?_spot (hcell 0 (by omega) 0 _ rfl)
              simpa [Addr.add] using this
          refine ⟨⟨bl, bh, a2, n2, q2, a3, n3, q3, some ⟨b, o, spot⟩, len, cap⟩, .mk bl bh l2 l3 ((List.range len).map fun i => (f i).2), rfl,
            .mk _ l2 l3 _ (fun i => (f i).1) s2 (.inr fun _ _ _ _ => trivial) s3 (.inr fun _ _ _ _ => trivial) ⟨hlc, hcm, (fun h => by cases h), ?_⟩ (.inr fun _ _ _ _ => trivial) (by simp) (fun i hi => ?_), ?_⟩
          · rcases hsp with h0' | rfl
            · exact .inl h0'
            · refine .inr ⟨b, o, rfl, fun i hi j u hu => ?_⟩
              have := hcell i hi j u hu
              rwa [Addr.add_mid, Addr.add_mid] at this
          · have hi' : i < len := by simpa using hi
            have := (hf' i hi').2.2
            simpa using this
          · have := bulk_nodes elems (fun i => (f i).2) (fun i hi => (hf' i (by omega)).1.2)
            rw [hel] at this
            simp only [Sx.nodes, Rows.uptoBulk, Rows.uptoBulkAll, List.map_cons, List.map_nil]
            omega

set_option maxRecDepth 100000 in
theorem open_sx {r : Reach} {b0 : Nat} {v : Value} {d : DataW H} {p : List MemPlace} (hv : Value.okWide Tryd.prog W r b0 33 v) (h : DataW.Trod enc Tryd.prog W 0 (fun _ => true) held 33 v d p) :
    ∃ (u : SV) (s : Sx), v = u.val ∧ Rd W u s ∧ s.nodes ≤ Rows.uptoBulk d := by
  obtain ⟨cs, rfl, hsz⟩ := okWide_struct Tryd.underlying33 hv
  obtain ⟨fuel, hf⟩ := h
  obtain ⟨u, s, e, hr, hn⟩ := open_sxf fuel _ _ hf
  refine ⟨u, s, ?_, hr, hn⟩
  have : cs = u.cells := by
    apply Array.ext'
    simpa [Value.cells] using e
  rw [this]
  rfl

set_option maxRecDepth 100000 in
theorem open_sxs {a : Option Addr} {n c : Nat} {d : DataW H} {p : List MemPlace} (h : DataW.Trod enc Tryd.prog W 0 (fun _ => true) held 31 (.slice a n c) d p) :
    ∃ (K : Nat → SV) (ks : List Sx), RowAt W a n c K ∧ n = ks.length ∧ (∀ i (hi : i < ks.length), Rd W (K i) ks[i]) ∧ Sx.nodesL ks ≤ Rows.uptoBulk d := by
  obtain ⟨fuel, h4⟩ := h
  obtain ⟨k1, k2, k3, k4, k5⟩ := cells_sx
  rcases DataW.trod_slice Tryd.underlying31 h4 with ⟨e4, e5⟩ | ⟨ad, len, cap, elems, rest, m, hm, e4, e5, _, hlc, hcm, hel, hat, _, _⟩
  · have e4' : (Value.slice a n c) = .slice none 0 0 := by simpa [Value.cells] using e4
    cases e4'
    exact ⟨fun _ => SV.nil, [], ⟨Nat.le_refl _, Nat.zero_le _, fun _ => rfl, .inl rfl⟩, rfl, (fun i hi => by cases hi), by simp [Sx.nodesL]⟩
  · have e4' : (Value.slice a n c) = .slice (some ad) len cap := by simpa [Value.cells] using e4
    cases e4'
    have e6 : d = .slice (elems.map (·.1)) (rest.map (·.1)) := congrArg Prod.fst e5
    subst e6
    have key : ∀ i, i < n → ∃ p : SV × Sx, (∃ he : i < elems.length, p.2.nodes ≤ Rows.uptoBulk elems[i].1) ∧ W.cells? 0 (ad.add (i * 5)) 5 = some p.1.cells.toList ∧ Rd W p.1 p.2 := fun i hi => by
      have hi' : i < elems.length := by omega
      have h5 := hat i hi
      rw [k4, List.getElem?_eq_getElem hi'] at h5
      obtain ⟨cs', hc1, hc2⟩ := Option.bind_eq_some_iff.1 h5
      obtain ⟨v, s, rfl, hrd, hnd⟩ := open_sxf m cs' _ hc2
      exact ⟨(v, s), ⟨hi', hnd⟩, hc1, hrd⟩
    haveI : Inhabited (SV × Sx) := ⟨(SV.nil, default)⟩
    obtain ⟨f, hf'⟩ := Go.Deep.choose_lt key
    obtain ⟨b, o, spot⟩ := ad
    have hcell : ∀ i, i < n → ∀ j u, (f i).1.cells[j]? = some u → W.cell? (((⟨b, o, spot⟩ : Addr).add (i * 5)).add j) = some u := fun i hi j u hu => by
      have h6 := (hf' i hi).2.1
      unfold World.cells? at h6
      rw [if_pos (Nat.zero_le _)] at h6
      have hj : j < 5 := by have := (Array.getElem?_eq_some_iff.1 hu).1; rwa [SV.cells_size] at this
      have h7 := mapM_some_get h6 j j (by simp [hj])
      rw [h7]
      simpa using hu
    have hsp : n = 0 ∨ spot = none := by
      by_cases h0' : n = 0
      · exact .inl h0'
      · right
        have := World.cell?_spot (hcell 0 (by omega) 0 _ rfl)
        simpa [Addr.add] using this
    refine ⟨fun i => (f i).1, (List.range n).map fun i => (f i).2, ⟨hlc, hcm, (fun h => by cases h), ?_⟩, by simp, (fun i hi => ?_), ?_⟩
    · rcases hsp with h0' | rfl
      · exact .inl h0'
      · refine .inr ⟨b, o, rfl, fun i hi j u hu => ?_⟩
        have := hcell i hi j u hu
        rwa [Addr.add_mid, Addr.add_mid] at this
    · have hi' : i < n := by simpa using hi
      have := (hf' i hi').2.2
      simpa using this
    · have := bulk_nodes elems (fun i => (f i).2) (fun i hi => (hf' i (by omega)).1.2)
      rw [hel] at this
      simp only [Rows.uptoBulk]
      omega
end
end Go.Proofs.YthmigigclmogiaaDoor
namespace Go.Proofs.YthmigigclmogiaaDoor
open Go.RowKit

/-- bytes with their length, at a place: the bytes, the place behind, the error -/
def rBytes (l : List UInt8) (p : Nat) : List UInt8 × Nat × Nat :=
  let r := lenR l p 4096
  if r.2.2 = 2 then ([], l.length, 2) else if r.2.2 ≠ 0 then ([], p, r.2.2.toNat) else
  if l.length ≤ r.2.1.toNat then ([], l.length, 2) else if l.getD r.2.1.toNat 0 ≠ 58 then ([], r.2.1.toNat, 3) else
  if l.length - r.2.1.toNat - 1 < r.1.toNat then ([], l.length, 2) else ((l.drop (r.2.1.toNat + 1)).take r.1.toNat, r.2.1.toNat + 1 + r.1.toNat, 0)

/-- what was read -/
structure RV where
  v : Sx
  p : Nat
  n : Nat
  e : Nat
def RV.err (p e : Nat) : RV := ⟨Sx.nil, p, 0, e⟩

/-- an atom, at a place -/
def rAtom (l : List UInt8) (p n : Nat) : RV :=
  if l.getD p 0 = 91 then
    let h := rBytes l (p + 1)
    if h.2.2 ≠ 0 then RV.err h.2.1 h.2.2 else if l.length ≤ h.2.1 then RV.err l.length 2 else if l.getD h.2.1 0 ≠ 93 then RV.err h.2.1 3 else
    let d := rBytes l (h.2.1 + 1)
    if d.2.2 ≠ 0 then RV.err d.2.1 d.2.2 else ⟨.mk false true h.1 d.1 [], d.2.1, n, 0⟩
  else
    let d := rBytes l p
    if d.2.2 ≠ 0 then RV.err d.2.1 d.2.2 else ⟨.mk false false [] d.1 [], d.2.1, n, 0⟩

/-- may a value begin so? -/
def starts (c : UInt8) : Prop := c = 40 ∨ c = 91 ∨ isD c
instance (c : UInt8) : Decidable (starts c) := by unfold starts; infer_instance

/-- reading: of a value (none), of what is left of a list whose values so far are there (some) -/
inductive St (l : List UInt8) : Option (List Sx) → Nat → Nat → Nat → RV → Prop
  | short {p lv n : Nat} : l.length ≤ p → St l none p lv n (RV.err l.length 2)
  | bad {p lv n : Nat} : p < l.length → ¬ starts (l.getD p 0) → St l none p lv n (RV.err p 3)
  | long {p lv n : Nat} : p < l.length → starts (l.getD p 0) → (512 < n + 1 ∨ l.getD p 0 = 40 ∧ 16 < lv) → St l none p lv n (RV.err p 4)
  | atom {p lv n : Nat} : p < l.length → starts (l.getD p 0) → l.getD p 0 ≠ 40 → n + 1 ≤ 512 → St l none p lv n (rAtom l p (n + 1))
  | list {p lv n : Nat} {r : RV} : p < l.length → l.getD p 0 = 40 → n + 1 ≤ 512 → lv ≤ 16 → St l (some []) (p + 1) lv (n + 1) r → St l none p lv n r
  | close {p lv n : Nat} {acc : List Sx} : p < l.length → l.getD p 0 = 41 → St l (some acc) p lv n ⟨.mk true false [] [] acc, p + 1, n, 0⟩
  | fail {p lv n : Nat} {acc : List Sx} {r : RV} : ¬ (p < l.length ∧ l.getD p 0 = 41) → St l none p (lv + 1) n r → r.e ≠ 0 → St l (some acc) p lv n r
  | more {p lv n : Nat} {acc : List Sx} {r r' : RV} : ¬ (p < l.length ∧ l.getD p 0 = 41) → St l none p (lv + 1) n r → r.e = 0 → St l (some (acc ++ [r.v])) r.p lv r.n r' → St l (some acc) p lv n r'

theorem starts40 : starts 40 := .inl rfl
theorem St.det {l : List UInt8} {m : Option (List Sx)} {p lv n : Nat} {r r' : RV} (h : St l m p lv n r) (h' : St l m p lv n r') : r = r' := by
  induction h generalizing r' with
  | short h1 =>
    cases h' with
    | short => rfl
    | bad h2 | long h2 | atom h2 | list h2 => omega
  | bad h1 h2 =>
    cases h' with
    | short h3 => omega
    | bad => rfl
    | long _ h3 | atom _ h3 => exact absurd h3 h2
    | list _ h3 => exact absurd (h3 ▸ starts40) h2
  | long h1 h2 h3 =>
    cases h' with
    | short h4 => omega
    | bad _ h4 => exact absurd h2 h4
    | long => rfl
    | atom _ _ h4 h5 => rcases h3 with h3 | h3; · omega
                        · exact absurd h3.1 h4
    | list _ h4 h5 h6 => rcases h3 with h3 | h3; · omega
                         · omega
  | atom h1 h2 h3 h4 =>
    cases h' with
    | short h5 => omega
    | bad _ h5 => exact absurd h2 h5
    | long _ _ h5 => rcases h5 with h5 | h5; · omega
                     · exact absurd h5.1 h3
    | atom => rfl
    | list _ h5 => exact absurd h5 h3
  | list h1 h2 h3 h4 _ ih =>
    cases h' with
    | short h5 => omega
    | bad _ h5 => exact absurd (h2 ▸ starts40) h5
    | long _ _ h5 => rcases h5 with h5 | h5; · omega
                     · omega
    | atom _ _ h5 => exact absurd h2 h5
    | list _ _ _ _ h5 => exact ih h5
  | close h1 h2 =>
    cases h' with
    | close => rfl
    | fail h3 | more h3 => exact absurd ⟨h1, h2⟩ h3
  | fail h1 _ h3 ih =>
    cases h' with
    | close h4 h5 => exact absurd ⟨h4, h5⟩ h1
    | fail _ h4 => exact ih h4
    | more _ h4 h5 => rw [ih h4] at h3; exact absurd h5 h3
  | more h1 _ h3 _ ih1 ih2 =>
    cases h' with
    | close h4 h5 => exact absurd ⟨h4, h5⟩ h1
    | fail _ h4 h5 => rw [ih1 h4] at h3; exact absurd h3 h5
    | more _ h4 h5 h6 =>
      obtain rfl := ih1 h4
      exact ih2 h6
end Go.Proofs.YthmigigclmogiaaDoor
namespace Go.Proofs.YthmigigclmogiaaDoor
open Go.RowKit

theorem lenScan_some {M n k : Nat} : ∀ (w : List UInt8) (a : Nat), lenScan M a w = some (n, k) → k ≤ w.length ∧ (∀ c ∈ w.take k, isD c) ∧ n = valA a (w.take k) ∧ (a ≤ M → n ≤ M)
  | [], a, h => by
    simp only [lenScan, Option.some.injEq, Prod.mk.injEq] at h
    obtain ⟨rfl, rfl⟩ := h
    exact ⟨Nat.le_refl _, (fun c hc => by cases hc), rfl, fun h => h⟩
  | c :: w, a, h => by
    unfold lenScan at h
    split at h
    · rename_i hd
      split at h
      · cases h
      · rename_i hM
        cases hr : lenScan M (10 * a + (c.toNat - 48)) w with
        | none => rw [hr] at h; cases h
        | some q =>
          obtain ⟨n', k'⟩ := q
          rw [hr] at h
          simp only [Option.map_some, Option.some.injEq, Prod.mk.injEq] at h
          obtain ⟨rfl, rfl⟩ := h
          obtain ⟨h1, h2, h3, h4⟩ := lenScan_some w _ hr
          refine ⟨by simp only [List.length_cons]; omega, fun d hd' => ?_, by rw [List.take_succ_cons, valA_cons]; exact h3, fun _ => h4 (by omega)⟩
          rw [List.take_succ_cons] at hd'
          rcases List.mem_cons.1 hd' with rfl | hd'
          · exact hd
          · exact h2 d hd'
    · simp only [Option.some.injEq, Prod.mk.injEq] at h
      obtain ⟨rfl, rfl⟩ := h
      exact ⟨Nat.zero_le _, (fun c hc => by simp at hc), by simp [valA_nil], fun h => h⟩

theorem digit_back (c : UInt8) (h : isD c) : UInt8.ofNat (48 + (c.toNat - 48)) = c := by
  unfold isD at h
  rw [show 48 + (c.toNat - 48) = c.toNat by omega]
  simp
/-- digits that begin with no nought are how their number is written -/
theorem numL_valA : ∀ (k : Nat) (d : List UInt8), d.length = k → (∀ c ∈ d, isD c) → d ≠ [] → d.getD 0 0 ≠ 48 → numL ((valA 0 d : Nat) : Int) = d ∧ 1 ≤ valA 0 d := by
  intro k
  induction k with
  | zero => intro d hl _ hn; exact absurd (List.eq_nil_of_length_eq_zero hl) hn
  | succ k ih =>
    intro d hl hd hn h0
    obtain ⟨d', c, rfl⟩ : ∃ d' c, d = d' ++ [c] := ⟨_, _, (List.dropLast_concat_getLast hn).symm⟩
    have hc : isD c := hd c (by simp)
    have hc2 := hc
    unfold isD at hc2
    rw [valA_snoc]
    by_cases e : d' = []
    · subst e
      simp only [List.nil_append, List.getD_cons_zero] at h0
      have hne : c.toNat ≠ 48 := fun e => h0 (by rw [← UInt8.toNat_inj]; exact e)
      rw [valA_nil, numL_small _ (by omega)]
      refine ⟨?_, by omega⟩
      rw [show (((10 * 0 + (c.toNat - 48) : Nat) : Int)).toNat = c.toNat - 48 by omega, digit_back c hc]
      rfl
    · have hl' : d'.length = k := by simpa using hl
      have hpos : 0 < d'.length := List.length_pos_iff.2 e
      obtain ⟨h1, h2⟩ := ih d' hl' (fun c hc => hd c (by simp [hc])) e (by
        simp only [List.getD_eq_getElem?_getD] at h0 ⊢
        rwa [List.getElem?_append_left hpos] at h0)
      refine ⟨?_, by omega⟩
      rw [numL_step _ (by omega)]
      rw [show ((10 * valA 0 d' + (c.toNat - 48) : Nat) : Int) / 10 = ((valA 0 d' : Nat) : Int) by omega, h1]
      rw [show (((10 * valA 0 d' + (c.toNat - 48) : Nat) : Int) % 10).toNat = c.toNat - 48 by omega, digit_back c hc]

/-- what a length at a place is -/
theorem lenR_cases (l : List UInt8) (p M : Nat) :
    (l.length ≤ p ∧ lenR l p M = (0, (p : Int), 2)) ∨ (p < l.length ∧ ¬ isD (l.getD p 0) ∧ lenR l p M = (0, (p : Int), 3)) ∨ (p < l.length ∧ lenR l p M = (0, (p : Int), 4)) ∨
    ∃ k n, 1 ≤ k ∧ p + k ≤ l.length ∧ n ≤ M ∧ (l.drop p).take k = numL ((n : Nat) : Int) ∧ lenR l p M = ((n : Int), ((p + k : Nat) : Int), 0) := by
  by_cases h1 : l.length ≤ p
  · exact .inl ⟨h1, by unfold lenR; rw [if_neg (by omega), if_pos (by omega)]⟩
  · replace h1 : p < l.length := by omega
    right
    by_cases h2 : isD (l.getD p 0)
    · right
      by_cases h3 : l.getD p 0 = 48
      · right
        refine ⟨1, 0, Nat.le_refl _, h1, Nat.zero_le _, ?_, ?_⟩
        · rw [List.drop_eq_getElem_cons h1]
          have : l[p] = 48 := by rw [← h3]; simp [List.getD_eq_getElem?_getD, h1]
          rw [this, numL_small _ (by omega)]
          rfl
        · unfold lenR
          rw [if_neg (by omega), if_neg (by omega), Int.toNat_natCast, if_neg (fun h => h h2), if_pos h3]
          rfl
      · have hb : lenR l p M = match lenScan M 0 (l.drop p) with
          | none => (0, (p : Int), 4)
          | some (n, k) => ((n : Int), (p : Int) + k, 0) := by
          unfold lenR
          rw [if_neg (by omega), if_neg (by omega), Int.toNat_natCast, if_neg (fun h => h h2), if_neg h3]
          all_goals (cases lenScan M 0 (l.drop p) <;> rfl)
        cases hs : lenScan M 0 (l.drop p) with
        | none => exact .inl ⟨h1, by rw [hb, hs]⟩
        | some q =>
          right
          obtain ⟨n, k⟩ := q
          obtain ⟨k1, k2, k3, k4⟩ := lenScan_some _ _ hs
          have hk : 1 ≤ k := by
            rcases Nat.eq_zero_or_pos k with e | e
            · subst e
              rw [List.drop_eq_getElem_cons h1] at hs
              unfold lenScan at hs
              have e2 : l[p] = l.getD p 0 := by simp [List.getD_eq_getElem?_getD, h1]
              rw [e2, if_pos h2] at hs
              split at hs
              · cases hs
              · cases hr : lenScan M (10 * 0 + ((l.getD p 0).toNat - 48)) (l.drop (p + 1)) with
                | none => rw [hr] at hs; cases hs
                | some q => rw [hr] at hs; simp at hs
            · exact e
          rw [List.length_drop] at k1
          refine ⟨k, n, hk, by omega, k4 (Nat.zero_le _), ?_, by rw [hb, hs]; simp⟩
          rw [k3]
          refine (numL_valA k _ (by simp; omega) k2 ?_ ?_).1.symm
          · intro e
            have := congrArg List.length e
            simp at this
            omega
          · simp only [List.getD_eq_getElem?_getD] at h3 ⊢
            rw [List.getElem?_take_of_lt (by omega), List.getElem?_drop]
            simpa using h3
    · exact .inl ⟨h1, h2, by unfold lenR; rw [if_neg (by omega), if_neg (by omega), Int.toNat_natCast, if_pos h2]⟩

/-- a length that stands at a place is read -/
theorem lenR_at {l : List UInt8} {p n M : Nat} {t : List UInt8} (h : l.drop p = numL ((n : Nat) : Int) ++ t) (ht : ∀ c r, t = c :: r → ¬ isD c) (hM : n ≤ M) : lenR l p M = ((n : Int), ((p + (numL ((n : Nat) : Int)).length : Nat) : Int), 0) := by
  have hb := back_len (n : Int) (by omega) t ht M (by omega)
  have hpos := (numL_facts n).2.2
  have hlt : p < l.length := by
    have := congrArg List.length h
    simp at this
    omega
  have e0 : l.getD p 0 = (l.drop p).getD 0 0 := by simp [List.getD_eq_getElem?_getD]
  rw [← h] at hb
  unfold lenR at hb ⊢
  rw [if_neg (by omega), if_neg (by simp; omega), Int.toNat_zero] at hb
  rw [if_neg (by omega), if_neg (by omega), Int.toNat_natCast, e0]
  rw [List.drop_zero] at hb
  split at hb
  · simp at hb
  · rename_i h1
    rw [if_neg h1]
    split at hb
    · rename_i h2
      rw [if_pos h2]
      simp only [Prod.mk.injEq] at hb ⊢
      exact ⟨by omega, by omega, trivial⟩
    · rename_i h2
      rw [if_neg h2]
      cases hs : lenScan M 0 (l.drop p) with
      | none => rw [hs] at hb; simp at hb
      | some q =>
        obtain ⟨n', k'⟩ := q
        rw [hs] at hb
        simp only [Prod.mk.injEq] at hb ⊢
        exact ⟨hb.1, by omega, trivial⟩

theorem getD_drop (l : List UInt8) (p i : Nat) : (l.drop p).getD i 0 = l.getD (p + i) 0 := by simp [List.getD_eq_getElem?_getD]

/-- bytes that stand at a place are read -/
theorem rBytes_at {l b r : List UInt8} {p : Nat} (h : l.drop p = textL b ++ r) (hb : b.length ≤ 4096) : rBytes l p = (b, p + (textL b).length, 0) := by
  simp only [textL, List.append_assoc, List.cons_append] at h
  have hn := lenR_at h (fun c r e => by simp only [List.cons.injEq] at e; rw [← e.1]; exact not_isD (by decide)) hb
  have hlen := congrArg List.length h
  simp only [List.length_drop, List.length_append, List.length_cons] at hlen
  have h58 : l.getD (p + (numL ((b.length : Nat) : Int)).length) 0 = 58 := by
    rw [← getD_drop, h]
    simp [List.getD_eq_getElem?_getD]
  have hpos := (numL_facts b.length).2.2
  have hdr : l.drop (p + (numL ((b.length : Nat) : Int)).length + 1) = b ++ r := by
    rw [Nat.add_assoc, ← List.drop_drop, h, ← List.drop_drop, List.drop_left]
    rfl
  unfold rBytes
  simp only [hn, Int.toNat_natCast]
  rw [if_neg (by omega), if_neg (by omega), if_neg (by omega), if_neg (by rw [h58]; simp), if_neg (by omega), hdr]
  simp only [Prod.mk.injEq, and_true]
  exact ⟨by simp, by simp [textL]; omega⟩

/-- bytes that were read stood there -/
theorem rBytes_ok {l b : List UInt8} {p q : Nat} (h : rBytes l p = (b, q, 0)) : l.drop p = textL b ++ l.drop q ∧ q = p + (textL b).length ∧ q ≤ l.length ∧ b.length ≤ 4096 := by
  unfold rBytes at h
  simp only at h
  rcases lenR_cases l p 4096 with ⟨_, e⟩ | ⟨_, _, e⟩ | ⟨_, e⟩ | ⟨k, n, hk, hp, hn, ht, e⟩
  · rw [e] at h; simp at h
  · rw [e] at h; simp at h
  · rw [e] at h; simp at h
  · rw [e] at h
    simp only [Int.toNat_natCast] at h
    rw [if_neg (by omega), if_neg (by omega)] at h
    split at h
    · simp at h
    · rename_i h1
      split at h
      · simp at h
      · rename_i h2
        split at h
        · simp at h
        · rename_i h3
          simp only [Prod.mk.injEq, and_true] at h
          obtain ⟨rfl, rfl⟩ := h
          replace h2 : l.getD (p + k) 0 = 58 := by simpa using h2
          have hbl : ((l.drop (p + k + 1)).take n).length = n := by simp; omega
          have hnl : (numL ((n : Nat) : Int)).length = k := by rw [← ht]; simp; omega
          refine ⟨?_, by simp only [textL, List.length_append, List.length_cons, hbl, hnl]; omega, by omega, by rw [hbl]; exact hn⟩
          simp only [textL, hbl, List.append_assoc, List.cons_append]
          rw [← ht]
          have e1 : l.drop p = (l.drop p).take k ++ (l.drop p).drop k := (List.take_append_drop k _).symm
          rw [List.drop_drop] at e1
          have e2 : l.drop (p + k) = 58 :: l.drop (p + k + 1) := by
            rw [List.drop_eq_getElem_cons (by omega)]
            congr 1
            rw [← h2]
            simp [List.getD_eq_getElem?_getD, show p + k < l.length by omega]
          have e3 : l.drop (p + k + 1) = (l.drop (p + k + 1)).take n ++ l.drop (p + k + 1 + n) := by
            have := (List.take_append_drop n (l.drop (p + k + 1))).symm
            rwa [List.drop_drop] at this
          rw [← e3, ← e2]
          exact e1

/-- an error is told at a place that is there -/
theorem rBytes_err {l b : List UInt8} {p q e : Nat} (h : rBytes l p = (b, q, e)) (hp : p ≤ l.length) : q ≤ l.length ∧ e ≤ 4 := by
  unfold rBytes at h
  simp only at h
  rcases lenR_cases l p 4096 with ⟨_, e1⟩ | ⟨_, _, e1⟩ | ⟨_, e1⟩ | ⟨k, n, hk, hp, hn, ht, e1⟩
  · rw [e1] at h; simp at h; omega
  · rw [e1] at h; simp at h; omega
  · rw [e1] at h; simp at h; omega
  · rw [e1] at h
    simp only [Int.toNat_natCast] at h
    rw [if_neg (by omega), if_neg (by omega)] at h
    split at h
    · simp at h; omega
    · split at h
      · simp at h; omega
      · split at h
        · simp at h; omega
        · simp at h; omega

/-- bytes that are cut off are short -/
theorem rBytes_cut {l b r : List UInt8} {p k : Nat} (h : l.drop p = (textL b ++ r).take k) (hk : k < (textL b).length) (hb : b.length ≤ 4096) (hp : p ≤ l.length) : rBytes l p = ([], l.length, 2) := by
  rw [List.take_append_of_le_length (by omega)] at h
  have hkl : l.length = p + k := by
    have := congrArg List.length h
    simp at this
    omega
  obtain ⟨N, hN⟩ : ∃ N, N = numL ((b.length : Nat) : Int) := ⟨_, rfl⟩
  obtain ⟨f1, f2, f3⟩ := numL_facts b.length
  rw [← hN] at f1 f2 f3
  have ht : textL b = N ++ 58 :: b := by rw [hN]; rfl
  rw [ht] at h hk
  simp only [List.length_append, List.length_cons] at hk
  unfold rBytes
  simp only
  by_cases h1 : k ≤ N.length
  · rw [List.take_append_of_le_length h1] at h
    rcases lenR_cases l p 4096 with ⟨_, e⟩ | ⟨h2, h3, e⟩ | ⟨h2, e⟩ | ⟨k', n, hk', hp', hn', ht', e⟩
    · rw [e]; simp
    · refine absurd (f1 _ ?_) h3
      have : l.getD p 0 = (l.drop p).getD 0 0 := by simp [List.getD_eq_getElem?_getD]
      rw [this, h]
      have hk0 : 0 < k := by omega
      simp only [List.getD_eq_getElem?_getD]
      rw [List.getElem?_take_of_lt hk0, List.getElem?_eq_getElem f3]
      simp
    · -- the digits of a small number are not too many
      exfalso
      have h2' : isD (l.getD p 0) ∧ l.getD p 0 ≠ 48 ∧ lenScan 4096 0 (l.drop p) = none := by
        unfold lenR at e
        rw [if_neg (by omega), if_neg (by omega), Int.toNat_natCast] at e
        split at e
        · simp at e
        · rename_i h5
          split at e
          · simp at e
          · rename_i h6
            cases hs : lenScan 4096 0 (l.drop p) with
            | none => exact ⟨Decidable.not_not.1 h5, h6, rfl⟩
            | some q => rw [hs] at e; simp at e
      have h7 := h2'.2.2
      rw [h] at h7
      have happ := lenScan_app 4096 [] (N.take k) 0 (fun c hc => f1 c (List.mem_of_mem_take hc)) (Nat.zero_le _)
      rw [List.append_nil, h7] at happ
      have hle : valA 0 (N.take k) ≤ valA 0 N := by
        have e1 : valA 0 N = valA (valA 0 (N.take k)) (N.drop k) := by
          conv => lhs; rw [← List.take_append_drop k N]
          unfold valA
          rw [List.foldl_append]
        rw [e1]
        exact valA_ge _ _
      rw [f2] at hle
      rw [if_neg (by omega)] at happ
      simp [lenScan] at happ
    · have hall : p + k' = l.length := by
        rcases Nat.lt_or_ge (p + k') l.length with h4 | h4
        · exfalso
          -- what stands behind the digits is no digit, or the number is a nought
          by_cases h0 : l.getD p 0 = 48
          · have hN0 : N.getD 0 0 = 48 := by
              have : l.getD p 0 = (l.drop p).getD 0 0 := by simp [List.getD_eq_getElem?_getD]
              rw [this, h] at h0
              have hk0 : 0 < k := by omega
              simp only [List.getD_eq_getElem?_getD] at h0 ⊢
              rwa [List.getElem?_take_of_lt hk0] at h0
            have := (dec_facts b.length).2.2.1
            have hz : b.length = 0 := by
              rcases Nat.eq_zero_or_pos b.length with e0 | e0
              · exact e0
              · exact absurd (by rw [hN] at hN0; unfold numL at hN0; simpa using hN0) (this e0)
            have hNl : N.length = 1 := by rw [hN, hz, show ((0 : Nat) : Int) = 0 from rfl, numL_small 0 (by omega)]; rfl
            omega
          · have h8 : lenScan 4096 0 (l.drop p) = some (n, k') := by
              have e' := e
              unfold lenR at e'
              rw [if_neg (by omega), if_neg (by omega), Int.toNat_natCast] at e'
              split at e'
              · simp at e'
              · cases hs : lenScan 4096 0 (l.drop p) with
                | none => rw [hs] at e'; simp at e'
                | some q =>
                  obtain ⟨a, c⟩ := q
                  rw [hs] at e'
                  simp only [Prod.mk.injEq] at e'
                  congr 2 <;> omega
            have happ := lenScan_app 4096 [] (N.take k) 0 (fun c hc => f1 c (List.mem_of_mem_take hc)) (Nat.zero_le _)
            rw [List.append_nil, ← h, h8] at happ
            split at happ
            · cases happ
            · simp only [lenScan, Option.map_some, Option.some.injEq, Prod.mk.injEq, Nat.zero_add] at happ
              have := happ.2
              rw [List.length_drop] at this
              omega
        · omega
      rw [e]
      simp only [Int.toNat_natCast]
      rw [if_neg (by omega), if_neg (by omega), if_pos (by omega)]
  · replace h1 : N.length < k := by omega
    have h' : l.drop p = N ++ 58 :: b.take (k - N.length - 1) := by
      rw [h, List.take_append]
      rw [List.take_of_length_le (by omega), show k - N.length = (k - N.length - 1) + 1 by omega, List.take_succ_cons]
      rfl
    have hn := lenR_at (by rw [hN] at h'; exact h') (fun c r e => by simp only [List.cons.injEq] at e; rw [← e.1]; exact not_isD (by decide)) hb
    rw [← hN] at hn
    have h58 : l.getD (p + N.length) 0 = 58 := by
      rw [← getD_drop, h']
      simp [List.getD_eq_getElem?_getD]
    simp only [hn, Int.toNat_natCast]
    rw [if_neg (by omega), if_neg (by omega), if_neg (by omega), if_neg (by rw [h58]; simp), if_pos (by omega)]
end Go.Proofs.YthmigigclmogiaaDoor
namespace Go.Proofs.YthmigigclmogiaaDoor
open Go.RowKit

theorem drop_cons {l : List UInt8} {p : Nat} {c : UInt8} {r : List UInt8} (h : l.drop p = c :: r) : p < l.length ∧ l.getD p 0 = c ∧ l.drop (p + 1) = r := by
  have hlt : p < l.length := by
    have := congrArg List.length h
    simp at this
    omega
  refine ⟨hlt, ?_, ?_⟩
  · have := getD_drop l p 0
    rw [h] at this
    simpa using this.symm
  · rw [← List.drop_drop, h]; rfl
theorem drop_app {l a r : List UInt8} {p : Nat} (h : l.drop p = a ++ r) : l.drop (p + a.length) = r := by
  rw [← List.drop_drop, h, List.drop_left]
theorem textL_bound {x : List UInt8} : x.length < (textL x).length := by simp [textL]; omega

/-- an atom that stands at a place -/
theorem rAtom_at {l : List UInt8} {h : Bool} {hi da r : List UInt8} {p n : Nat} (hl : l.drop p = (Sx.mk false h hi da []).form ++ r) (hc : (Sx.mk false h hi da []).clean = true) (hf : (Sx.mk false h hi da []).form.length ≤ 4096) :
    rAtom l p n = ⟨.mk false h hi da [], p + (Sx.mk false h hi da []).form.length, n, 0⟩ := by
  obtain ⟨_, p2, _⟩ := clean_parts hc
  rw [form_def] at hl hf ⊢
  have b1 := textL_bound (x := hi)
  have b2 := textL_bound (x := da)
  cases h with
  | true =>
    simp only [Bool.false_eq_true, if_false, if_true, List.length_cons, List.length_append, List.length_nil] at hl hf ⊢
    simp only [List.cons_append, List.append_assoc] at hl
    obtain ⟨h1, h2, h3⟩ := drop_cons hl
    have r1 := rBytes_at h3 (by omega)
    have h4 := drop_app h3
    simp only [List.nil_append] at h4
    obtain ⟨h5, h6, h7⟩ := drop_cons h4
    have r2 := rBytes_at h7 (by omega)
    unfold rAtom
    rw [if_pos h2]
    simp only [r1]
    rw [if_neg (by simp), if_neg (by omega), if_neg (by rw [h6]; simp)]
    simp only [r2]
    rw [if_neg (by simp)]
    congr 1
    omega
  | false =>
    obtain rfl := (p2 rfl).2 rfl
    simp only [Bool.false_eq_true, if_false, List.nil_append] at hl hf ⊢
    obtain ⟨c, t, e, hd⟩ := textL_head da r
    have h2 := (drop_cons (hl.trans e)).2.1
    have r1 := rBytes_at hl (by omega)
    unfold rAtom
    rw [if_neg (by rw [h2]; intro e2; subst e2; exact absurd hd (not_isD (by decide)))]
    simp only [r1]
    rw [if_neg (by simp)]

theorem starts_head {l : List UInt8} {s : Sx} {r : List UInt8} {p : Nat} (h : l.drop p = s.form ++ r) : p < l.length ∧ starts (l.getD p 0) ∧ (l.getD p 0 = 40 ↔ s.l = true) ∧ l.getD p 0 ≠ 41 := by
  obtain ⟨c, t, e, hc⟩ := form_head s r
  obtain ⟨h1, h2, _⟩ := drop_cons (h.trans e)
  rw [h2]
  refine ⟨h1, ?_⟩
  have d1 : ¬ isD 40 := not_isD (by decide)
  have d2 : ¬ isD 41 := not_isD (by decide)
  rcases hc with ⟨a, rfl⟩ | ⟨a, b, rfl⟩ | ⟨a, b, hd⟩
  · exact ⟨.inl rfl, ⟨fun _ => a, fun _ => rfl⟩, by decide⟩
  · exact ⟨.inr (.inl rfl), ⟨fun h => absurd h (by decide), fun h => by rw [a] at h; cases h⟩, by decide⟩
  · exact ⟨.inr (.inr hd), ⟨fun h => absurd (h ▸ hd) d1, fun h => by rw [a] at h; cases h⟩, fun h => d2 (h ▸ hd)⟩

/-- a form that stands at a place is read -/
theorem St_form {l : List UInt8} (s : Sx) : ∀ (p lv n : Nat) (r : List UInt8), s.clean = true → l.drop p = s.form ++ r → n + s.nodes ≤ 512 → s.deep + lv ≤ 17 → s.form.length ≤ 4096 → St l none p lv n ⟨s, p + s.form.length, n + s.nodes, 0⟩ := by
  induction s using Sx.ind with
  | h tl th hi da ks ih =>
    intro p lv n r hc h hn hd hf
    obtain ⟨h1, h2, h3, _⟩ := starts_head h
    obtain ⟨p1, p2, p3⟩ := clean_parts hc
    cases tl with
    | false =>
      obtain ⟨rfl, _⟩ := p2 rfl
      have hA := rAtom_at (n := n + 1) h hc hf
      have e : (Sx.mk false th hi da []).nodes = 1 := by simp [Sx.nodes, Sx.nodesL]
      rw [e] at hn ⊢
      rw [← hA]
      exact .atom h1 h2 (fun h => by have := h3.1 h; cases this) (by omega)
    | true =>
      obtain ⟨rfl, rfl, rfl⟩ := p1 rfl
      have h4 := h3.2 rfl
      rw [form_def, if_pos rfl] at h hf
      have hfd : (Sx.mk true false [] [] ks).form = 40 :: (Sx.formL ks ++ [41]) := by rw [form_def, if_pos rfl]
      rw [hfd]
      simp only [List.length_cons, List.length_append, List.length_nil] at hf ⊢
      simp only [Sx.nodes, Sx.deep, if_true] at hn hd ⊢
      simp only [List.cons_append, List.append_assoc, List.nil_append] at h
      obtain ⟨_, _, h5⟩ := drop_cons h
      have key : ∀ (ks' acc : List Sx) (q m : Nat), (∀ k ∈ ks', k ∈ ks) → l.drop q = Sx.formL ks' ++ 41 :: r → m + Sx.nodesL ks' ≤ 512 → (Sx.formL ks').length ≤ 4096 →
          St l (some acc) q lv m ⟨.mk true false [] [] (acc ++ ks'), q + (Sx.formL ks').length + 1, m + Sx.nodesL ks', 0⟩ := by
        intro ks'
        induction ks' with
        | nil =>
          intro acc q m _ hq _ _
          obtain ⟨q1, q2, _⟩ := drop_cons (by simpa [Sx.formL] using hq)
          simpa [Sx.formL, Sx.nodesL] using St.close (lv := lv) (n := m) (acc := acc) q1 q2
        | cons a t iht =>
          intro acc q m hin hq hm hfl
          simp only [Sx.formL, List.append_assoc] at hq
          simp only [Sx.nodesL, Sx.formL, List.length_append] at hm hfl ⊢
          have ha := hin a List.mem_cons_self
          have hdeep := Sx.deepL_mem ha
          have s1 := ih a ha q (lv + 1) m _ (p3 a ha) hq (by omega) (by omega) (by omega)
          have s2 := iht (acc ++ [a]) (q + a.form.length) (m + a.nodes) (fun k hk => hin k (List.mem_cons_of_mem _ hk)) (drop_app hq) (by omega) (by omega)
          have hno := (starts_head hq).2.2.2
          have := St.more (fun h => hno h.2) s1 rfl s2
          simpa [Nat.add_assoc] using this
      have hk := key ks [] (p + 1) (n + 1) (fun k hk => hk) h5 (by omega) (by omega)
      rw [List.nil_append] at hk
      have := St.list h1 h4 (by omega) (by omega) hk
      have e1 : p + 1 + (Sx.formL ks).length + 1 = p + ((Sx.formL ks).length + (0 + 1) + 1) := by omega
      have e2 : n + 1 + Sx.nodesL ks = n + (1 + Sx.nodesL ks) := by omega
      rw [e1, e2] at this
      exact this

/-- what is read stood there -/
def OkP (l : List UInt8) : Option (List Sx) → Nat → Nat → Nat → RV → Prop
  | none, p, lv, n, r => lv ≤ 17 → n ≤ 512 → l.drop p = r.v.form ++ l.drop r.p ∧ r.p = p + r.v.form.length ∧ r.p ≤ l.length ∧ r.v.clean = true ∧ r.n = n + r.v.nodes ∧ r.n ≤ 512 ∧ r.v.deep + lv ≤ 17
  | some acc, p, lv, n, r => lv ≤ 16 → n ≤ 512 → ∃ ks, r.v = .mk true false [] [] (acc ++ ks) ∧ l.drop p = Sx.formL ks ++ 41 :: l.drop r.p ∧ r.p = p + (Sx.formL ks).length + 1 ∧ r.p ≤ l.length ∧ Sx.cleanL ks = true ∧ r.n = n + Sx.nodesL ks ∧ r.n ≤ 512 ∧ Sx.deepL ks + lv ≤ 16

theorem cleanL_cons (a : Sx) (ks : List Sx) : Sx.cleanL (a :: ks) = (a.clean && Sx.cleanL ks) := rfl
theorem drop_eq {l : List UInt8} {p : Nat} (h : p < l.length) : l.drop p = l.getD p 0 :: l.drop (p + 1) := by
  rw [List.drop_eq_getElem_cons h]
  congr 1
  simp [List.getD_eq_getElem?_getD, h]

theorem St_ok {l : List UInt8} {m : Option (List Sx)} {p lv n : Nat} {r : RV} (h : St l m p lv n r) : r.e = 0 → OkP l m p lv n r := by
  induction h with
  | short | bad | long => intro h; cases h
  | @atom p lv n h1 h2 h3 h4 =>
    intro h hlv hn
    unfold rAtom at h ⊢
    split at h
    · rename_i h5
      rw [if_pos h5]
      obtain ⟨⟨b1, q1, e1⟩, hr1⟩ : ∃ x, x = rBytes l (p + 1) := ⟨_, rfl⟩
      simp only [← hr1] at h ⊢
      split at h
      · rename_i h6; exact absurd h h6
      · rename_i h6
        rw [if_neg h6]
        replace h6 : e1 = 0 := by simpa using h6
        subst h6
        obtain ⟨k1, k2, k3, k4⟩ := rBytes_ok hr1.symm
        split at h
        · cases h
        · rename_i h7
          rw [if_neg h7]
          split at h
          · cases h
          · rename_i h8
            rw [if_neg h8]
            obtain ⟨⟨b2, q2, e2⟩, hr2⟩ : ∃ x, x = rBytes l (q1 + 1) := ⟨_, rfl⟩
            simp only [← hr2] at h ⊢
            split at h
            · rename_i h9; exact absurd h h9
            · rename_i h9
              rw [if_neg h9]
              replace h9 : e2 = 0 := by simpa using h9
              subst h9
              obtain ⟨g1, g2, g3, g4⟩ := rBytes_ok hr2.symm
              replace h8 : l.getD q1 0 = 93 := by simpa using h8
              have hfd : (Sx.mk false true b1 b2 []).form = 91 :: (textL b1 ++ [93]) ++ textL b2 := by rw [form_def, if_neg (by simp), if_pos rfl]
              refine ⟨?_, ?_, g3, by rw [clean_def]; simp [headOk, Sx.cleanL], by simp [Sx.nodes, Sx.nodesL], by omega, by simp [Sx.deep]; exact hlv⟩
              · simp only [hfd, List.cons_append, List.append_assoc, List.nil_append]
                rw [drop_eq h1, h5, k1, drop_eq (by omega), h8, g1]
              · simp only [hfd, List.length_append, List.length_cons, List.length_nil]; omega
    · rename_i h5
      rw [if_neg h5]
      obtain ⟨⟨b1, q1, e1⟩, hr1⟩ : ∃ x, x = rBytes l p := ⟨_, rfl⟩
      simp only [← hr1] at h ⊢
      split at h
      · rename_i h6; exact absurd h h6
      · rename_i h6
        rw [if_neg h6]
        replace h6 : e1 = 0 := by simpa using h6
        subst h6
        obtain ⟨k1, k2, k3, k4⟩ := rBytes_ok hr1.symm
        have hfd : (Sx.mk false false [] b1 []).form = textL b1 := by rw [form_def]; simp
        refine ⟨by simp only [hfd]; exact k1, by simp only [hfd]; exact k2, k3, by rw [clean_def]; simp [headOk, Sx.cleanL], by simp [Sx.nodes, Sx.nodesL], by omega, by simp [Sx.deep]; exact hlv⟩
  | @list p lv n r h1 h2 h3 h4 _ ih =>
    intro h hlv hn
    obtain ⟨ks, e1, e2, e3, e4, e5, e6, e7, e8⟩ := ih h h4 h3
    rw [List.nil_append] at e1
    have hfd : r.v.form = 40 :: (Sx.formL ks ++ [41]) := by rw [e1, form_def, if_pos rfl]
    refine ⟨by rw [hfd, drop_eq h1, h2, e2]; simp, by rw [hfd]; simp only [List.length_cons, List.length_append, List.length_nil]; omega, e4, by rw [e1, clean_def, e5]; simp [headOk], by rw [e1]; simp only [Sx.nodes]; omega, e7, by rw [e1]; simp only [Sx.deep, if_true]; omega⟩
  | @close p lv n acc h1 h2 =>
    intro _ hlv hn
    exact ⟨[], by simp, by rw [drop_eq h1, h2]; rfl, by simp [Sx.formL], h1, rfl, by simp [Sx.nodesL], hn, by simpa [Sx.deepL] using hlv⟩
  | fail _ _ h3 => intro h; exact absurd h h3
  | @more p lv n acc r r' h1 _ h3 _ ih1 ih2 =>
    intro h hlv hn
    obtain ⟨a1, a2, a3, a4, a5, a6, a7⟩ := ih1 h3 (by omega) hn
    obtain ⟨ks, e1, e2, e3, e4, e5, e6, e7, e8⟩ := ih2 h hlv a6
    refine ⟨r.v :: ks, by rw [e1]; simp, by simp only [Sx.formL, List.append_assoc]; rw [← e2]; exact a1, by simp only [Sx.formL, List.length_append]; omega, e4, by rw [cleanL_cons, a4, e5]; rfl, by simp only [Sx.nodesL]; omega, e7, by simp only [Sx.deepL]; omega⟩

theorem take_cons_pos {c : UInt8} {x : List UInt8} {k : Nat} (h : 0 < k) : (c :: x).take k = c :: x.take (k - 1) := by
  cases k with
  | zero => omega
  | succ k => rfl

/-- a form that is cut off is short -/
theorem St_cut {l : List UInt8} (s : Sx) : ∀ (p lv n k : Nat), s.clean = true → l.drop p = s.form.take k → k < s.form.length → n + s.nodes ≤ 512 → s.deep + lv ≤ 17 → s.form.length ≤ 4096 → p ≤ l.length → St l none p lv n (RV.err l.length 2) := by
  induction s using Sx.ind with
  | h tl th hi da ks ih =>
    intro p lv n k hc h hk hn hd hf hp
    have hkl : l.length = p + k := by
      have := congrArg List.length h
      simp at this
      omega
    by_cases hk0 : k = 0
    · exact .short (by omega)
    replace hk0 : 0 < k := by omega
    obtain ⟨p1, p2, p3⟩ := clean_parts hc
    have hhead : p < l.length ∧ starts (l.getD p 0) ∧ (l.getD p 0 = 40 ↔ tl = true) := by
      obtain ⟨c, t, e, hcc⟩ := form_head (.mk tl th hi da ks) []
      rw [List.append_nil] at e
      rw [e, take_cons_pos hk0] at h
      obtain ⟨h1, h2, _⟩ := drop_cons h
      rw [h2]
      refine ⟨h1, ?_⟩
      have d1 : ¬ isD 40 := not_isD (by decide)
      rcases hcc with ⟨a, rfl⟩ | ⟨a, b, rfl⟩ | ⟨a, b, hdd⟩
      · exact ⟨.inl rfl, ⟨fun _ => a, fun _ => rfl⟩⟩
      · exact ⟨.inr (.inl rfl), ⟨fun h => absurd h (by decide), fun h => by simp only [Sx.l] at a; rw [a] at h; cases h⟩⟩
      · exact ⟨.inr (.inr hdd), ⟨fun h => absurd (h ▸ hdd) d1, fun h => by simp only [Sx.l] at a; rw [a] at h; cases h⟩⟩
    obtain ⟨h1, h2, h3⟩ := hhead
    cases tl with
    | false =>
      obtain ⟨rfl, p4⟩ := p2 rfl
      have e : (Sx.mk false th hi da []).nodes = 1 := by simp [Sx.nodes, Sx.nodesL]
      rw [e] at hn
      have hA : rAtom l p (n + 1) = RV.err l.length 2 := by
        have b1 := textL_bound (x := hi)
        have b2 := textL_bound (x := da)
        rw [form_def] at h hf hk
        cases th with
        | true =>
          simp only [Bool.false_eq_true, if_false, if_true, List.length_cons, List.length_append, List.length_nil] at h hf hk
          simp only [List.cons_append, List.append_assoc] at h
          rw [take_cons_pos hk0] at h
          obtain ⟨_, h5, h6⟩ := drop_cons h
          unfold rAtom
          rw [if_pos h5]
          by_cases hk1 : k - 1 < (textL hi).length
          · have r1 := rBytes_cut h6 hk1 (by omega) (by omega)
            simp only [r1]
            rw [if_pos (by simp)]
          · rw [List.take_append, List.take_of_length_le (by omega)] at h6
            have r1 := rBytes_at h6 (by omega)
            simp only [r1]
            rw [if_neg (by simp)]
            by_cases hk2 : k - 1 = (textL hi).length
            · rw [if_pos (by omega)]
            · rw [if_neg (by omega)]
              have h7 := drop_app h6
              simp only [List.nil_append] at h7
              rw [show k - 1 - (textL hi).length = (k - 2 - (textL hi).length) + 1 by omega] at h7
              simp only [List.take_succ_cons] at h7
              obtain ⟨h8, h9, h10⟩ := drop_cons h7
              rw [if_neg (by rw [h9]; simp)]
              have r2 := rBytes_cut (r := []) (by rw [List.append_nil]; exact h10) (by omega) (by omega) (by omega)
              simp only [r2]
              rw [if_pos (by simp)]
        | false =>
          obtain rfl := p4 rfl
          simp only [Bool.false_eq_true, if_false, List.nil_append] at h hf hk
          have r1 := rBytes_cut (r := []) (by rw [List.append_nil]; exact h) hk (by omega) hp
          have hne : l.getD p 0 ≠ 91 := by
            obtain ⟨c, t, e, hdd⟩ := textL_head da []
            rw [List.append_nil] at e
            rw [e, take_cons_pos hk0] at h
            rw [(drop_cons h).2.1]
            intro e2
            subst e2
            exact absurd hdd (not_isD (by decide))
          unfold rAtom
          rw [if_neg hne]
          simp only [r1]
          rw [if_pos (by simp)]
      rw [← hA]
      exact .atom h1 h2 (fun h => by have := h3.1 h; cases this) (by omega)
    | true =>
      obtain ⟨rfl, rfl, rfl⟩ := p1 rfl
      have h4 := h3.2 rfl
      rw [form_def, if_pos rfl] at h hf hk
      simp only [List.length_cons, List.length_append, List.length_nil] at hf hk
      simp only [Sx.nodes, Sx.deep, if_true] at hn hd
      rw [take_cons_pos hk0] at h
      obtain ⟨_, _, h5⟩ := drop_cons h
      have key : ∀ (ks' acc : List Sx) (q m k' : Nat), (∀ x ∈ ks', x ∈ ks) → l.drop q = (Sx.formL ks' ++ [41]).take k' → k' < (Sx.formL ks').length + 1 → m + Sx.nodesL ks' ≤ 512 → (Sx.formL ks').length ≤ 4096 → q ≤ l.length →
          St l (some acc) q lv m (RV.err l.length 2) := by
        intro ks'
        induction ks' with
        | nil =>
          intro acc q m k' _ hq hk' _ _ hql
          have : k' = 0 := by simp only [Sx.formL, List.length_nil] at hk'; omega
          subst this
          have hlen := congrArg List.length hq
          simp at hlen
          exact .fail (fun h => by omega) (.short (by omega)) (by simp [RV.err])
        | cons a t iht =>
          intro acc q m k' hin hq hk' hm hfl hql
          simp only [Sx.formL, List.append_assoc] at hq
          simp only [Sx.nodesL, Sx.formL, List.length_append] at hm hfl hk'
          have ha := hin a List.mem_cons_self
          have hdeep := Sx.deepL_mem ha
          by_cases hka : k' < a.form.length
          · rw [List.take_append_of_le_length (by omega)] at hq
            have s1 := ih a ha q (lv + 1) m k' (p3 a ha) hq hka (by omega) (by omega) (by omega) hql
            refine .fail (fun h => ?_) s1 (by simp [RV.err])
            obtain ⟨c, x, e, hcc⟩ := form_head a []
            rw [List.append_nil] at e
            rcases Nat.eq_zero_or_pos k' with e0 | e0
            · subst e0
              have hlen := congrArg List.length hq
              simp at hlen
              omega
            · rw [e, take_cons_pos e0] at hq
              have h9 := (drop_cons hq).2.1
              rw [h9] at h
              rcases hcc with ⟨_, rfl⟩ | ⟨_, _, rfl⟩ | ⟨_, _, hdd⟩
              · exact absurd h.2 (by decide)
              · exact absurd h.2 (by decide)
              · exact absurd (h.2 ▸ hdd) (not_isD (by decide))
          · rw [List.take_append, List.take_of_length_le (by omega)] at hq
            have s1 := St_form a q (lv + 1) m _ (p3 a ha) hq (by omega) (by omega) (by omega)
            have hno := (starts_head hq).2.2.2
            have h9 := drop_app hq
            have hql2 : q + a.form.length ≤ l.length := by
              have := congrArg List.length hq
              simp at this
              omega
            have s2 := iht (acc ++ [a]) (q + a.form.length) (m + a.nodes) (k' - a.form.length) (fun x hx => hin x (List.mem_cons_of_mem _ hx)) h9 (by omega) (by omega) (by omega) hql2
            exact .more (fun h => hno h.2) s1 rfl s2
      exact .list h1 h4 (by omega) (by omega) (key ks [] (p + 1) (n + 1) (k - 1) (fun x hx => hx) h5 (by omega) (by omega) (by omega) (by omega))
end Go.Proofs.YthmigigclmogiaaDoor
namespace Go.Proofs.YthmigigclmogiaaDoor
open Go.RowKit
set_option linter.unusedSimpArgs false
set_option linter.unusedVariables false

def BytesP (ok : Nat → Prop) (r : List UInt8 × Nat × Nat) (w : World) (e : Ending) (w' : World) : Prop :=
  ∃ a n c, e = .returned (.tuple #[.slice a n c, .int .i64 r.2.1, .int .i64 r.2.2]) ∧ Sl w' a n c r.1 ∧ InB ok a n ∧ Below w.heap.size w w'

theorem slCut {w : World} {b o n c : Nat} {l : List UInt8} (h : Sl w (some ⟨b, o, none⟩) n c l) (lo m : Nat) (hm : lo + m ≤ n) :
    (c ≠ lo → Sl w (some ⟨b, o + lo, none⟩) m (c - lo) ((l.drop lo).take m)) ∧ (c = lo → Sl w (some ⟨b, o, none⟩) m 0 ((l.drop lo).take m)) := by
  have h1 := (h.take (lo + m) hm).drop lo (by omega)
  rw [Nat.add_sub_cancel_left, show (l.take (lo + m)).drop lo = (l.drop lo).take m by rw [List.drop_take]; congr 1; omega] at h1
  refine ⟨fun e => by rwa [if_neg e] at h1, fun e => ?_⟩
  subst e
  rwa [if_pos rfl, Nat.sub_self] at h1
theorem Sl.keepB {w w2 u : World} {a : Option Addr} {n c : Nat} {l : List UInt8} (h : Sl w2 a n c l) (hi : InB (fun k => k < w.heap.size) a n) (b2 : Below w.heap.size w w2) (bu : Below w.heap.size w u) : Sl u a n c l :=
  h.keep (hi.imp id fun h b o s e => (bu.block b (h b o s e)).trans (b2.block b (h b o s e)).symm)
theorem bytesP_yes {ok : Nat → Prop} {R : List UInt8 × Nat × Nat} {L : List UInt8} {q : Nat} {z : Int} (h : R = (L, q, 0)) (hz : z = (q : Int)) {w w' : World} {a : Option Addr} {n c : Nat} (hs : Sl w' a n c L) (hi : InB ok a n) (hb : Below w.heap.size w w') : BytesP ok R w (.returned (.tuple #[.slice a n c, .int .i64 z, .int .i64 0])) w' := by
  subst h hz
  exact ⟨_, _, _, rfl, hs, hi, hb⟩
theorem bytesP_no {ok : Nat → Prop} {R : List UInt8 × Nat × Nat} {q e : Nat} (h : R = ([], q, e)) {w w' : World} (g : Nat) (hb : Below w.heap.size w w') : BytesP ok R w (.returned (.tuple #[.slice (some ⟨g, 0, none⟩) 0 0, .int .i64 q, .int .i64 e])) w' := by
  subst h
  exact ⟨_, _, _, rfl, ⟨rfl, Nat.le_refl _, Nat.zero_le _, (fun h => by cases h), .inl rfl⟩, .inl rfl, hb⟩

end Go.Proofs.YthmigigclmogiaaDoor
namespace Go.Proofs.YthmigigclmogiaaDoor
open Go.RowKit
set_option linter.unusedSimpArgs false
set_option linter.unusedVariables false

def CloneP (l : List UInt8) (w : World) (e : Ending) (w' : World) : Prop := ∃ v', e = .returned v' ∧ OwnB w' w.heap.size v' l ∧ Below w.heap.size w w'

set_option maxHeartbeats 2000000 in
set_option maxRecDepth 100000 in
theorem bclone_any (a : Option Addr) (n c : Nat) (l : List UInt8) (w : World) (hs : Sl w a n c l) (hn : n ≤ 1000000) : Calls Tryd.prog 23 #[.slice a n c] w (CloneP l w) := by
  cases a with
  | none =>
    have hc := hs.2.2.2.1 rfl
    have hle := hs.2.1
    have hl := hs.1
    have e : l = [] := List.eq_nil_of_length_eq_zero (by omega)
    obtain rfl : n = 0 := by omega
    subst hc e
    clear hle hl hs
    have hnn : ∀ W, (binOp .eql 22 (.slice none 0 0) (.slice none 0 0)).run Tryd.prog W = .ok (.bool true) W := fun _ => rfl
    go_enter Tryd.func23, Tryd.ntmps23
    go_wp2_with fail
    go_ret
    exact ⟨_, rfl, OwnB.nil _ _, Below.refl _ _⟩
  | some ad =>
    have hnn : ∀ W, (binOp .eql 22 (.slice (some ad) n c) (.slice none 0 0)).run Tryd.prog W = .ok (.bool false) W := fun _ => rfl
    have hb0 : Below w.heap.size w (w.alloc (.cells #[] 5)) := (Below.refl _ _).alloc (Nat.le_refl _) _
    have ho0 : OwnB (w.alloc (.cells #[] 5)) w.heap.size (.slice (some ⟨w.heap.size, 0, none⟩) 0 0) [] := OwnG.new w w.heap.size 1 (Nat.le_refl _) #[] 5 0 0 (Nat.le_refl _) (Nat.zero_le _) rfl
    have HO := Lib.hid ho0
    have HS := Lib.hid (hs.after hb0)
    have HL := Lib.hid hs.1
    clear ho0 hs
    go_enter Tryd.func23, Tryd.ntmps23
    go_wp2_with (refine wpList_append_B rfl _ _ rfl rfl HO.out rfl HS.out (by have := HL.out; simp only [List.length_nil]; omega) (by simp) ?_; intro v2 w2 ho2 hg2)
    rw [List.nil_append] at ho2
    have hB := hb0.grown hg2 (by simp) (fun k hk => by cases hk; exact Nat.le_refl _)
    clear hg2
    go_ret
    exact ⟨v2, rfl, ho2, hB⟩

end Go.Proofs.YthmigigclmogiaaDoor
namespace Go.Proofs.YthmigigclmogiaaDoor
open Go.RowKit
set_option linter.unusedSimpArgs false
set_option linter.unusedVariables false

/-- one value, three values in a row -/
def oneK (u : SV) : Nat → SV := fun _ => u
def threeK (u v z : SV) : Nat → SV
  | 0 => u
  | 1 => v
  | _ => z

/-- a value through blocks that are ok -/
def ValI (ok : Nat → Prop) (s : Sx) (w : World) (e : Ending) (w' : World) : Prop := ∃ v, e = .returned v.val ∧ RdI ok w' v s ∧ Below w.heap.size w w'
theorem rd_atomI {ok : Nat → Prop} {w : World} {a : Option Addr} {n c : Nat} {l : List UInt8} (h : Sl w a n c l) (hi : InB ok a n) : RdI ok w ⟨false, false, none, 0, 0, a, n, c, none, 0, 0⟩ (.mk false false [] l []) :=
  .mk _ [] l [] (fun _ => SV.nil) (Sl.nil w) (.inl rfl) h hi ⟨Nat.le_refl _, Nat.zero_le _, fun _ => rfl, .inl rfl⟩ (.inl rfl) rfl (fun i hi => by cases hi)
theorem OwnB.parts {w : World} {B : Nat} {v : Value} {l : List UInt8} (h : OwnB w B v l) : ∃ a n c, v = .slice a n c ∧ Sl w a n c l ∧ InB (fun k => B ≤ k) a n := by
  obtain ⟨a, c, rfl, hs⟩ := h.sl
  refine ⟨a, _, c, rfl, hs, ?_⟩
  cases a with
  | none => exact .inr fun b o s e => by cases e
  | some ad =>
    refine .inr fun b o s e => ?_
    cases e
    rcases h.2 with ⟨h1, _⟩ | ⟨g, o', cap, h1, h2, _⟩
    · cases h1
    · cases h1
      exact h2

set_option maxHeartbeats 2000000 in
set_option maxRecDepth 100000 in
theorem atomI_any (ok : Nat → Prop) (s : ByteArray) (hs : s.size ≤ 140737488355328) (w : World) (hok : ∀ b, w.heap.size ≤ b → ok b) : Calls Tryd.prog 28 #[.string s] w (ValI ok (.mk false false [] s.data.toList []) w) := by
  have hb0 : Below w.heap.size w (w.alloc (.cells SV.nil.cells 33)) := (Below.refl _ _).alloc (Nat.le_refl _) _
  have X0 := Box.new w 33 SV.nil.cells
  go_enter Tryd.func28, Tryd.ntmps28
  go_upto_region 1 with fail
  change Code.wp _ _ _ _ (w.alloc (.cells SV.nil.cells 33))
  generalize w.alloc (.cells SV.nil.cells 33) = v0 at *
  obtain ⟨v, v1, hr, ho, hb1⟩ := conv_own v0 s hs
  obtain ⟨a, c, rfl, hsl⟩ := ho.sl
  have hown : ∀ b o s, a = some ⟨b, o, s⟩ → v0.heap.size ≤ b := fun b o s e => by subst e; exact (ho.own b rfl).1
  have X1 := Lib.hid (X0.after hb1)
  have HS := Lib.hid hsl
  have hB1 := hb0.trans (hb1.mono hb0.size)
  have hz := X0.lt
  have hsz := hb0.size
  obtain ⟨n, hn⟩ : ∃ n, n = s.data.toList.length := ⟨_, rfl⟩
  rw [← hn] at hr HS
  have HOW := Lib.hid hown
  clear X0 ho hsl hb1 hb0 hn hown
  go_wp2_with (refine wpList_store_box (cells := (SV.mk false false none 0 0 a n c none 0 0).cells) rfl 33 _ _ rfl X1.out (by rfl) (by rfl) rfl (by kernel_rfl) (SV.one _) ?_; intro v2 X2 st2)
  have hB2 := st2.below w.heap.size w (Nat.le_refl _) hB1
  have hsl2 := HS.out.keep (w' := v2) (.inr fun b o s e => st2.other b (by have := HOW.out b o s e; omega))
  exact bodyPost_ret (v := (SV.mk false false none 0 0 a n c none 0 0).val) (box_result rfl _ _ (by rfl) X2 Tryd.underlying33 rfl (by kernel_rfl)) rfl ⟨_, rfl, rd_atomI hsl2 (.inr fun b o s e => hok b (by have := HOW.out b o s e; have := hsz; omega)), hB2⟩

set_option maxHeartbeats 2000000 in
set_option maxRecDepth 100000 in
theorem listI_any (ok : Nat → Prop) (a : Option Addr) (n c : Nat) (K : Nat → SV) (ks : List Sx) (w : World) (hr : RowAt w a n c K) (hn : n ≤ 1000) (hnk : n = ks.length) (hk : ∀ i (hi : i < ks.length), RdI ok w (K i) ks[i]) (hok : ∀ b, w.heap.size ≤ b → ok b) : Calls Tryd.prog 30 #[.slice a n c] w (ValI ok (.mk true false [] [] ks) w) := by
  have hb0 : Below w.heap.size w (w.alloc (.cells SV.nil.cells 33)) := (Below.refl _ _).alloc (Nat.le_refl _) _
  have X0 := Box.new w 33 SV.nil.cells
  have HR := Lib.hid hr
  have HK := Lib.hid hk
  have HN := Lib.hid hnk
  clear hr hk hnk
  go_enter Tryd.func30, Tryd.ntmps30
  go_upto_region 1 with fail
  change Code.wp _ _ _ _ (w.alloc (.cells SV.nil.cells 33))
  generalize w.alloc (.cells SV.nil.cells 33) = v0 at *
  go_wp2_with fail
  refine (cloneK_any a n c K v0 (HR.out.after hb0) hn).mono ?_
  rintro e v1 ⟨a', c', rfl, hrow, hin, hb1⟩
  have X1 := Lib.hid (X0.after hb1)
  have HS := Lib.hid hrow
  have HI := Lib.hid hin
  have hB1 := hb0.trans (hb1.mono hb0.size)
  have hz := X0.lt
  have hsz := hb0.size
  clear X0 hrow hin hb1 hb0
  go_wp2_with (refine wpList_store_box (cells := (SV.mk true false none 0 0 none 0 0 a' n c').cells) rfl 33 _ _ rfl X1.out (by rfl) (by rfl) rfl (by kernel_rfl) (SV.one _) ?_; intro v2 X2 st2)
  have hB2 := st2.below w.heap.size w (Nat.le_refl _) hB1
  have hrow2 := HS.out.keep (w' := v2) (HI.out.imp id fun h b o s e => st2.other b (by have := h b o s e; omega))
  exact bodyPost_ret (v := (SV.mk true false none 0 0 none 0 0 a' n c').val) (box_result rfl _ _ (by rfl) X2 Tryd.underlying33 rfl (by kernel_rfl)) rfl ⟨_, rfl, rd_list hrow2 (HI.out.imp id fun h b o s e => hok b (by have := h b o s e; have := hsz; omega)) HN.out (fun i hi => (HK.out i hi).after hB2), hB2⟩

theorem row_one (w : World) (u : SV) (T : TypeId) : RowAt (w.alloc (.cells #[.bool u.l, .bool u.h, .slice u.a1 u.n1 u.c1, .slice u.a2 u.n2 u.c2, .slice u.a3 u.n3 u.c3] T)) (some ⟨w.heap.size, 0, none⟩) 1 1 (oneK u) := by
  refine ⟨Nat.le_refl _, by unfold maxLen; omega, (fun h => by cases h), .inr ⟨_, 0, rfl, fun i hi j x hx => ?_⟩⟩
  have hb := Box.new w T #[.bool u.l, .bool u.h, .slice u.a1 u.n1 u.c1, .slice u.a2 u.n2 u.c2, .slice u.a3 u.n3 u.c3]
  rw [Nat.zero_add]
  have hj : j < 5 := by
    have := (Array.getElem?_eq_some_iff.1 hx).1
    rwa [SV.cells_size] at this
  refine hb.cell (i * 5 + j) ?_
  match i, hi, j, hj with
  | 0, _, 0, _ => exact hx
  | 0, _, 1, _ => exact hx
  | 0, _, 2, _ => exact hx
  | 0, _, 3, _ => exact hx
  | 0, _, 4, _ => exact hx
theorem row_three (w : World) (u v z : SV) (T : TypeId) : RowAt (w.alloc (.cells #[.bool u.l, .bool u.h, .slice u.a1 u.n1 u.c1, .slice u.a2 u.n2 u.c2, .slice u.a3 u.n3 u.c3, .bool v.l, .bool v.h, .slice v.a1 v.n1 v.c1, .slice v.a2 v.n2 v.c2, .slice v.a3 v.n3 v.c3, .bool z.l, .bool z.h, .slice z.a1 z.n1 z.c1, .slice z.a2 z.n2 z.c2, .slice z.a3 z.n3 z.c3] T)) (some ⟨w.heap.size, 0, none⟩) 3 3 (threeK u v z) := by
  refine ⟨Nat.le_refl _, by unfold maxLen; omega, (fun h => by cases h), .inr ⟨_, 0, rfl, fun i hi j x hx => ?_⟩⟩
  have hb := Box.new w T #[.bool u.l, .bool u.h, .slice u.a1 u.n1 u.c1, .slice u.a2 u.n2 u.c2, .slice u.a3 u.n3 u.c3, .bool v.l, .bool v.h, .slice v.a1 v.n1 v.c1, .slice v.a2 v.n2 v.c2, .slice v.a3 v.n3 v.c3, .bool z.l, .bool z.h, .slice z.a1 z.n1 z.c1, .slice z.a2 z.n2 z.c2, .slice z.a3 z.n3 z.c3]
  rw [Nat.zero_add]
  have hj : j < 5 := by
    have := (Array.getElem?_eq_some_iff.1 hx).1
    rwa [SV.cells_size] at this
  refine hb.cell (i * 5 + j) ?_
  match i, hi, j, hj with
  | 0, _, 0, _ => exact hx
  | 0, _, 1, _ => exact hx
  | 0, _, 2, _ => exact hx
  | 0, _, 3, _ => exact hx
  | 0, _, 4, _ => exact hx
  | 1, _, 0, _ => exact hx
  | 1, _, 1, _ => exact hx
  | 1, _, 2, _ => exact hx
  | 1, _, 3, _ => exact hx
  | 1, _, 4, _ => exact hx
  | 2, _, 0, _ => exact hx
  | 2, _, 1, _ => exact hx
  | 2, _, 2, _ => exact hx
  | 2, _, 3, _ => exact hx
  | 2, _, 4, _ => exact hx

/-- may a principal be? its tree -/
def keyMay (s : Bool) (n : Nat) : Bool := if s then n == 64 else n == 32
def keyS (s : Bool) (l : List UInt8) : Sx :=
  if s then .mk true false [] [] [(.mk false false [] [104, 97, 115, 104] []), (.mk false false [] [115, 104, 97, 53, 49, 50] []), .mk false false [] l []] else .mk true false [] [] [(.mk false false [] [112, 117, 98, 108, 105, 99, 45, 107, 101, 121] []), .mk true false [] [] [(.mk false false [] [101, 100, 50, 53, 53, 49, 57] []), .mk false false [] l []]]
def KeyP (s : Bool) (l : List UInt8) (w : World) (e : Ending) (w' : World) : Prop :=
  (keyMay s l.length = true ∧ ∃ v : SV, e = .returned (.tuple #[.agg #[.bool v.l, .bool v.h, .slice v.a1 v.n1 v.c1, .slice v.a2 v.n2 v.c2, .slice v.a3 v.n3 v.c3], .int .i64 0]) ∧ RdI (fun b => w.heap.size ≤ b) w' v (keyS s l) ∧ Below w.heap.size w w') ∨
  (keyMay s l.length = false ∧ e = .returned (.tuple #[.agg #[.bool false, .bool false, .slice none 0 0, .slice none 0 0, .slice none 0 0], .int .i64 7]) ∧ Below w.heap.size w w')

set_option maxHeartbeats 2000000 in
set_option maxRecDepth 100000 in
theorem keyMay_any (s : Bool) (a : Option Addr) (n c : Nat) (w : World) (hn : n ≤ 1000000) : Calls Tryd.prog 43 #[.agg #[.bool s, .slice a n c]] w fun e w' => e = .returned (.bool (keyMay s n)) ∧ Below w.heap.size w w' := by
  have B0 : Below w.heap.size w (w.alloc (.cells #[.bool s, .slice a n c] 24)) := (Below.refl _ _).alloc (Nat.le_refl _) _
  have X0 := Box.new w 24 #[.bool s, .slice a n c]
  have x0 : (w.alloc (.cells #[.bool s, .slice a n c] 24)).cell? ⟨w.heap.size, 0, none⟩ = some (.bool s) := X0.cell 0 rfl
  have x1 : (w.alloc (.cells #[.bool s, .slice a n c] 24)).cell? ⟨w.heap.size, 1, none⟩ = some (.slice a n c) := X0.cell 1 rfl
  clear X0
  cases s with
  | false =>
    obtain ⟨r, hr⟩ : ∃ r, r = keyMay false n := ⟨_, rfl⟩
    have hq : ((n : Int) == 32) = r := by rw [hr]; show ((n : Int) == 32) = (n == 32); rw [Bool.eq_iff_iff]; simp only [beq_iff_eq]; omega
    rw [← hr]
    clear hr
    go_enter Tryd.func43, Tryd.ntmps43
    go_wp2_with fail
    go_ret
    exact ⟨rfl, B0⟩
  | true =>
    obtain ⟨r, hr⟩ : ∃ r, r = keyMay true n := ⟨_, rfl⟩
    have hq : ((n : Int) == 64) = r := by rw [hr]; show ((n : Int) == 64) = (n == 64); rw [Bool.eq_iff_iff]; simp only [beq_iff_eq]; omega
    rw [← hr]
    clear hr
    go_enter Tryd.func43, Tryd.ntmps43
    go_wp2_with fail
    go_ret
    exact ⟨rfl, B0⟩

set_option maxHeartbeats 8000000 in
set_option maxRecDepth 100000 in
theorem keyPut_any (s : Bool) (a : Option Addr) (n c : Nat) (l : List UInt8) (w : World) (hs : Sl w a n c l) (hn : n ≤ 100000) : Calls Tryd.prog 31 #[.agg #[.bool s, .slice a n c]] w (KeyP s l w) := by
  have HS := Lib.hid hs
  have HLN := Lib.hid hs.1
  have B0 : Below w.heap.size w ((w.alloc (.cells #[.bool s, .slice a n c] 24)).alloc (.cells #[.bool false, .bool false, .slice none 0 0, .slice none 0 0, .slice none 0 0] 33)) := ((Below.refl _ _).alloc (Nat.le_refl _) _).alloc (by simp) _
  have K0 : Box ((w.alloc (.cells #[.bool s, .slice a n c] 24)).alloc (.cells #[.bool false, .bool false, .slice none 0 0, .slice none 0 0, .slice none 0 0] 33)) w.heap.size 24 #[.bool s, .slice a n c] := (Box.new _ _ _).alloc _
  have X0 : Box ((w.alloc (.cells #[.bool s, .slice a n c] 24)).alloc (.cells #[.bool false, .bool false, .slice none 0 0, .slice none 0 0, .slice none 0 0] 33)) (w.heap.size + 1) 33 #[.bool false, .bool false, .slice none 0 0, .slice none 0 0, .slice none 0 0] := by
    have := Box.new (w.alloc (.cells #[.bool s, .slice a n c] 24)) 33 #[.bool false, .bool false, .slice none 0 0, .slice none 0 0, .slice none 0 0]
    simpa using this
  obtain ⟨r, hr⟩ : ∃ r, r = keyMay s n := ⟨_, rfl⟩
  have HRR := Lib.hid hr
  have CM := Lib.hid (fun w' => keyMay_any s a n c w' (by omega))
  rw [← hr] at CM
  have x1 : (((w.alloc (.cells #[.bool s, .slice a n c] 24)).alloc (.cells #[.bool false, .bool false, .slice none 0 0, .slice none 0 0, .slice none 0 0] 33))).cell? ⟨w.heap.size, 1, none⟩ = some (.slice a n c) := K0.cell 1 rfl
  clear hs hr
  go_enter Tryd.func31, Tryd.ntmps31
  go_upto_region 1 with fail
  change Code.wp _ _ _ _ ((w.alloc (.cells #[.bool s, .slice a n c] 24)).alloc (.cells #[.bool false, .bool false, .slice none 0 0, .slice none 0 0, .slice none 0 0] 33))
  replace K0 := Lib.hid K0
  replace X0 := Lib.hid X0
  generalize ((w.alloc (.cells #[.bool s, .slice a n c] 24)).alloc (.cells #[.bool false, .bool false, .slice none 0 0, .slice none 0 0, .slice none 0 0] 33)) = u0 at *
  go_wp2_with fail
  refine (bclone_any a n c l u0 (HS.out.after B0) (by omega)).mono ?_
  rintro e w1 ⟨v1, rfl, ho1, hb1⟩
  obtain ⟨p, m, q, rfl, hsl, hib⟩ := (OwnB.parts ho1)
  have K1 := Lib.hid (K0.out.after hb1)
  have X1 := Lib.hid (X0.out.after hb1)
  have B1 := B0.trans (hb1.mono B0.size)
  have HSL := Lib.hid hsl
  have HIB : Hid (InB (fun b => w.heap.size ≤ b ∧ b ≠ w.heap.size + 1) p m) := Lib.hid (hib.imp id fun h b o s e => by have := h b o s e; have := X0.out.lt; show w.heap.size ≤ b ∧ b ≠ w.heap.size + 1; omega)
  have hm : m = n := by have := hsl.1; have := HLN.out; omega
  subst hm
  clear ho1 hb1 hsl hib x1 K0 X0 B0
  go_upto_region 2 with (refine wpList_store_box (cells := #[.bool false, .bool false, .slice none 0 0, .slice p m q, .slice none 0 0]) rfl 33 _ _ rfl (Box.new _ _ _) (by rfl) (by rfl) rfl (by kernel_rfl) (by simp [Value.oneCell']) ?_; intro u9 X9 st9)
  have b19 : Below w1.heap.size w1 u9 := st9.below w1.heap.size w1 (Nat.le_refl _) ((Below.refl _ _).alloc (Nat.le_refl _) _)
  have B2 := B1.trans (b19.mono B1.size)
  have HY2 := Lib.hid X9
  have K2 := Lib.hid (K1.out.after b19)
  have X2 := Lib.hid (X1.out.after b19)
  have HRD2 : Hid (RdI (fun b => w.heap.size ≤ b ∧ b ≠ w.heap.size + 1) u9 ⟨false, false, none, 0, 0, p, m, q, none, 0, 0⟩ (.mk false false [] l [])) := Lib.hid (rd_atomI (HSL.out.after b19) HIB.out)
  clear st9 X9 K1 X1 B1 HSL HIB b19
  generalize w1.heap.size = y at *
  go_wp2_with (refine wpList_load_box rfl 24 _ rfl K2.out (by rfl) Tryd.underlying24 rfl (by kernel_rfl) ?_)
  refine (CM.out _).mono ?_
  rintro e w3 ⟨rfl, hb3⟩
  have B3 := B2.trans (hb3.mono B2.size)
  have HY := Lib.hid (HY2.out.after hb3)
  have K3 := Lib.hid (K2.out.after hb3)
  have HX := Lib.hid (X2.out.after hb3)
  have HRD := Lib.hid (HRD2.out.after hb3)
  clear hb3 B2 HY2 K2 X2 HRD2
  cases r with
  | false =>
    go_wp2_with (refine wpList_store_box (cells := #[.bool false, .bool false, .slice none 0 0, .slice none 0 0, .slice none 0 0]) rfl 33 _ _ rfl HX.out (by rfl) (by rfl) rfl (by kernel_rfl) (by simp [Value.oneCell']) ?_; intro u9 X9 st9)
    have B9 := st9.below w.heap.size w (by omega) B3
    exact bodyPost_ret (v := .tuple #[.agg #[.bool false, .bool false, .slice none 0 0, .slice none 0 0, .slice none 0 0], .int .i64 7]) (box_result2 (p := 2) (q := 3) rfl _ _ (by rfl) X9 Tryd.underlying33 rfl (by kernel_rfl)) rfl (.inr ⟨by rw [← HLN.out]; exact HRR.out.symm, rfl, B9⟩)
  | true =>
    have k0 : w3.cell? ⟨w.heap.size, 0, none⟩ = some (.bool s) := K3.out.cell 0 rfl
    cases s with
    | true =>
      go_upto_region 5 with fail
      have hKS : Keeps (fun w' => Box w' y 33 #[.bool false, .bool false, .slice none 0 0, .slice p m q, .slice none 0 0] ∧ RdI (fun b => w.heap.size ≤ b ∧ b ≠ w.heap.size + 1) w' ⟨false, false, none, 0, 0, p, m, q, none, 0, 0⟩ (.mk false false [] l []) ∧ Box w' (w.heap.size + 1) 33 #[.bool false, .bool false, .slice none 0 0, .slice none 0 0, .slice none 0 0] ∧ Below w.heap.size w w') := fun w1 w2 h b => ⟨h.1.after b, h.2.1.after b, h.2.2.1.after b, h.2.2.2.trans (b.mono h.2.2.2.size)⟩
      refine wp_region_W (w := w3) [5] (fun w' => Box w' y 33 #[.bool false, .bool false, .slice none 0 0, .slice p m q, .slice none 0 0] ∧ RdI (fun b => w.heap.size ≤ b ∧ b ≠ w.heap.size + 1) w' ⟨false, false, none, 0, 0, p, m, q, none, 0, 0⟩ (.mk false false [] l []) ∧ Box w' (w.heap.size + 1) 33 #[.bool false, .bool false, .slice none 0 0, .slice none 0 0, .slice none 0 0] ∧ Below w.heap.size w w') rfl (hKS _ _ ⟨HY.out, HRD.out, HX.out, B3⟩ (Below.refl _ _).drew) ?_
      refine wpW_val 2 hKS rfl (by kernel_rfl) (by kernel_rfl) (by kernel_rfl) (by kernel_rfl) rfl (fun _ _ _ _ h => h) (.agg #[.bool false, .bool false, .slice none 0 0, .slice p m q, .slice none 0 0]) (fun w' h => run_load_box rfl h.1 (by rfl) Tryd.underlying33 rfl (by kernel_rfl)) ?_
      simp only [Act.put, List.setIfInBounds_toArray, List.set_cons_zero, List.set_cons_succ]
      refine wpW_one 0 rfl (by kernel_rfl) rfl rfl ?_
      intro z10 b10 s10
      refine wp_callR 28 #[.string ⟨#[104, 97, 115, 104]⟩] (by simp [go_sem]) _ (atomI_any (fun b => w.heap.size ≤ b ∧ b ≠ w.heap.size + 1) ⟨#[104, 97, 115, 104]⟩ (by decide) z10 (fun b hb => by have := s10.2.2.1.lt; omega)) ?_
      rintro e z11 ⟨vA, rfl, rA, b11⟩
      refine ⟨_, rfl, hKS _ _ s10 b11, ?_⟩
      simp only [Act.put, List.setIfInBounds_toArray, List.set_cons_zero, List.set_cons_succ]
      refine wpW_one 1 rfl (by kernel_rfl) rfl rfl ?_
      intro z12 b12 s12
      replace rA := rA.after b12
      refine wp_callR 28 #[.string ⟨#[115, 104, 97, 53, 49, 50]⟩] (by simp [go_sem]) _ (atomI_any (fun b => w.heap.size ≤ b ∧ b ≠ w.heap.size + 1) ⟨#[115, 104, 97, 53, 49, 50]⟩ (by decide) z12 (fun b hb => by have := s12.2.2.1.lt; omega)) ?_
      rintro e z13 ⟨vB, rfl, rB, b13⟩
      replace rA := rA.after b13
      refine ⟨_, rfl, hKS _ _ s12 b13, ?_⟩
      simp only [Act.put, List.setIfInBounds_toArray, List.set_cons_zero, List.set_cons_succ]
      refine wpW_one 3 rfl (by kernel_rfl) rfl rfl ?_
      intro z14 b14 s14
      replace rA := rA.after b14
      replace rB := rB.after b14
      refine wp_of_run (.slice (some ⟨z14.heap.size, 0, none⟩) 3 3) (z14.alloc (.cells #[.bool vA.l, .bool vA.h, .slice vA.a1 vA.n1 vA.c1, .slice vA.a2 vA.n2 vA.c2, .slice vA.a3 vA.n3 vA.c3, .bool vB.l, .bool vB.h, .slice vB.a1 vB.n1 vB.c1, .slice vB.a2 vB.n2 vB.c2, .slice vB.a3 vB.n3 vB.c3, .bool (⟨false, false, none, 0, 0, p, m, q, none, 0, 0⟩ : SV).l, .bool (⟨false, false, none, 0, 0, p, m, q, none, 0, 0⟩ : SV).h, .slice (⟨false, false, none, 0, 0, p, m, q, none, 0, 0⟩ : SV).a1 (⟨false, false, none, 0, 0, p, m, q, none, 0, 0⟩ : SV).n1 (⟨false, false, none, 0, 0, p, m, q, none, 0, 0⟩ : SV).c1, .slice (⟨false, false, none, 0, 0, p, m, q, none, 0, 0⟩ : SV).a2 (⟨false, false, none, 0, 0, p, m, q, none, 0, 0⟩ : SV).n2 (⟨false, false, none, 0, 0, p, m, q, none, 0, 0⟩ : SV).c2, .slice (⟨false, false, none, 0, 0, p, m, q, none, 0, 0⟩ : SV).a3 (⟨false, false, none, 0, 0, p, m, q, none, 0, 0⟩ : SV).n3 (⟨false, false, none, 0, 0, p, m, q, none, 0, 0⟩ : SV).c3] 33)) (by simp [go_sem, SV.val]) ?_
      have a15 : Below z14.heap.size z14 (z14.alloc (.cells #[.bool vA.l, .bool vA.h, .slice vA.a1 vA.n1 vA.c1, .slice vA.a2 vA.n2 vA.c2, .slice vA.a3 vA.n3 vA.c3, .bool vB.l, .bool vB.h, .slice vB.a1 vB.n1 vB.c1, .slice vB.a2 vB.n2 vB.c2, .slice vB.a3 vB.n3 vB.c3, .bool (⟨false, false, none, 0, 0, p, m, q, none, 0, 0⟩ : SV).l, .bool (⟨false, false, none, 0, 0, p, m, q, none, 0, 0⟩ : SV).h, .slice (⟨false, false, none, 0, 0, p, m, q, none, 0, 0⟩ : SV).a1 (⟨false, false, none, 0, 0, p, m, q, none, 0, 0⟩ : SV).n1 (⟨false, false, none, 0, 0, p, m, q, none, 0, 0⟩ : SV).c1, .slice (⟨false, false, none, 0, 0, p, m, q, none, 0, 0⟩ : SV).a2 (⟨false, false, none, 0, 0, p, m, q, none, 0, 0⟩ : SV).n2 (⟨false, false, none, 0, 0, p, m, q, none, 0, 0⟩ : SV).c2, .slice (⟨false, false, none, 0, 0, p, m, q, none, 0, 0⟩ : SV).a3 (⟨false, false, none, 0, 0, p, m, q, none, 0, 0⟩ : SV).n3 (⟨false, false, none, 0, 0, p, m, q, none, 0, 0⟩ : SV).c3] 33)) := (Below.refl _ _).alloc (Nat.le_refl _) _
      have row15 := row_three z14 vA vB (⟨false, false, none, 0, 0, p, m, q, none, 0, 0⟩ : SV) 33
      replace rA := rA.after a15
      replace rB := rB.after a15
      refine ⟨hKS _ _ s14 a15, ?_⟩
      simp only [Act.put, List.setIfInBounds_toArray, List.set_cons_zero, List.set_cons_succ]
      generalize (z14.alloc (.cells #[.bool vA.l, .bool vA.h, .slice vA.a1 vA.n1 vA.c1, .slice vA.a2 vA.n2 vA.c2, .slice vA.a3 vA.n3 vA.c3, .bool vB.l, .bool vB.h, .slice vB.a1 vB.n1 vB.c1, .slice vB.a2 vB.n2 vB.c2, .slice vB.a3 vB.n3 vB.c3, .bool (⟨false, false, none, 0, 0, p, m, q, none, 0, 0⟩ : SV).l, .bool (⟨false, false, none, 0, 0, p, m, q, none, 0, 0⟩ : SV).h, .slice (⟨false, false, none, 0, 0, p, m, q, none, 0, 0⟩ : SV).a1 (⟨false, false, none, 0, 0, p, m, q, none, 0, 0⟩ : SV).n1 (⟨false, false, none, 0, 0, p, m, q, none, 0, 0⟩ : SV).c1, .slice (⟨false, false, none, 0, 0, p, m, q, none, 0, 0⟩ : SV).a2 (⟨false, false, none, 0, 0, p, m, q, none, 0, 0⟩ : SV).n2 (⟨false, false, none, 0, 0, p, m, q, none, 0, 0⟩ : SV).c2, .slice (⟨false, false, none, 0, 0, p, m, q, none, 0, 0⟩ : SV).a3 (⟨false, false, none, 0, 0, p, m, q, none, 0, 0⟩ : SV).n3 (⟨false, false, none, 0, 0, p, m, q, none, 0, 0⟩ : SV).c3] 33)) = y16 at *
      refine wpW_one 4 rfl (by kernel_rfl) rfl rfl ?_
      intro z17 b17 s17
      replace rA := rA.after b17
      replace rB := rB.after b17
      replace row15 := row15.after b17
      refine wp_callR 30 #[.slice (some ⟨_, 0, none⟩) 3 3] (by simp [go_sem]) _ (listI_any (fun b => w.heap.size ≤ b ∧ b ≠ w.heap.size + 1) _ 3 3 _ [(.mk false false [] [104, 97, 115, 104] []), (.mk false false [] [115, 104, 97, 53, 49, 50] []), .mk false false [] l []] z17 row15 (by omega) rfl (fun i hi => match i, hi with | 0, _ => rA | 1, _ => rB | 2, _ => s17.2.1) (fun b hb => by have := s17.2.2.1.lt; omega)) ?_
      rintro e z18 ⟨vL, rfl, rL, b18⟩
      replace rA := rA.after b18
      replace rB := rB.after b18
      refine ⟨_, rfl, hKS _ _ s17 b18, ?_⟩
      simp only [Act.put, List.setIfInBounds_toArray, List.set_cons_zero, List.set_cons_succ]
      refine wpW_write 5 rfl (by kernel_rfl) (by kernel_rfl) rfl ?_
      intro zz bz sz
      replace rL := rL.after bz
      obtain ⟨vl, vh, a1, n1, c1, a2, n2, c2, a3, n3, c3⟩ := vL
      refine wp_store_box 33 _ _ rfl sz.2.2.1 (by rfl) (by rfl) rfl (by kernel_rfl) (by simp [Value.oneCell']) (cells := #[.bool vl, .bool vh, .slice a1 n1 c1, .slice a2 n2 c2, .slice a3 n3 c3]) ?_
      intro zx Xx stx
      have RLx := rL.keep (w' := zx) (fun b hb => stx.other b hb.2)
      have Bx := stx.below w.heap.size w (by omega) sz.2.2.2
      clear rL sz stx
      simp only [Act.put, List.setIfInBounds_toArray, List.set_cons_zero, List.set_cons_succ]
      refine wpU_val 6 keeps_true rfl (by kernel_rfl) (by kernel_rfl) (by kernel_rfl) rfl (fun _ _ _ _ h => h) (.int .i64 0) (fun w' _ => by simp [go_sem]) ?_
      simp only [Act.put, List.setIfInBounds_toArray, List.set_cons_zero, List.set_cons_succ]
      refine wpU_done rfl (fun w9 b9 _ => ?_)
      have B9 := Bx.trans (b9.mono Bx.size)
      have X9 := Xx.after b9
      have R9 := RLx.after b9
      go_wp2_with fail
      exact bodyPost_ret (v := .tuple #[.agg #[.bool vl, .bool vh, .slice a1 n1 c1, .slice a2 n2 c2, .slice a3 n3 c3], .int .i64 0]) (box_result2 (p := 2) (q := 3) rfl _ _ (by rfl) X9 Tryd.underlying33 rfl (by kernel_rfl)) rfl (.inl ⟨by rw [← HLN.out]; exact HRR.out.symm, ⟨vl, vh, a1, n1, c1, a2, n2, c2, a3, n3, c3⟩, rfl, R9.mono (fun _ h => h.1), B9⟩)
    | false =>
      go_upto_region 6 with fail
      have hKS : Keeps (fun w' => Box w' y 33 #[.bool false, .bool false, .slice none 0 0, .slice p m q, .slice none 0 0] ∧ RdI (fun b => w.heap.size ≤ b ∧ b ≠ w.heap.size + 1) w' ⟨false, false, none, 0, 0, p, m, q, none, 0, 0⟩ (.mk false false [] l []) ∧ Box w' (w.heap.size + 1) 33 #[.bool false, .bool false, .slice none 0 0, .slice none 0 0, .slice none 0 0] ∧ Below w.heap.size w w') := fun w1 w2 h b => ⟨h.1.after b, h.2.1.after b, h.2.2.1.after b, h.2.2.2.trans (b.mono h.2.2.2.size)⟩
      refine wp_region_W (w := w3) [7] (fun w' => Box w' y 33 #[.bool false, .bool false, .slice none 0 0, .slice p m q, .slice none 0 0] ∧ RdI (fun b => w.heap.size ≤ b ∧ b ≠ w.heap.size + 1) w' ⟨false, false, none, 0, 0, p, m, q, none, 0, 0⟩ (.mk false false [] l []) ∧ Box w' (w.heap.size + 1) 33 #[.bool false, .bool false, .slice none 0 0, .slice none 0 0, .slice none 0 0] ∧ Below w.heap.size w w') rfl (hKS _ _ ⟨HY.out, HRD.out, HX.out, B3⟩ (Below.refl _ _).drew) ?_
      refine wpW_val 2 hKS rfl (by kernel_rfl) (by kernel_rfl) (by kernel_rfl) (by kernel_rfl) rfl (fun _ _ _ _ h => h) (.agg #[.bool false, .bool false, .slice none 0 0, .slice p m q, .slice none 0 0]) (fun w' h => run_load_box rfl h.1 (by rfl) Tryd.underlying33 rfl (by kernel_rfl)) ?_
      simp only [Act.put, List.setIfInBounds_toArray, List.set_cons_zero, List.set_cons_succ]
      refine wpW_one 0 rfl (by kernel_rfl) rfl rfl ?_
      intro z10 b10 s10
      refine wp_callR 28 #[.string ⟨#[112, 117, 98, 108, 105, 99, 45, 107, 101, 121]⟩] (by simp [go_sem]) _ (atomI_any (fun b => w.heap.size ≤ b ∧ b ≠ w.heap.size + 1) ⟨#[112, 117, 98, 108, 105, 99, 45, 107, 101, 121]⟩ (by decide) z10 (fun b hb => by have := s10.2.2.1.lt; omega)) ?_
      rintro e z11 ⟨vA, rfl, rA, b11⟩
      refine ⟨_, rfl, hKS _ _ s10 b11, ?_⟩
      simp only [Act.put, List.setIfInBounds_toArray, List.set_cons_zero, List.set_cons_succ]
      refine wpW_one 1 rfl (by kernel_rfl) rfl rfl ?_
      intro z12 b12 s12
      replace rA := rA.after b12
      refine wp_callR 28 #[.string ⟨#[101, 100, 50, 53, 53, 49, 57]⟩] (by simp [go_sem]) _ (atomI_any (fun b => w.heap.size ≤ b ∧ b ≠ w.heap.size + 1) ⟨#[101, 100, 50, 53, 53, 49, 57]⟩ (by decide) z12 (fun b hb => by have := s12.2.2.1.lt; omega)) ?_
      rintro e z13 ⟨vB, rfl, rB, b13⟩
      replace rA := rA.after b13
      refine ⟨_, rfl, hKS _ _ s12 b13, ?_⟩
      simp only [Act.put, List.setIfInBounds_toArray, List.set_cons_zero, List.set_cons_succ]
      refine wpW_one 3 rfl (by kernel_rfl) rfl rfl ?_
      intro z14 b14 s14
      replace rA := rA.after b14
      replace rB := rB.after b14
      refine wp_of_run (.slice (some ⟨z14.heap.size, 0, none⟩) 2 2) (z14.alloc (.cells #[.bool vB.l, .bool vB.h, .slice vB.a1 vB.n1 vB.c1, .slice vB.a2 vB.n2 vB.c2, .slice vB.a3 vB.n3 vB.c3, .bool (⟨false, false, none, 0, 0, p, m, q, none, 0, 0⟩ : SV).l, .bool (⟨false, false, none, 0, 0, p, m, q, none, 0, 0⟩ : SV).h, .slice (⟨false, false, none, 0, 0, p, m, q, none, 0, 0⟩ : SV).a1 (⟨false, false, none, 0, 0, p, m, q, none, 0, 0⟩ : SV).n1 (⟨false, false, none, 0, 0, p, m, q, none, 0, 0⟩ : SV).c1, .slice (⟨false, false, none, 0, 0, p, m, q, none, 0, 0⟩ : SV).a2 (⟨false, false, none, 0, 0, p, m, q, none, 0, 0⟩ : SV).n2 (⟨false, false, none, 0, 0, p, m, q, none, 0, 0⟩ : SV).c2, .slice (⟨false, false, none, 0, 0, p, m, q, none, 0, 0⟩ : SV).a3 (⟨false, false, none, 0, 0, p, m, q, none, 0, 0⟩ : SV).n3 (⟨false, false, none, 0, 0, p, m, q, none, 0, 0⟩ : SV).c3] 33)) (by simp [go_sem, SV.val]) ?_
      have a15 : Below z14.heap.size z14 (z14.alloc (.cells #[.bool vB.l, .bool vB.h, .slice vB.a1 vB.n1 vB.c1, .slice vB.a2 vB.n2 vB.c2, .slice vB.a3 vB.n3 vB.c3, .bool (⟨false, false, none, 0, 0, p, m, q, none, 0, 0⟩ : SV).l, .bool (⟨false, false, none, 0, 0, p, m, q, none, 0, 0⟩ : SV).h, .slice (⟨false, false, none, 0, 0, p, m, q, none, 0, 0⟩ : SV).a1 (⟨false, false, none, 0, 0, p, m, q, none, 0, 0⟩ : SV).n1 (⟨false, false, none, 0, 0, p, m, q, none, 0, 0⟩ : SV).c1, .slice (⟨false, false, none, 0, 0, p, m, q, none, 0, 0⟩ : SV).a2 (⟨false, false, none, 0, 0, p, m, q, none, 0, 0⟩ : SV).n2 (⟨false, false, none, 0, 0, p, m, q, none, 0, 0⟩ : SV).c2, .slice (⟨false, false, none, 0, 0, p, m, q, none, 0, 0⟩ : SV).a3 (⟨false, false, none, 0, 0, p, m, q, none, 0, 0⟩ : SV).n3 (⟨false, false, none, 0, 0, p, m, q, none, 0, 0⟩ : SV).c3] 33)) := (Below.refl _ _).alloc (Nat.le_refl _) _
      have row15 := row_two z14 vB (⟨false, false, none, 0, 0, p, m, q, none, 0, 0⟩ : SV) 33
      replace rA := rA.after a15
      replace rB := rB.after a15
      refine ⟨hKS _ _ s14 a15, ?_⟩
      simp only [Act.put, List.setIfInBounds_toArray, List.set_cons_zero, List.set_cons_succ]
      generalize (z14.alloc (.cells #[.bool vB.l, .bool vB.h, .slice vB.a1 vB.n1 vB.c1, .slice vB.a2 vB.n2 vB.c2, .slice vB.a3 vB.n3 vB.c3, .bool (⟨false, false, none, 0, 0, p, m, q, none, 0, 0⟩ : SV).l, .bool (⟨false, false, none, 0, 0, p, m, q, none, 0, 0⟩ : SV).h, .slice (⟨false, false, none, 0, 0, p, m, q, none, 0, 0⟩ : SV).a1 (⟨false, false, none, 0, 0, p, m, q, none, 0, 0⟩ : SV).n1 (⟨false, false, none, 0, 0, p, m, q, none, 0, 0⟩ : SV).c1, .slice (⟨false, false, none, 0, 0, p, m, q, none, 0, 0⟩ : SV).a2 (⟨false, false, none, 0, 0, p, m, q, none, 0, 0⟩ : SV).n2 (⟨false, false, none, 0, 0, p, m, q, none, 0, 0⟩ : SV).c2, .slice (⟨false, false, none, 0, 0, p, m, q, none, 0, 0⟩ : SV).a3 (⟨false, false, none, 0, 0, p, m, q, none, 0, 0⟩ : SV).n3 (⟨false, false, none, 0, 0, p, m, q, none, 0, 0⟩ : SV).c3] 33)) = y16 at *
      refine wpW_one 4 rfl (by kernel_rfl) rfl rfl ?_
      intro z17 b17 s17
      replace rA := rA.after b17
      replace rB := rB.after b17
      replace row15 := row15.after b17
      refine wp_callR 30 #[.slice (some ⟨_, 0, none⟩) 2 2] (by simp [go_sem]) _ (listI_any (fun b => w.heap.size ≤ b ∧ b ≠ w.heap.size + 1) _ 2 2 _ [(.mk false false [] [101, 100, 50, 53, 53, 49, 57] []), .mk false false [] l []] z17 row15 (by omega) rfl (fun i hi => match i, hi with | 0, _ => rB | 1, _ => s17.2.1) (fun b hb => by have := s17.2.2.1.lt; omega)) ?_
      rintro e z18 ⟨vM, rfl, rM, b18⟩
      replace rA := rA.after b18
      replace rB := rB.after b18
      refine ⟨_, rfl, hKS _ _ s17 b18, ?_⟩
      simp only [Act.put, List.setIfInBounds_toArray, List.set_cons_zero, List.set_cons_succ]
      refine wpW_one 5 rfl (by kernel_rfl) rfl rfl ?_
      intro z19 b19 s19
      replace rA := rA.after b19
      replace rB := rB.after b19
      replace rM := rM.after b19
      refine wp_of_run (.slice (some ⟨z19.heap.size, 0, none⟩) 2 2) (z19.alloc (.cells #[.bool vA.l, .bool vA.h, .slice vA.a1 vA.n1 vA.c1, .slice vA.a2 vA.n2 vA.c2, .slice vA.a3 vA.n3 vA.c3, .bool vM.l, .bool vM.h, .slice vM.a1 vM.n1 vM.c1, .slice vM.a2 vM.n2 vM.c2, .slice vM.a3 vM.n3 vM.c3] 33)) (by simp [go_sem, SV.val]) ?_
      have a20 : Below z19.heap.size z19 (z19.alloc (.cells #[.bool vA.l, .bool vA.h, .slice vA.a1 vA.n1 vA.c1, .slice vA.a2 vA.n2 vA.c2, .slice vA.a3 vA.n3 vA.c3, .bool vM.l, .bool vM.h, .slice vM.a1 vM.n1 vM.c1, .slice vM.a2 vM.n2 vM.c2, .slice vM.a3 vM.n3 vM.c3] 33)) := (Below.refl _ _).alloc (Nat.le_refl _) _
      have row20 := row_two z19 vA vM 33
      replace rA := rA.after a20
      replace rB := rB.after a20
      replace rM := rM.after a20
      refine ⟨hKS _ _ s19 a20, ?_⟩
      simp only [Act.put, List.setIfInBounds_toArray, List.set_cons_zero, List.set_cons_succ]
      generalize (z19.alloc (.cells #[.bool vA.l, .bool vA.h, .slice vA.a1 vA.n1 vA.c1, .slice vA.a2 vA.n2 vA.c2, .slice vA.a3 vA.n3 vA.c3, .bool vM.l, .bool vM.h, .slice vM.a1 vM.n1 vM.c1, .slice vM.a2 vM.n2 vM.c2, .slice vM.a3 vM.n3 vM.c3] 33)) = y21 at *
      refine wpW_one 6 rfl (by kernel_rfl) rfl rfl ?_
      intro z22 b22 s22
      replace rA := rA.after b22
      replace rB := rB.after b22
      replace rM := rM.after b22
      replace row20 := row20.after b22
      refine wp_callR 30 #[.slice (some ⟨_, 0, none⟩) 2 2] (by simp [go_sem]) _ (listI_any (fun b => w.heap.size ≤ b ∧ b ≠ w.heap.size + 1) _ 2 2 _ [(.mk false false [] [112, 117, 98, 108, 105, 99, 45, 107, 101, 121] []), .mk true false [] [] [(.mk false false [] [101, 100, 50, 53, 53, 49, 57] []), .mk false false [] l []]] z22 row20 (by omega) rfl (fun i hi => match i, hi with | 0, _ => rA | 1, _ => rM) (fun b hb => by have := s22.2.2.1.lt; omega)) ?_
      rintro e z23 ⟨vL, rfl, rL, b23⟩
      replace rA := rA.after b23
      replace rB := rB.after b23
      replace rM := rM.after b23
      refine ⟨_, rfl, hKS _ _ s22 b23, ?_⟩
      simp only [Act.put, List.setIfInBounds_toArray, List.set_cons_zero, List.set_cons_succ]
      refine wpW_write 7 rfl (by kernel_rfl) (by kernel_rfl) rfl ?_
      intro zz bz sz
      replace rL := rL.after bz
      obtain ⟨vl, vh, a1, n1, c1, a2, n2, c2, a3, n3, c3⟩ := vL
      refine wp_store_box 33 _ _ rfl sz.2.2.1 (by rfl) (by rfl) rfl (by kernel_rfl) (by simp [Value.oneCell']) (cells := #[.bool vl, .bool vh, .slice a1 n1 c1, .slice a2 n2 c2, .slice a3 n3 c3]) ?_
      intro zx Xx stx
      have RLx := rL.keep (w' := zx) (fun b hb => stx.other b hb.2)
      have Bx := stx.below w.heap.size w (by omega) sz.2.2.2
      clear rL sz stx
      simp only [Act.put, List.setIfInBounds_toArray, List.set_cons_zero, List.set_cons_succ]
      refine wpU_val 8 keeps_true rfl (by kernel_rfl) (by kernel_rfl) (by kernel_rfl) rfl (fun _ _ _ _ h => h) (.int .i64 0) (fun w' _ => by simp [go_sem]) ?_
      simp only [Act.put, List.setIfInBounds_toArray, List.set_cons_zero, List.set_cons_succ]
      refine wpU_done rfl (fun w9 b9 _ => ?_)
      have B9 := Bx.trans (b9.mono Bx.size)
      have X9 := Xx.after b9
      have R9 := RLx.after b9
      go_wp2_with fail
      exact bodyPost_ret (v := .tuple #[.agg #[.bool vl, .bool vh, .slice a1 n1 c1, .slice a2 n2 c2, .slice a3 n3 c3], .int .i64 0]) (box_result2 (p := 2) (q := 3) rfl _ _ (by rfl) X9 Tryd.underlying33 rfl (by kernel_rfl)) rfl (.inl ⟨by rw [← HLN.out]; exact HRR.out.symm, ⟨vl, vh, a1, n1, c1, a2, n2, c2, a3, n3, c3⟩, rfl, R9.mono (fun _ h => h.1), B9⟩)

end Go.Proofs.YthmigigclmogiaaDoor
namespace Go.Proofs.YthmigigclmogiaaDoor
open Go.RowKit
set_option linter.unusedSimpArgs false
set_option linter.unusedVariables false

/-- may an end be? -/
def sideB (p : Bool) (n : Int) : Bool := if p then decide (0 ≤ n ∧ n < 315569520000) else decide (n = 0)
def winMay (p : Bool) (f : Int) (q : Bool) (t : Int) : Bool := sideB p f && sideB q t

end Go.Proofs.YthmigigclmogiaaDoor
namespace Go.Proofs.YthmigigclmogiaaDoor
open Go.RowKit Go.ChangeShapes Go.WideShapes Go.ChangeAt
set_option linter.unusedSimpArgs false
set_option linter.unusedVariables false

/-- a slice's three parts -/
structure S3 where
  a : Option Addr
  n : Nat
  c : Nat
instance : Inhabited S3 := ⟨⟨none, 0, 0⟩⟩
def S3.val (x : S3) : Value := .slice x.a x.n x.c
/-- a row of slices of bytes reads as the lists -/
def RowS (w : World) (a : Option Addr) (n c : Nat) (Z : Nat → S3) (ls : List (List UInt8)) : Prop :=
  n ≤ c ∧ c ≤ maxLen ∧ (a = none → c = 0) ∧ n = ls.length ∧ (n = 0 ∨ ∃ b o, a = some ⟨b, o, none⟩ ∧ ∀ i, i < n → w.cell? ⟨b, o + i, none⟩ = some (Z i).val) ∧ ∀ i (h : i < ls.length), Sl w (Z i).a (Z i).n (Z i).c ls[i]
theorem RowS.lt {w : World} {a : Option Addr} {n c : Nat} {Z : Nat → S3} {ls : List (List UInt8)} (h : RowS w a n c Z ls) : n = 0 ∨ ∀ b o s, a = some ⟨b, o, s⟩ → b < w.heap.size := by
  by_cases h0 : n = 0
  · exact .inl h0
  · rcases h.2.2.2.2.1 with h4 | ⟨b, o, rfl, h4⟩
    · exact absurd h4 h0
    · refine .inr fun b' o' s e => ?_
      cases e
      exact cell_lt (h4 0 (by omega))
theorem RowS.after {w w' : World} {a : Option Addr} {n c : Nat} {Z : Nat → S3} {ls : List (List UInt8)} (h : RowS w a n c Z ls) (hb : Below w.heap.size w w') : RowS w' a n c Z ls := by
  have hlt := h.lt
  obtain ⟨h1, h2, h3, h4, h5, h6⟩ := h
  refine ⟨h1, h2, h3, h4, ?_, fun i hi => (h6 i hi).after hb⟩
  rcases h5 with h5 | ⟨b, o, rfl, h5⟩
  · exact .inl h5
  · rcases hlt with h0 | h0
    · exact .inl h0
    · exact .inr ⟨b, o, rfl, fun i hi => (World.cell?_of_block (a := ⟨b, o + i, none⟩) (hb.block b (h0 b o none rfl))).trans (h5 i hi)⟩

section
variable {H : Type} {enc : TypeId × Value → H} {W : World} {held : Bool}

theorem open_key {fuel : Nat} {c1 c2 : Value} {x : DataW H × List MemPlace} (h : DataW.trod enc Tryd.prog W 0 (fun _ => true) held fuel 24 [c1, c2] = some x) :
    ∃ (s : Bool) (a : Option Addr) (n k : Nat) (l : List UInt8), c1 = .bool s ∧ c2 = .slice a n k ∧ Sl W a n k l := by
  obtain ⟨k1, k2, k3, k4, k5⟩ := cells_sx
  obtain ⟨xs, m, _, _, _, hl, hg⟩ := DataW.trod_struct Tryd.underlying24 h
  match xs, hl with
  | [y0, y1], _ =>
    have h0 : DataW.trod enc Tryd.prog W 0 (fun _ => true) held m 4 (([c1, c2].drop 0).take (Tryd.prog.cellsOf 4)) = some y0 := hg 0 _ rfl
    have h1 : DataW.trod enc Tryd.prog W 0 (fun _ => true) held m 22 (([c1, c2].drop 1).take (Tryd.prog.cellsOf 22)) = some y1 := hg 1 _ rfl
    rw [k1] at h0
    rw [k2] at h1
    obtain ⟨s, e0, _⟩ := DataW.trod_bool Tryd.underlying4 h0
    obtain ⟨a, n, k, l, rfl, hs⟩ := open_slU h1
    exact ⟨s, a, n, k, l, by simpa using e0, rfl, hs⟩

theorem open_sums {fuel : Nat} {c : Value} {x : DataW H × List MemPlace} (h : DataW.trod enc Tryd.prog W 0 (fun _ => true) held fuel 25 [c] = some x) :
    ∃ (a : Option Addr) (n k : Nat) (Z : Nat → S3) (ls : List (List UInt8)), c = .slice a n k ∧ RowS W a n k Z ls := by
  obtain ⟨m1, m2, _⟩ := cells_sx
  rcases DataW.trod_slice Tryd.underlying25 h with ⟨e4, rfl⟩ | ⟨a, len, cap, elems, rest, m, hm, e4, rfl, _, hlc, hcm, hel, hat, _, _⟩
  · have e4' : c = .slice none 0 0 := by simpa using e4
    subst e4'
    exact ⟨none, 0, 0, fun _ => ⟨none, 0, 0⟩, [], rfl, Nat.le_refl _, Nat.zero_le _, fun _ => rfl, rfl, .inl rfl, fun i hi => by cases hi⟩
  · have e4' : c = .slice (some a) len cap := by simpa using e4
    subst e4'
    have key : ∀ i, i < len → ∃ p : S3 × List UInt8, W.cells? 0 (a.add (i * 1)) 1 = some [p.1.val] ∧ Sl W p.1.a p.1.n p.1.c p.2 := fun i hi => by
      have hi' : i < elems.length := by omega
      have h5 := hat i hi
      rw [m2, List.getElem?_eq_getElem hi'] at h5
      obtain ⟨cs', hc1, hc2⟩ := Option.bind_eq_some_iff.1 h5
      have hlen : cs'.length = 1 := by
        unfold World.cells? at hc1
        rw [if_pos (Nat.zero_le _)] at hc1
        have := mapM_some_length hc1
        simpa using this
      match cs', hlen with
      | [c0], _ =>
        obtain ⟨a0, n0, k0, l0, rfl, hs⟩ := open_slU hc2
        exact ⟨(⟨a0, n0, k0⟩, l0), hc1, hs⟩
    haveI : Inhabited (S3 × List UInt8) := ⟨(⟨none, 0, 0⟩, [])⟩
    obtain ⟨f, hf'⟩ := Go.Deep.choose_lt key
    obtain ⟨b, o, spot⟩ := a
    have hcell : ∀ i, i < len → W.cell? ((⟨b, o, spot⟩ : Addr).add (i * 1)) = some (f i).1.val := fun i hi => by
      have h6 := (hf' i hi).1
      unfold World.cells? at h6
      rw [if_pos (Nat.zero_le _)] at h6
      have h7 := mapM_some_get h6 0 0 (by simp)
      simpa [Addr.add] using h7
    have hsp : len = 0 ∨ spot = none := by
      by_cases h0' : len = 0
      · exact .inl h0'
      · right
        have := World.cell?_spot (hcell 0 (by omega))
        simpa [Addr.add] using this
    refine ⟨some ⟨b, o, spot⟩, len, cap, fun i => (f i).1, (List.range len).map fun i => (f i).2, rfl, hlc, hcm, (fun h => by cases h), by simp, ?_, fun i hi => ?_⟩
    · rcases hsp with h0' | rfl
      · exact .inl h0'
      · refine .inr ⟨b, o, rfl, fun i hi => ?_⟩
        have := hcell i hi
        rw [Addr.add_mid] at this
        simpa using this
    · have hi' : i < len := by simpa using hi
      have := (hf' i hi').2
      simpa using this

end
end Go.Proofs.YthmigigclmogiaaDoor
namespace Go.Proofs.YthmigigclmogiaaDoor
open Go.RowKit
set_option linter.unusedSimpArgs false
set_option linter.unusedVariables false

/-- a value and what is told beside it -/
def PutQ (s : Sx) (x : Value) (w : World) (e : Ending) (w' : World) : Prop :=
  ∃ v : SV, e = .returned (.tuple #[.agg #[.bool v.l, .bool v.h, .slice v.a1 v.n1 v.c1, .slice v.a2 v.n2 v.c2, .slice v.a3 v.n3 v.c3], x]) ∧ RdI (fun b => w.heap.size ≤ b) w' v s ∧ Below w.heap.size w w'

end Go.Proofs.YthmigigclmogiaaDoor
namespace Go.Proofs.YthmigigclmogiaaDoor
open Go.RowKit
set_option linter.unusedSimpArgs false
set_option linter.unusedVariables false

theorem Box.mid {w : World} {g : Nat} {T : TypeId} {cells : Array Value} (h : Box w g T cells) (o : Nat) (cs : List Value) (hh : ∀ j v, cs[j]? = some v → cells[o + j]? = some v) : w.rangeAt g o cs := fun j v hv => h.cell (o + j) (hh j v hv)
theorem mid2 {cells : Array Value} {o : Nat} {x y : Value} (h0 : cells[o]? = some x) (h1 : cells[o + 1]? = some y) : ∀ j v, [x, y][j]? = some v → cells[o + j]? = some v := by
  intro j v hv
  match j, hv with
  | 0, hv => cases hv; exact h0
  | 1, hv => cases hv; exact h1
theorem mid4 {cells : Array Value} {o : Nat} {x y z u : Value} (h0 : cells[o]? = some x) (h1 : cells[o + 1]? = some y) (h2 : cells[o + 2]? = some z) (h3 : cells[o + 3]? = some u) : ∀ j v, [x, y, z, u][j]? = some v → cells[o + j]? = some v := by
  intro j v hv
  match j, hv with
  | 0, hv => cases hv; exact h0
  | 1, hv => cases hv; exact h1
  | 2, hv => cases hv; exact h2
  | 3, hv => cases hv; exact h3
section
variable {P : Program} {md : Region.Mode} {ops : Array Oper} {Q : Exit → Act → World → Prop} {S : World → Prop}
/-- two that may come up, neither writes -/
theorem wpW_two (i j : Nat) {ws : List Nat} {oi oj : Oper} {tl tl' : List Oper} {fuel : Nat} {listed : Array Bool} {a : Act} {w : World} (hi : ops.toList.drop i = oi :: tl) (hj : ops.toList.drop j = oj :: tl') (hr : Region.ready md ops listed = [i, j])
    (hw : ws.contains i = false) (hw' : ws.contains j = false) (hgd : Region.wanted oi (yielded ops a.tmps) = true) (hgd' : Region.wanted oj (yielded ops a.tmps) = true)
    (h : ∀ w1, Below w.heap.size w w1 → S w1 → oi.wp P a w1 (fun a' w' => S w' ∧ wpW P md ops Q S ws fuel (listed.setIfInBounds i true) a' w') Q)
    (h' : ∀ w1, Below w.heap.size w w1 → S w1 → oj.wp P a w1 (fun a' w' => S w' ∧ wpW P md ops Q S ws fuel (listed.setIfInBounds j true) a' w') Q) : wpW P md ops Q S ws (fuel + 1) listed a w :=
  fun w1 b1 s1 => ⟨fun h0 => (by rw [hr] at h0; cases h0), fun k hk => by
    rw [hr] at hk
    rcases List.mem_cons.1 hk with rfl | hk
    · exact wpOp_step (op_of_drop hi) (fun K' hK => by
        rw [if_pos hgd]
        refine Oper.wp_mono (fun a' w' h' => hK a' w' ?_) (h w1 b1 s1)
        rw [if_neg (by rw [hw]; simp)]
        exact h')
    · obtain rfl : k = j := by simpa using hk
      exact wpOp_step (op_of_drop hj) (fun K' hK => by
        rw [if_pos hgd']
        refine Oper.wp_mono (fun a' w' h' => hK a' w' ?_) (h' w1 b1 s1)
        rw [if_neg (by rw [hw']; simp)]
        exact h')⟩
end
/-- the tree of a list without sums and window -/
def crl0S (l : List UInt8) : Sx := .mk true false [] [] [(.mk false false [] [99, 114, 108] []), .mk true false [] [] [(.mk false false [] [105, 115, 115, 117, 101, 114] []), keyS false l], .mk true false [] [] [(.mk false false [] [99, 97, 110, 99, 101, 108, 101, 100] [])]]
theorem crl0_may : (crl0S (List.replicate 32 0)).may = true := by
  have hf : (crl0S (List.replicate 32 0)).form.length ≤ 4096 := by
    unfold crl0S keyS
    have n1 := numL_len 10 (by omega)
    have n2 := numL_len 32 (by omega)
    simp [form_def, Sx.formL, textL, numL_small]
    generalize (numL 10).length = x1 at *
    generalize (numL 32).length = x2 at *
    omega
  have h1 : (crl0S (List.replicate 32 0)).clean = true := by decide
  have h2 : (crl0S (List.replicate 32 0)).nodes ≤ 512 := by decide
  have h3 : (crl0S (List.replicate 32 0)).deep ≤ 16 := by decide
  unfold Sx.may
  rw [h1, decide_eq_true hf, decide_eq_true h2, decide_eq_true h3]
  rfl
theorem crl0_wide : (crl0S (List.replicate 32 0)).wide 0 = false := by decide

end Go.Proofs.YthmigigclmogiaaDoor
namespace Go.Proofs.YthmigigclmogiaaDoor
open Go.RowKit
set_option linter.unusedSimpArgs false
set_option linter.unusedVariables false

section
variable {P : Program} {ops : Array Oper}
theorem wpList_load_midW {rest : List Oper} {op : Oper} {a : Act} {w : World} {Q : Exit → Act → World → Prop} (hgd : Region.wanted op (yielded ops a.tmps) = true) (ty : TypeId) (x : Operand) (ho : op.op = .load ty x)
    (b o : Nat) (hx : a.eval x = .pointer (some ⟨b, o, none⟩)) (cs : List Value) (d : TypeDesc) (hc : w.rangeAt b o cs)
    (hu : P.underlying ty = some d) (hd : d.isRow = true) (hi : (P.info? ty).map (·.size) = some cs.length)
    (h : wpList P ops Q rest (a.put op.dst (.agg cs.toArray)) w) : wpList P ops Q (op :: rest) a w :=
  wpList_want hgd fun _ hK => wp_load_mid ty x ho b o hx cs d hc hu hd hi (hK _ _ h)
end
/-- is a value an atom of these bytes? does a list begin with one? -/
def isB (s : Sx) (t : ByteArray) : Bool := !s.l && (!s.h && (s.da == t.toList))
def headB (s : Sx) (t : ByteArray) : Bool := s.l && (match s.ks with | [] => false | k :: _ => isB k t)

theorem head_crl : headB (crl0S (List.replicate 32 0)) ⟨#[99, 114, 108]⟩ = true := by
  have h : (⟨#[99, 114, 108]⟩ : ByteArray).toList = [99, 114, 108] := by simp
  show (true && (!false && (!false && ([99, 114, 108] == ByteArray.toList ⟨#[99, 114, 108]⟩)))) = true
  rw [h]
  rfl
theorem head_can : headB (.mk true false [] [] [(.mk false false [] [99, 97, 110, 99, 101, 108, 101, 100] [])]) ⟨#[99, 97, 110, 99, 101, 108, 101, 100]⟩ = true := by
  have h : (⟨#[99, 97, 110, 99, 101, 108, 101, 100]⟩ : ByteArray).toList = [99, 97, 110, 99, 101, 108, 101, 100] := by simp
  show (true && (!false && (!false && ([99, 97, 110, 99, 101, 108, 101, 100] == ByteArray.toList ⟨#[99, 97, 110, 99, 101, 108, 101, 100]⟩)))) = true
  rw [h]
  rfl
theorem noughts_get (i : Nat) : (List.replicate 32 (0 : UInt8)).getD i 0 = 0 := by rw [List.getD_eq_getElem?_getD, List.getElem?_replicate]; split <;> rfl

/-- 32 noughts, made -/
theorem make32 (w : World) : ∃ w', (Instr.makeSlice 22 (.int .i64 32) (.int .i64 32)).run Tryd.prog w = .ok (.slice (some ⟨w.heap.size, 0, none⟩) 32 32) w' ∧ Sl w' (some ⟨w.heap.size, 0, none⟩) 32 32 (List.replicate 32 0) ∧ Below w.heap.size w w' := by
  obtain ⟨i0, hi, hi2⟩ := Option.map_eq_some_iff.1 (show (Tryd.prog.info? 5).map (fun i => (i.zero, i.size, i.bytes)) = some (some (.int .u8 0), 1, 1) by kernel_rfl)
  simp only [Prod.mk.injEq] at hi2
  obtain ⟨hz0, hz1, hz2⟩ := hi2
  refine ⟨_, run_makeSlice w 22 5 i0 (.int .u8 0) Tryd.underlying22 hi hz0 .i64 .i64 32 32 (by omega) (by omega) (by rw [hz1]; decide) (by rw [hz2]; decide) (by omega), ?_, (Below.refl _ _).alloc (Nat.le_refl _) _⟩
  rw [hz1]
  have X := Box.new w 5 (madeCells (Value.int .u8 0).cells ((32 : Int).toNat * 1))
  refine ⟨rfl, by decide, by decide, (fun h => by cases h), .inr ⟨_, 0, rfl, fun i hi => ?_⟩⟩
  rw [Nat.zero_add]
  refine X.cell i ?_
  have : ∀ i, i < 32 → (madeCells (Value.int .u8 0).cells ((32 : Int).toNat * 1))[i]? = some (.int .u8 (((List.replicate 32 (0 : UInt8)).getD i 0).toNat : Int)) := by
    intro i hi
    rw [noughts_get]
    simp [madeCells, Value.cells, hi, Nat.mod_one]
  exact this i hi

end Go.Proofs.YthmigigclmogiaaDoor
namespace Go.Proofs.YthmigigclmogiaaDoor
open Go.RowKit
set_option linter.unusedSimpArgs false
set_option linter.unusedVariables false

def winIn (p : Bool) (f : Int) (q : Bool) (u t : Int) : Bool := (!p || decide (f ≤ t)) && (!q || decide (t ≤ u))

end Go.Proofs.YthmigigclmogiaaDoor
namespace Go.Proofs.YthmigigclmogiaaDoor
open Go.RowKit
set_option linter.unusedSimpArgs false
set_option linter.unusedVariables false

theorem any_snoc (p : List UInt8 → Bool) (ls : List (List UInt8)) (k : Nat) (h : k < ls.length) : (ls.take (k + 1)).any p = ((ls.take k).any p || p ls[k]) := by
  rw [List.take_add_one, List.getElem?_eq_getElem h, List.any_append]
  simp only [Option.toList, List.any_cons, List.any_nil, Bool.or_false]
theorem any_at (p : List UInt8 → Bool) (ls : List (List UInt8)) (k : Nat) (h : k < ls.length) (hp : p ls[k] = true) : ls.any p = true := List.any_eq_true.2 ⟨_, List.getElem_mem h, hp⟩
theorem RowS.cell {w : World} {a : Option Addr} {n c : Nat} {Z : Nat → S3} {ls : List (List UInt8)} (h : RowS w a n c Z ls) {i : Nat} (hi : i < n) : ∃ b o, a = some ⟨b, o, none⟩ ∧ w.cell? ⟨b, o + i, none⟩ = some (.slice (Z i).a (Z i).n (Z i).c) := by
  rcases h.2.2.2.2.1 with h4 | ⟨b, o, rfl, h4⟩
  · omega
  · exact ⟨b, o, rfl, h4 i hi⟩

def IdxP (ls : List (List UInt8)) (b : List UInt8) (w : World) (e : Ending) (w' : World) : Prop := ∃ k : Int, e = .returned (.int .i64 k) ∧ decide (0 ≤ k) = ls.any (· == b) ∧ Below w.heap.size w w'

def canB (ls : List (List UInt8)) (b : List UInt8) (p : Bool) (f : Int) (q : Bool) (u t : Int) : Bool := winIn p f q u t && ls.any (· == b)

end Go.Proofs.YthmigigclmogiaaDoor
namespace Go.Proofs.YthmigigclmogiaaDoor
open Go.RowKit
set_option linter.unusedSimpArgs false
set_option linter.unusedVariables false

end Go.Proofs.YthmigigclmogiaaDoor
namespace Go.Proofs.YthmigigclmogiaaDoor
open Go.RowKit
set_option linter.unusedSimpArgs false
set_option linter.unusedVariables false

section
variable {P : Program} {ops : Array Oper} {W : World} {B : Nat}
theorem wpQ_callB {Q : Act → Prop} {a : Act} {o : Oper} {rest : List Oper} (hgd : Region.wanted o (yielded ops a.tmps) = true) (f : FuncId) (args : Array Value) (hr : ∀ w, (execOp a.eval o).run P w = .ok (.enter f args) w) (v : Value) (hB : B ≤ W.heap.size)
    (hc : ∀ w, Below B W w → Calls P f args w fun e w' => e = .returned v ∧ Below w.heap.size w w')
    (h : wpQuiet P ops (fun w' => Below B W w') Q rest (a.put o.dst v)) : wpQuiet P ops (fun w' => Below B W w') Q (o :: rest) a :=
  wpQ_plain hgd ⟨v, fun w hw => by
    unfold Oper.quietAt
    rw [hr w]
    exact ⟨rfl, (hc w hw).mono fun e w'' ⟨he, hb⟩ => ⟨he, hw.trans (hb.mono (by have := hw.size; omega))⟩⟩, h⟩
end
def greatC (m n : Nat) (ls : List (List UInt8)) : Bool := decide (200 < m) || (decide (40 < n) || ls.any (fun l => decide (200 < l.length)))

end Go.Proofs.YthmigigclmogiaaDoor

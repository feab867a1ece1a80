/- An argument that is an S-expression: opened to its cells, as a tree. -/
import Derived.Test.YtcflgoddfakepaaDoorSxA
import Derived.ChangeSlices
import Derived.WideShapes
import Derived.Deep.Slices
namespace Go.Proofs.YtcflgoddfakepaaDoor
open Go.RowKit Go.ChangeShapes Go.WideShapes Go.ChangeAt

theorem cells_sx : Tryd.prog.cellsOf 4 = 1 ∧ Tryd.prog.cellsOf 22 = 1 ∧ Tryd.prog.cellsOf 23 = 1 ∧ Tryd.prog.cellsOf 25 = 5 ∧ Tryd.prog.cellsOf 5 = 1 := ⟨by kernel_rfl, by kernel_rfl, by kernel_rfl, by kernel_rfl, by kernel_rfl⟩

theorem bulk_nodes {H : Type} : ∀ (l : List (DataW H × List MemPlace)) (g : Nat → Sx), (∀ i (h : i < l.length), (g i).nodes ≤ Rows.uptoBulk l[i].1) → Sx.nodesL ((List.range l.length).map g) ≤ Rows.uptoBulkAll (l.map (·.1))
  | [], _, _ => by simp [Sx.nodesL]
  | x :: r, g, h => by
    rw [List.length_cons, List.range_succ_eq_map, List.map_cons, List.map_map]
    simp only [Sx.nodesL, List.map_cons, Rows.uptoBulkAll]
    have h0 := h 0 (by simp)
    have := bulk_nodes r (g ∘ Nat.succ) (fun i hi => by have := h (i + 1) (by simpa using hi); simpa using this)
    simp only [List.getElem_cons_zero] at h0
    omega

section
variable {H : Type} {enc : TypeId × Value → H} {W : World} {held : Bool}

theorem open_slU {fuel : Nat} {c : Value} {x : DataW H × List MemPlace} (h : DataW.trod enc Tryd.prog W 0 (fun _ => true) held fuel 22 [c] = some x) :
    ∃ (a : Option Addr) (n k : Nat) (l : List UInt8), c = .slice a n k ∧ Sl W a n k l := by
  rcases open_ints Tryd.underlying22 Tryd.underlying5 cells_sx.2.2.2.2 h with ⟨hcs, _⟩ | ⟨x, l, k, zs, hcs, _, hl, hm, hz, _, hcell, hwz⟩
  · simp at hcs
    exact ⟨none, 0, 0, [], hcs, Sl.nil W⟩
  · simp at hcs
    have hr : IsRow .u8 W (some x) l k zs := .inr ⟨_, rfl, hl, hm, by simpa using hz, hcell, hwz⟩
    obtain ⟨L, hL⟩ := hr.sl
    exact ⟨_, l, k, L, hcs, hL⟩

set_option maxRecDepth 100000 in
theorem open_sxf : ∀ (fuel : Nat) (cs : List Value) (x : DataW H × List MemPlace), DataW.trod enc Tryd.prog W 0 (fun _ => true) held fuel 25 cs = some x →
    ∃ (v : SV) (s : Sx), cs = v.cells.toList ∧ Rd W v s ∧ s.nodes ≤ Rows.uptoBulk x.1 := by
  intro fuel
  induction fuel using Nat.strongRecOn with
  | _ fuel ih =>
    intro cs x h
    obtain ⟨k1, k2, k3, k4, k5⟩ := cells_sx
    obtain ⟨xs, n, hf, rfl, hl, hxl, hg⟩ := DataW.trod_struct Tryd.underlying25 h
    rw [k4] at hl
    match cs, hl with
    | [c0, c1, c2, c3, c4], _ =>
      match xs, hxl with
      | [y0, y1, y2, y3, y4], _ =>
        have h0 : DataW.trod enc Tryd.prog W 0 (fun _ => true) held n 4 (([c0, c1, c2, c3, c4].drop 0).take (Tryd.prog.cellsOf 4)) = some y0 := hg 0 _ rfl
        have h1 : DataW.trod enc Tryd.prog W 0 (fun _ => true) held n 4 (([c0, c1, c2, c3, c4].drop 1).take (Tryd.prog.cellsOf 4)) = some y1 := hg 1 _ rfl
        have h2 : DataW.trod enc Tryd.prog W 0 (fun _ => true) held n 22 (([c0, c1, c2, c3, c4].drop 2).take (Tryd.prog.cellsOf 22)) = some y2 := hg 2 _ rfl
        have h3 : DataW.trod enc Tryd.prog W 0 (fun _ => true) held n 22 (([c0, c1, c2, c3, c4].drop 3).take (Tryd.prog.cellsOf 22)) = some y3 := hg 3 _ rfl
        have h4 : DataW.trod enc Tryd.prog W 0 (fun _ => true) held n 23 (([c0, c1, c2, c3, c4].drop 4).take (Tryd.prog.cellsOf 23)) = some y4 := hg 4 _ rfl
        rw [k1] at h0 h1
        rw [k2] at h2 h3
        rw [k3] at h4
        obtain ⟨bl, e0, _⟩ := DataW.trod_bool Tryd.underlying4 h0
        obtain ⟨bh, e1, _⟩ := DataW.trod_bool Tryd.underlying4 h1
        obtain ⟨a2, n2, q2, l2, rfl, s2⟩ := open_slU h2
        obtain ⟨a3, n3, q3, l3, rfl, s3⟩ := open_slU h3
        have e0' : c0 = .bool bl := by simpa using e0
        have e1' : c1 = .bool bh := by simpa using e1
        subst e0' e1'
        rcases DataW.trod_slice Tryd.underlying23 h4 with ⟨e4, rfl⟩ | ⟨a, len, cap, elems, rest, m, hm, e4, rfl, _, hlc, hcm, hel, hat, _, _⟩
        · have e4' : c4 = .slice none 0 0 := by simpa using e4
          subst e4'
          refine ⟨⟨bl, bh, a2, n2, q2, a3, n3, q3, none, 0, 0⟩, .mk bl bh l2 l3 [], rfl, .mk _ l2 l3 [] (fun _ => SV.nil) s2 (.inr fun _ _ _ _ => trivial) s3 (.inr fun _ _ _ _ => trivial) ⟨Nat.le_refl _, Nat.zero_le _, fun _ => rfl, .inl rfl⟩ (.inl rfl) rfl (fun i hi => by cases hi), ?_⟩
          simp only [Sx.nodes, Sx.nodesL, Rows.uptoBulk]
          omega
        · have e4' : c4 = .slice (some a) len cap := by simpa using e4
          subst e4'
          have key : ∀ i, i < len → ∃ p : SV × Sx, (∃ he : i < elems.length, p.2.nodes ≤ Rows.uptoBulk elems[i].1) ∧ W.cells? 0 (a.add (i * 5)) 5 = some p.1.cells.toList ∧ Rd W p.1 p.2 := fun i hi => by
            have hi' : i < elems.length := by omega
            have h5 := hat i hi
            rw [k4, List.getElem?_eq_getElem hi'] at h5
            obtain ⟨cs', hc1, hc2⟩ := Option.bind_eq_some_iff.1 h5
            obtain ⟨v, s, rfl, hrd, hnd⟩ := ih m (by omega) cs' _ hc2
            exact ⟨(v, s), ⟨hi', hnd⟩, hc1, hrd⟩
          haveI : Inhabited (SV × Sx) := ⟨(SV.nil, default)⟩
          obtain ⟨f, hf'⟩ := Go.Deep.choose_lt key
          obtain ⟨b, o, spot⟩ := a
          have hcell : ∀ i, i < len → ∀ j u, (f i).1.cells[j]? = some u → W.cell? (((⟨b, o, spot⟩ : Addr).add (i * 5)).add j) = some u := fun i hi j u hu => by
            have h6 := (hf' i hi).2.1
            unfold World.cells? at h6
            rw [if_pos (Nat.zero_le _)] at h6
            have hj : j < 5 := by have := (Array.getElem?_eq_some_iff.1 hu).1; rwa [SV.cells_size] at this
            have h7 := mapM_some_get h6 j j (by simp [hj])
            rw [h7]
            simpa using hu
          have hsp : len = 0 ∨ spot = none := by
            by_cases h0' : len = 0
            · exact .inl h0'
            · right
              have := World.cell?_spot (hcell 0 (by omega) 0 _ rfl)
              simpa [Addr.add] using this
          refine ⟨⟨bl, bh, a2, n2, q2, a3, n3, q3, some ⟨b, o, spot⟩, len, cap⟩, .mk bl bh l2 l3 ((List.range len).map fun i => (f i).2), rfl,
            .mk _ l2 l3 _ (fun i => (f i).1) s2 (.inr fun _ _ _ _ => trivial) s3 (.inr fun _ _ _ _ => trivial) ⟨hlc, hcm, (fun h => by cases h), ?_⟩ (.inr fun _ _ _ _ => trivial) (by simp) (fun i hi => ?_), ?_⟩
          · rcases hsp with h0' | rfl
            · exact .inl h0'
            · refine .inr ⟨b, o, rfl, fun i hi j u hu => ?_⟩
              have := hcell i hi j u hu
              rwa [Addr.add_mid, Addr.add_mid] at this
          · have hi' : i < len := by simpa using hi
            have := (hf' i hi').2.2
            simpa using this
          · have := bulk_nodes elems (fun i => (f i).2) (fun i hi => (hf' i (by omega)).1.2)
            rw [hel] at this
            simp only [Sx.nodes, Rows.uptoBulk, Rows.uptoBulkAll, List.map_cons, List.map_nil]
            omega

theorem open_sx {r : Reach} {b0 : Nat} {v : Value} {d : DataW H} {p : List MemPlace} (hv : Value.okWide Tryd.prog W r b0 25 v) (h : DataW.Trod enc Tryd.prog W 0 (fun _ => true) held 25 v d p) :
    ∃ (u : SV) (s : Sx), v = u.val ∧ Rd W u s ∧ s.nodes ≤ Rows.uptoBulk d := by
  obtain ⟨cs, rfl, hsz⟩ := okWide_struct Tryd.underlying25 hv
  obtain ⟨fuel, hf⟩ := h
  obtain ⟨u, s, e, hr, hn⟩ := open_sxf fuel _ _ hf
  refine ⟨u, s, ?_, hr, hn⟩
  have : cs = u.cells := by
    apply Array.ext'
    simpa [Value.cells] using e
  rw [this]
  rfl

set_option maxRecDepth 100000 in
theorem open_sxs {a : Option Addr} {n c : Nat} {d : DataW H} {p : List MemPlace} (h : DataW.Trod enc Tryd.prog W 0 (fun _ => true) held 23 (.slice a n c) d p) :
    ∃ (K : Nat → SV) (ks : List Sx), RowAt W a n c K ∧ n = ks.length ∧ (∀ i (hi : i < ks.length), Rd W (K i) ks[i]) ∧ Sx.nodesL ks ≤ Rows.uptoBulk d := by
  obtain ⟨fuel, h4⟩ := h
  obtain ⟨k1, k2, k3, k4, k5⟩ := cells_sx
  rcases DataW.trod_slice Tryd.underlying23 h4 with ⟨e4, e5⟩ | ⟨ad, len, cap, elems, rest, m, hm, e4, e5, _, hlc, hcm, hel, hat, _, _⟩
  · have e4' : (Value.slice a n c) = .slice none 0 0 := by simpa [Value.cells] using e4
    cases e4'
    exact ⟨fun _ => SV.nil, [], ⟨Nat.le_refl _, Nat.zero_le _, fun _ => rfl, .inl rfl⟩, rfl, (fun i hi => by cases hi), by simp [Sx.nodesL]⟩
  · have e4' : (Value.slice a n c) = .slice (some ad) len cap := by simpa [Value.cells] using e4
    cases e4'
    have e6 : d = .slice (elems.map (·.1)) (rest.map (·.1)) := congrArg Prod.fst e5
    subst e6
    have key : ∀ i, i < n → ∃ p : SV × Sx, (∃ he : i < elems.length, p.2.nodes ≤ Rows.uptoBulk elems[i].1) ∧ W.cells? 0 (ad.add (i * 5)) 5 = some p.1.cells.toList ∧ Rd W p.1 p.2 := fun i hi => by
      have hi' : i < elems.length := by omega
      have h5 := hat i hi
      rw [k4, List.getElem?_eq_getElem hi'] at h5
      obtain ⟨cs', hc1, hc2⟩ := Option.bind_eq_some_iff.1 h5
      obtain ⟨v, s, rfl, hrd, hnd⟩ := open_sxf m cs' _ hc2
      exact ⟨(v, s), ⟨hi', hnd⟩, hc1, hrd⟩
    haveI : Inhabited (SV × Sx) := ⟨(SV.nil, default)⟩
    obtain ⟨f, hf'⟩ := Go.Deep.choose_lt key
    obtain ⟨b, o, spot⟩ := ad
    have hcell : ∀ i, i < n → ∀ j u, (f i).1.cells[j]? = some u → W.cell? (((⟨b, o, spot⟩ : Addr).add (i * 5)).add j) = some u := fun i hi j u hu => by
      have h6 := (hf' i hi).2.1
      unfold World.cells? at h6
      rw [if_pos (Nat.zero_le _)] at h6
      have hj : j < 5 := by have := (Array.getElem?_eq_some_iff.1 hu).1; rwa [SV.cells_size] at this
      have h7 := mapM_some_get h6 j j (by simp [hj])
      rw [h7]
      simpa using hu
    have hsp : n = 0 ∨ spot = none := by
      by_cases h0' : n = 0
      · exact .inl h0'
      · right
        have := World.cell?_spot (hcell 0 (by omega) 0 _ rfl)
        simpa [Addr.add] using this
    refine ⟨fun i => (f i).1, (List.range n).map fun i => (f i).2, ⟨hlc, hcm, (fun h => by cases h), ?_⟩, by simp, (fun i hi => ?_), ?_⟩
    · rcases hsp with h0' | rfl
      · exact .inl h0'
      · refine .inr ⟨b, o, rfl, fun i hi j u hu => ?_⟩
        have := hcell i hi j u hu
        rwa [Addr.add_mid, Addr.add_mid] at this
    · have hi' : i < n := by simpa using hi
      have := (hf' i hi').2.2
      simpa using this
    · have := bulk_nodes elems (fun i => (f i).2) (fun i hi => (hf' i (by omega)).1.2)
      rw [hel] at this
      simp only [Rows.uptoBulk]
      omega
end
end Go.Proofs.YtcflgoddfakepaaDoor

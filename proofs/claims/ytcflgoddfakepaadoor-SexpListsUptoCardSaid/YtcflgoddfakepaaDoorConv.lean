/- Strings out of bytes, and bytes out of strings. -/
import Derived.Test.YtcflgoddfakepaaDoorSl
import Derived.Lib.ConvBytes
import Derived.Laws.BytesString
import Derived.Laws.Cells
namespace Go.Proofs.YtcflgoddfakepaaDoor
open Go.RowKit

theorem foldl_push (l : List UInt8) : ∀ s : ByteArray, (l.map fun c => (c.toNat : Int)).foldl (fun r n => r.push (UInt8.ofNat n.toNat)) s = ⟨s.data ++ l.toArray⟩ := by
  induction l with
  | nil => intro s; simp
  | cons a t ih =>
    intro s
    simp only [List.map_cons, List.foldl_cons]
    rw [ih]
    apply ByteArray.ext
    show (s.data.push (UInt8.ofNat ((a.toNat : Int).toNat))) ++ t.toArray = s.data ++ (a :: t).toArray
    simp [UInt8.ofNat_toNat]

/-- 'string(b)' -/
theorem conv_sl {w : World} {a : Option Addr} {len cap : Nat} {l : List UInt8} (h : Sl w a len cap l) :
    (convert 22 9 (.slice a len cap)).run Tryd.prog w = .ok (.string ⟨l.toArray⟩) w := by
  rw [run_convert_bytes_string w 22 9 5 a len cap Tryd.underlying22 Tryd.underlying5 Tryd.underlying9]
  obtain ⟨h1, h2, h3, h5, h4⟩ := h
  cases a with
  | none =>
    have hc := h5 rfl
    have : l = [] := List.eq_nil_of_length_eq_zero (by omega)
    subst this
    rfl
  | some ad =>
    rw [run_bytesToString w ad len cap (l.map fun c => (c.toNat : Int))]
    · rw [foldl_push]; simp [ByteArray.empty, ByteArray.emptyWithCapacity]; rfl
    · have hh := run_loadCells_list (P := Tryd.prog) (w := w) ad (l.map fun c => Value.int .u8 (c.toNat : Int)) ?_
      · rw [show ((l.map fun c => (c.toNat : Int)).map (Value.int .u8)) = l.map fun c => Value.int .u8 (c.toNat : Int) by simp]
        rw [← hh, h1]; simp
      · intro j v hj
        rcases h4 with h4 | ⟨b, o, e, h4⟩
        · have : l = [] := List.eq_nil_of_length_eq_zero (by omega)
          subst this
          simp at hj
        · obtain rfl := Option.some.inj e
          have hlt : j < l.length := by
            rcases Nat.lt_or_ge j l.length with h' | h'
            · exact h'
            · simp [List.getElem?_eq_none h'] at hj
          simp [hlt] at hj
          rw [Addr.add_lit, h4 j (by omega), ← hj]
          simp [List.getD_eq_getElem?_getD, hlt]

/-- A block of bytes, known whole: its first cells are the list; its row may be written. -/
def Blk (w : World) (g : Nat) (l : List UInt8) : Prop :=
  ∃ cur fr, w.heap[g]? = some (.cells cur 5 fr) ∧ (fr = (0, 0) ∨ fr = (cur.size, cur.size + 1)) ∧ l.length ≤ cur.size ∧ cur.size ≤ maxLen ∧ ∀ j, j < l.length → cur[j]? = some (.int .u8 ((l.getD j 0).toNat : Int))

theorem Blk.cell {w : World} {g : Nat} {l : List UInt8} (h : Blk w g l) (j : Nat) (hj : j < l.length) : w.cell? ⟨g, j, none⟩ = some (.int .u8 ((l.getD j 0).toNat : Int)) := by
  obtain ⟨cur, fr, hb, _, _, _, hc⟩ := h
  simp only [World.cell?, hb]
  simpa using hc j hj

theorem Blk.frozen {w : World} {g : Nat} {l : List UInt8} (h : Blk w g l) (j : Nat) (hj : j < l.length) : w.frozen? ⟨g, j, none⟩ = false := by
  obtain ⟨cur, fr, hb, hf, hl, _, hc⟩ := h
  simp only [World.frozen?, hb]
  rcases hf with rfl | rfl <;> simp <;> omega

theorem Blk.lt {w : World} {g : Nat} {l : List UInt8} (h : Blk w g l) : g < w.heap.size := by
  obtain ⟨cur, fr, hb, _⟩ := h
  rcases Nat.lt_or_ge g w.heap.size with h' | h'
  · exact h'
  · simp [Array.getElem?_eq_none h'] at hb

theorem Blk.set {w : World} {g : Nat} {l : List UInt8} (h : Blk w g l) (j : Nat) (c : UInt8) (hj : j < l.length) : Blk (w.setCell ⟨g, j, none⟩ (.int .u8 (c.toNat : Int))) g (l.set j c) := by
  obtain ⟨cur, fr, hb, hf, hl, hm, hc⟩ := h
  refine ⟨cur.setIfInBounds j (.int .u8 (c.toNat : Int)), fr, ?_, by simpa using hf, by simpa using hl, by simpa using hm, ?_⟩
  · simp [World.setCell, Array.getElem?_modify, hb]
  · intro i hi
    simp only [List.length_set] at hi
    by_cases e : j = i
    · subst e
      simp [List.getD_eq_getElem?_getD, hi, show j < cur.size by omega]
    · have := hc i hi
      simp only [List.getD_eq_getElem?_getD] at this ⊢
      rw [Array.getElem?_setIfInBounds_ne e, this, List.getElem?_set_ne e]

theorem Blk.below {w w' : World} {g : Nat} {l : List UInt8} (h : Blk w g l) {B : Nat} (hb : Below B w w') (hg : g < B) : Blk w' g l := by
  obtain ⟨cur, fr, h1, h2⟩ := h
  exact ⟨cur, fr, (hb.block g hg).trans h1, h2⟩

theorem Blk.sl {w : World} {g : Nat} {l : List UInt8} (h : Blk w g l) (cap : Nat) (h1 : l.length ≤ cap) (h2 : cap ≤ maxLen) : Sl w (some ⟨g, 0, none⟩) l.length cap l := by
  refine ⟨rfl, h1, h2, (fun h => by cases h), .inr ⟨g, 0, rfl, fun i hi => ?_⟩⟩
  rw [Nat.zero_add]
  exact h.cell i hi

/-- '[]byte(s)' -/
theorem conv_str (w : World) (s : ByteArray) (hs : s.size ≤ 140737488355328) : ∃ c w', (convert 9 22 (.string s)).run Tryd.prog w = .ok (.slice (some ⟨w.heap.size, 0, none⟩) s.size c) w' ∧
    Blk w' w.heap.size s.data.toList ∧ s.size ≤ c ∧ c ≤ maxLen ∧ Below w.heap.size w w' := by
  refine ⟨_, _, Lib.run_convert_string_bytes w 9 22 5 s Tryd.underlying9 Tryd.underlying22 Tryd.underlying5, ?_, grownCap_ge _ _ _ _, grownCap_le_maxLen _ _ _ _ (by unfold maxLen; omega), ?_⟩
  · have hn := Lib.bytesWorld_at_new w 5 s
    have hsz : (Lib.bytesCells w 5 s).size = grownCap w s.size 0 5 := by
      have := grownCap_ge w s.size 0 5
      simp [Lib.bytesCells]
      have : s.data.size = s.size := rfl
      omega
    refine ⟨_, _, hn, .inr rfl, ?_, ?_, ?_⟩
    · rw [hsz]; simpa using grownCap_ge w s.size 0 5
    · rw [hsz]; exact grownCap_le_maxLen _ _ _ _ (by unfold maxLen; omega)
    · intro j hj
      have hj2 : j < s.size := by simpa using hj
      simp [Lib.bytesCells, Array.getElem?_append, hj2, List.getD_eq_getElem?_getD]
  · refine ⟨?_, ?_, ?_, ?_, ?_⟩
    · simp [Lib.bytesWorld, World.freeze, World.alloc, World.drew, -World.alloc_eq, -World.drew_eq]
    · simp [Lib.bytesWorld, World.freeze, World.alloc, World.drew, -World.alloc_eq, -World.drew_eq]
    · simp [Lib.bytesWorld, World.freeze, World.alloc, World.drew, -World.alloc_eq, -World.drew_eq]
    · simp [Lib.bytesWorld, World.freeze, World.alloc, World.drew, -World.alloc_eq, -World.drew_eq]
    · intro k hk; exact Lib.bytesWorld_at_old w 5 s k hk
end Go.Proofs.YtcflgoddfakepaaDoor

/- scalar: MulAdd: what it computes. -/
import Derived.Test.YtpkoniebbkkmjaaSc4Mg
namespace Go.Proofs.Ytpkoniebbkkmjaa
open Go.RowKit

/-- the cells of 65 bytes -/
def oArr (f : Nat → Nat) : Array Value := ((List.range 65).map fun j => Value.int .u8 (f j : Nat)).toArray
theorem oArr_get (f : Nat → Nat) (j : Nat) (h : j < 65) : (oArr f)[j]? = some (.int .u8 (f j : Nat)) := by
  simp [oArr, List.getElem?_map, List.getElem?_range h]
theorem oArr_size (f : Nat → Nat) : (oArr f).size = 65 := by simp [oArr]
theorem oArr_set (f : Nat → Nat) (i v : Nat) : (oArr f).setIfInBounds i (.int .u8 (v : Nat)) = oArr (upd f i v) := by
  apply Array.ext
  · simp [oArr]
  · intro j h1 h2
    simp only [oArr, List.size_toArray, List.length_map, List.length_range] at h2
    rw [Array.getElem_setIfInBounds (by simpa [oArr] using h2)]
    unfold upd
    by_cases hj : i = j
    · subst hj; simp [oArr]
    · rw [if_neg hj]; simp [oArr, show ¬ j = i from fun e => hj e.symm]
/-- byte j of a list, or 0 -/
def lb (l : List UInt8) (j : Nat) : Nat := (l.getD j 0).toNat
theorem lb_lt (l : List UInt8) (j : Nat) : lb l j < 256 := by unfold lb; exact UInt8.toNat_lt _
theorem lb_zero (l : List UInt8) (j : Nat) (h : l.length ≤ j) : lb l j = 0 := by unfold lb; simp [h]
theorem bval_more {f : Nat → Nat} {n : Nat} (h : ∀ j, n ≤ j → f j = 0) : ∀ m, bval f (n + m) = bval f n
  | 0 => rfl
  | m + 1 => by rw [← Nat.add_assoc, bval, bval_more h m, h _ (by omega)]; simp
theorem bval_lb (l : List UInt8) (h : l.length = 32) : bval (lb l) 32 = leNat l ∧ bval (lb l) 65 = leNat l := by
  have e : bval (lb l) 32 = leNat l := by rw [leNat_bval, h]; rfl
  refine ⟨e, ?_⟩
  rw [show 65 = 32 + 33 by rfl, bval_more (fun j hj => lb_zero l j (by omega)), e]
theorem oArr_copy (l : List UInt8) (h : l.length = 32) : ((lCells l).toArray.toList ++ (oArr fun _ => 0).toList.drop (lCells l).toArray.size).toArray = oArr (lb l) := by
  apply Array.ext
  · simp [oArr, lCells, h]
  · intro j h1 h2
    have hj : j < 65 := by simpa [oArr] using h2
    by_cases hl : j < 32
    · simp [oArr, lCells, h, hl, lb]
    · simp [oArr, lCells, h, hl, List.getElem_append, lb_zero l j (by omega)]
theorem lCells_get (l : List UInt8) (j : Nat) (h : j < l.length) : (lCells l).toArray[j]? = some (.int .u8 (lb l j : Nat)) := by
  simp [lCells, lb, h]
theorem lCells_one (l : List UInt8) : ∀ v ∈ (lCells l).toArray.toList, v.oneCell' = true := fun v hv => by
  simp [lCells] at hv; obtain ⟨_, _, rfl⟩ := hv; rfl
theorem sl_box {w : World} {g : Nat} {T : TypeId} {f : Nat → Nat} (h : Box w g T (oArr f)) (hf : ∀ j, f j < 256) : Sl w (some ⟨g, 0, none⟩) 65 65 ((List.range 65).map fun j => UInt8.ofNat (f j)) := by
  refine ⟨by simp, Nat.le_refl _, by unfold maxLen; omega, (fun h => by cases h), .inr ⟨g, 0, rfl, fun i hi => ?_⟩⟩
  rw [Nat.zero_add, h.cell i (oArr_get f i hi)]
  have := hf i
  simp [hi]
  omega

set_option maxRecDepth 100000 in
set_option maxHeartbeats 20000000 in
theorem mulAdd_any (la ll lc : List UInt8) (w : World) (ha : la.length = 32) (hb : ll.length = 32) (hc : lc.length = 32) : Calls Try.prog 27 #[.agg (lCells la).toArray, .agg (lCells ll).toArray, .agg (lCells lc).toArray] w (fun e w' => e = .returned (.agg (bts_s ((leNat la * leNat ll + leNat lc) % LL))) ∧ Below w.heap.size w w') := by
  have HAS := Lib.hid (show (lCells la).toArray.size = 32 by simp [lCells, ha])
  have HBS := Lib.hid (show (lCells ll).toArray.size = 32 by simp [lCells, hb])
  have HCS := Lib.hid (show (lCells lc).toArray.size = 32 by simp [lCells, hc])
  have HC1 := Lib.hid (lCells_one lc)
  have HCO := Lib.hid (oArr_copy lc hc)
  have HVC := Lib.hid (bval_lb lc hc).2
  have HVA := Lib.hid (bval_lb la ha).1
  have HVB := Lib.hid (bval_lb ll hb).1
  have HZC := Lib.hid (fun j (hj : 0 + 32 ≤ j) => lb_zero lc j (by omega))
  have HIA : Hid (∀ (i : Nat) (w : World), i < 32 → (Instr.index 39 (.agg (lCells la).toArray) (.int .i64 i)).run Try.prog w = .ok (.int .u8 (lb la i : Nat)) w) :=
    Lib.hid fun i w hi => run_index_array _ 5 32 _ .i64 i _ Try.underlying39 hi (lCells_get la i (by omega)) (by simp [go_sem]) (by simp [go_sem])
  have HIB : Hid (∀ (i : Nat) (w : World), i < 32 → (Instr.index 39 (.agg (lCells ll).toArray) (.int .i64 i)).run Try.prog w = .ok (.int .u8 (lb ll i : Nat)) w) :=
    Lib.hid fun i w hi => run_index_array _ 5 32 _ .i64 i _ Try.underlying39 hi (lCells_get ll i (by omega)) (by simp [go_sem]) (by simp [go_sem])
  clear ha hb hc
  obtain ⟨LA, hLA⟩ : ∃ LA, LA = (lCells la).toArray := ⟨_, rfl⟩
  obtain ⟨LB, hLB⟩ : ∃ LB, LB = (lCells ll).toArray := ⟨_, rfl⟩
  obtain ⟨LC, hLC⟩ : ∃ LC, LC = (lCells lc).toArray := ⟨_, rfl⟩
  rw [← hLA] at HAS HIA ⊢
  rw [← hLB] at HBS HIB ⊢
  rw [← hLC] at HCS HC1 HCO ⊢
  clear hLA hLB hLC
  go_enter Try.func27, Try.ntmps27
  go_upto_region 2 with fail
  have hba : Box (((((w.alloc (.cells LA 39)).alloc (.cells LB 39)).alloc (.cells LC 39)).alloc (.cells #[Value.int .u8 0, Value.int .u8 0, Value.int .u8 0, Value.int .u8 0, Value.int .u8 0, Value.int .u8 0, Value.int .u8 0, Value.int .u8 0, Value.int .u8 0, Value.int .u8 0, Value.int .u8 0, Value.int .u8 0, Value.int .u8 0, Value.int .u8 0, Value.int .u8 0, Value.int .u8 0, Value.int .u8 0, Value.int .u8 0, Value.int .u8 0, Value.int .u8 0, Value.int .u8 0, Value.int .u8 0, Value.int .u8 0, Value.int .u8 0, Value.int .u8 0, Value.int .u8 0, Value.int .u8 0, Value.int .u8 0, Value.int .u8 0, Value.int .u8 0, Value.int .u8 0, Value.int .u8 0] 39)).alloc (.cells #[Value.int .u8 0, Value.int .u8 0, Value.int .u8 0, Value.int .u8 0, Value.int .u8 0, Value.int .u8 0, Value.int .u8 0, Value.int .u8 0, Value.int .u8 0, Value.int .u8 0, Value.int .u8 0, Value.int .u8 0, Value.int .u8 0, Value.int .u8 0, Value.int .u8 0, Value.int .u8 0, Value.int .u8 0, Value.int .u8 0, Value.int .u8 0, Value.int .u8 0, Value.int .u8 0, Value.int .u8 0, Value.int .u8 0, Value.int .u8 0, Value.int .u8 0, Value.int .u8 0, Value.int .u8 0, Value.int .u8 0, Value.int .u8 0, Value.int .u8 0, Value.int .u8 0, Value.int .u8 0, Value.int .u8 0, Value.int .u8 0, Value.int .u8 0, Value.int .u8 0, Value.int .u8 0, Value.int .u8 0, Value.int .u8 0, Value.int .u8 0, Value.int .u8 0, Value.int .u8 0, Value.int .u8 0, Value.int .u8 0, Value.int .u8 0, Value.int .u8 0, Value.int .u8 0, Value.int .u8 0, Value.int .u8 0, Value.int .u8 0, Value.int .u8 0, Value.int .u8 0, Value.int .u8 0, Value.int .u8 0, Value.int .u8 0, Value.int .u8 0, Value.int .u8 0, Value.int .u8 0, Value.int .u8 0, Value.int .u8 0, Value.int .u8 0, Value.int .u8 0, Value.int .u8 0, Value.int .u8 0, Value.int .u8 0] 86)) w.heap.size 39 LA := (((((Box.new w 39 LA).alloc (.cells LB 39)).alloc (.cells LC 39)).alloc (.cells #[Value.int .u8 0, Value.int .u8 0, Value.int .u8 0, Value.int .u8 0, Value.int .u8 0, Value.int .u8 0, Value.int .u8 0, Value.int .u8 0, Value.int .u8 0, Value.int .u8 0, Value.int .u8 0, Value.int .u8 0, Value.int .u8 0, Value.int .u8 0, Value.int .u8 0, Value.int .u8 0, Value.int .u8 0, Value.int .u8 0, Value.int .u8 0, Value.int .u8 0, Value.int .u8 0, Value.int .u8 0, Value.int .u8 0, Value.int .u8 0, Value.int .u8 0, Value.int .u8 0, Value.int .u8 0, Value.int .u8 0, Value.int .u8 0, Value.int .u8 0, Value.int .u8 0, Value.int .u8 0] 39)).alloc (.cells #[Value.int .u8 0, Value.int .u8 0, Value.int .u8 0, Value.int .u8 0, Value.int .u8 0, Value.int .u8 0, Value.int .u8 0, Value.int .u8 0, Value.int .u8 0, Value.int .u8 0, Value.int .u8 0, Value.int .u8 0, Value.int .u8 0, Value.int .u8 0, Value.int .u8 0, Value.int .u8 0, Value.int .u8 0, Value.int .u8 0, Value.int .u8 0, Value.int .u8 0, Value.int .u8 0, Value.int .u8 0, Value.int .u8 0, Value.int .u8 0, Value.int .u8 0, Value.int .u8 0, Value.int .u8 0, Value.int .u8 0, Value.int .u8 0, Value.int .u8 0, Value.int .u8 0, Value.int .u8 0, Value.int .u8 0, Value.int .u8 0, Value.int .u8 0, Value.int .u8 0, Value.int .u8 0, Value.int .u8 0, Value.int .u8 0, Value.int .u8 0, Value.int .u8 0, Value.int .u8 0, Value.int .u8 0, Value.int .u8 0, Value.int .u8 0, Value.int .u8 0, Value.int .u8 0, Value.int .u8 0, Value.int .u8 0, Value.int .u8 0, Value.int .u8 0, Value.int .u8 0, Value.int .u8 0, Value.int .u8 0, Value.int .u8 0, Value.int .u8 0, Value.int .u8 0, Value.int .u8 0, Value.int .u8 0, Value.int .u8 0, Value.int .u8 0, Value.int .u8 0, Value.int .u8 0, Value.int .u8 0, Value.int .u8 0] 86))
  have lba : w.heap.size ≤ w.heap.size := by omega
  have hbb : Box (((((w.alloc (.cells LA 39)).alloc (.cells LB 39)).alloc (.cells LC 39)).alloc (.cells #[Value.int .u8 0, Value.int .u8 0, Value.int .u8 0, Value.int .u8 0, Value.int .u8 0, Value.int .u8 0, Value.int .u8 0, Value.int .u8 0, Value.int .u8 0, Value.int .u8 0, Value.int .u8 0, Value.int .u8 0, Value.int .u8 0, Value.int .u8 0, Value.int .u8 0, Value.int .u8 0, Value.int .u8 0, Value.int .u8 0, Value.int .u8 0, Value.int .u8 0, Value.int .u8 0, Value.int .u8 0, Value.int .u8 0, Value.int .u8 0, Value.int .u8 0, Value.int .u8 0, Value.int .u8 0, Value.int .u8 0, Value.int .u8 0, Value.int .u8 0, Value.int .u8 0, Value.int .u8 0] 39)).alloc (.cells #[Value.int .u8 0, Value.int .u8 0, Value.int .u8 0, Value.int .u8 0, Value.int .u8 0, Value.int .u8 0, Value.int .u8 0, Value.int .u8 0, Value.int .u8 0, Value.int .u8 0, Value.int .u8 0, Value.int .u8 0, Value.int .u8 0, Value.int .u8 0, Value.int .u8 0, Value.int .u8 0, Value.int .u8 0, Value.int .u8 0, Value.int .u8 0, Value.int .u8 0, Value.int .u8 0, Value.int .u8 0, Value.int .u8 0, Value.int .u8 0, Value.int .u8 0, Value.int .u8 0, Value.int .u8 0, Value.int .u8 0, Value.int .u8 0, Value.int .u8 0, Value.int .u8 0, Value.int .u8 0, Value.int .u8 0, Value.int .u8 0, Value.int .u8 0, Value.int .u8 0, Value.int .u8 0, Value.int .u8 0, Value.int .u8 0, Value.int .u8 0, Value.int .u8 0, Value.int .u8 0, Value.int .u8 0, Value.int .u8 0, Value.int .u8 0, Value.int .u8 0, Value.int .u8 0, Value.int .u8 0, Value.int .u8 0, Value.int .u8 0, Value.int .u8 0, Value.int .u8 0, Value.int .u8 0, Value.int .u8 0, Value.int .u8 0, Value.int .u8 0, Value.int .u8 0, Value.int .u8 0, Value.int .u8 0, Value.int .u8 0, Value.int .u8 0, Value.int .u8 0, Value.int .u8 0, Value.int .u8 0, Value.int .u8 0] 86)) (w.heap.size + 1) 39 LB := by
    have := ((((Box.new (w.alloc (.cells LA 39)) 39 LB).alloc (.cells LC 39)).alloc (.cells #[Value.int .u8 0, Value.int .u8 0, Value.int .u8 0, Value.int .u8 0, Value.int .u8 0, Value.int .u8 0, Value.int .u8 0, Value.int .u8 0, Value.int .u8 0, Value.int .u8 0, Value.int .u8 0, Value.int .u8 0, Value.int .u8 0, Value.int .u8 0, Value.int .u8 0, Value.int .u8 0, Value.int .u8 0, Value.int .u8 0, Value.int .u8 0, Value.int .u8 0, Value.int .u8 0, Value.int .u8 0, Value.int .u8 0, Value.int .u8 0, Value.int .u8 0, Value.int .u8 0, Value.int .u8 0, Value.int .u8 0, Value.int .u8 0, Value.int .u8 0, Value.int .u8 0, Value.int .u8 0] 39)).alloc (.cells #[Value.int .u8 0, Value.int .u8 0, Value.int .u8 0, Value.int .u8 0, Value.int .u8 0, Value.int .u8 0, Value.int .u8 0, Value.int .u8 0, Value.int .u8 0, Value.int .u8 0, Value.int .u8 0, Value.int .u8 0, Value.int .u8 0, Value.int .u8 0, Value.int .u8 0, Value.int .u8 0, Value.int .u8 0, Value.int .u8 0, Value.int .u8 0, Value.int .u8 0, Value.int .u8 0, Value.int .u8 0, Value.int .u8 0, Value.int .u8 0, Value.int .u8 0, Value.int .u8 0, Value.int .u8 0, Value.int .u8 0, Value.int .u8 0, Value.int .u8 0, Value.int .u8 0, Value.int .u8 0, Value.int .u8 0, Value.int .u8 0, Value.int .u8 0, Value.int .u8 0, Value.int .u8 0, Value.int .u8 0, Value.int .u8 0, Value.int .u8 0, Value.int .u8 0, Value.int .u8 0, Value.int .u8 0, Value.int .u8 0, Value.int .u8 0, Value.int .u8 0, Value.int .u8 0, Value.int .u8 0, Value.int .u8 0, Value.int .u8 0, Value.int .u8 0, Value.int .u8 0, Value.int .u8 0, Value.int .u8 0, Value.int .u8 0, Value.int .u8 0, Value.int .u8 0, Value.int .u8 0, Value.int .u8 0, Value.int .u8 0, Value.int .u8 0, Value.int .u8 0, Value.int .u8 0, Value.int .u8 0, Value.int .u8 0] 86))
    simp only [World.size_alloc] at this
    exact this
  have lbb : w.heap.size ≤ (w.heap.size + 1) := by omega
  have n_ba_bb : w.heap.size ≠ (w.heap.size + 1) := by omega
  have n_bb_ba : (w.heap.size + 1) ≠ w.heap.size := by omega
  have hbc : Box (((((w.alloc (.cells LA 39)).alloc (.cells LB 39)).alloc (.cells LC 39)).alloc (.cells #[Value.int .u8 0, Value.int .u8 0, Value.int .u8 0, Value.int .u8 0, Value.int .u8 0, Value.int .u8 0, Value.int .u8 0, Value.int .u8 0, Value.int .u8 0, Value.int .u8 0, Value.int .u8 0, Value.int .u8 0, Value.int .u8 0, Value.int .u8 0, Value.int .u8 0, Value.int .u8 0, Value.int .u8 0, Value.int .u8 0, Value.int .u8 0, Value.int .u8 0, Value.int .u8 0, Value.int .u8 0, Value.int .u8 0, Value.int .u8 0, Value.int .u8 0, Value.int .u8 0, Value.int .u8 0, Value.int .u8 0, Value.int .u8 0, Value.int .u8 0, Value.int .u8 0, Value.int .u8 0] 39)).alloc (.cells #[Value.int .u8 0, Value.int .u8 0, Value.int .u8 0, Value.int .u8 0, Value.int .u8 0, Value.int .u8 0, Value.int .u8 0, Value.int .u8 0, Value.int .u8 0, Value.int .u8 0, Value.int .u8 0, Value.int .u8 0, Value.int .u8 0, Value.int .u8 0, Value.int .u8 0, Value.int .u8 0, Value.int .u8 0, Value.int .u8 0, Value.int .u8 0, Value.int .u8 0, Value.int .u8 0, Value.int .u8 0, Value.int .u8 0, Value.int .u8 0, Value.int .u8 0, Value.int .u8 0, Value.int .u8 0, Value.int .u8 0, Value.int .u8 0, Value.int .u8 0, Value.int .u8 0, Value.int .u8 0, Value.int .u8 0, Value.int .u8 0, Value.int .u8 0, Value.int .u8 0, Value.int .u8 0, Value.int .u8 0, Value.int .u8 0, Value.int .u8 0, Value.int .u8 0, Value.int .u8 0, Value.int .u8 0, Value.int .u8 0, Value.int .u8 0, Value.int .u8 0, Value.int .u8 0, Value.int .u8 0, Value.int .u8 0, Value.int .u8 0, Value.int .u8 0, Value.int .u8 0, Value.int .u8 0, Value.int .u8 0, Value.int .u8 0, Value.int .u8 0, Value.int .u8 0, Value.int .u8 0, Value.int .u8 0, Value.int .u8 0, Value.int .u8 0, Value.int .u8 0, Value.int .u8 0, Value.int .u8 0, Value.int .u8 0] 86)) (w.heap.size + 2) 39 LC := by
    have := (((Box.new ((w.alloc (.cells LA 39)).alloc (.cells LB 39)) 39 LC).alloc (.cells #[Value.int .u8 0, Value.int .u8 0, Value.int .u8 0, Value.int .u8 0, Value.int .u8 0, Value.int .u8 0, Value.int .u8 0, Value.int .u8 0, Value.int .u8 0, Value.int .u8 0, Value.int .u8 0, Value.int .u8 0, Value.int .u8 0, Value.int .u8 0, Value.int .u8 0, Value.int .u8 0, Value.int .u8 0, Value.int .u8 0, Value.int .u8 0, Value.int .u8 0, Value.int .u8 0, Value.int .u8 0, Value.int .u8 0, Value.int .u8 0, Value.int .u8 0, Value.int .u8 0, Value.int .u8 0, Value.int .u8 0, Value.int .u8 0, Value.int .u8 0, Value.int .u8 0, Value.int .u8 0] 39)).alloc (.cells #[Value.int .u8 0, Value.int .u8 0, Value.int .u8 0, Value.int .u8 0, Value.int .u8 0, Value.int .u8 0, Value.int .u8 0, Value.int .u8 0, Value.int .u8 0, Value.int .u8 0, Value.int .u8 0, Value.int .u8 0, Value.int .u8 0, Value.int .u8 0, Value.int .u8 0, Value.int .u8 0, Value.int .u8 0, Value.int .u8 0, Value.int .u8 0, Value.int .u8 0, Value.int .u8 0, Value.int .u8 0, Value.int .u8 0, Value.int .u8 0, Value.int .u8 0, Value.int .u8 0, Value.int .u8 0, Value.int .u8 0, Value.int .u8 0, Value.int .u8 0, Value.int .u8 0, Value.int .u8 0, Value.int .u8 0, Value.int .u8 0, Value.int .u8 0, Value.int .u8 0, Value.int .u8 0, Value.int .u8 0, Value.int .u8 0, Value.int .u8 0, Value.int .u8 0, Value.int .u8 0, Value.int .u8 0, Value.int .u8 0, Value.int .u8 0, Value.int .u8 0, Value.int .u8 0, Value.int .u8 0, Value.int .u8 0, Value.int .u8 0, Value.int .u8 0, Value.int .u8 0, Value.int .u8 0, Value.int .u8 0, Value.int .u8 0, Value.int .u8 0, Value.int .u8 0, Value.int .u8 0, Value.int .u8 0, Value.int .u8 0, Value.int .u8 0, Value.int .u8 0, Value.int .u8 0, Value.int .u8 0, Value.int .u8 0] 86))
    simp only [World.size_alloc, Nat.add_assoc, Nat.reduceAdd] at this
    exact this
  have lbc : w.heap.size ≤ (w.heap.size + 2) := by omega
  have n_ba_bc : w.heap.size ≠ (w.heap.size + 2) := by omega
  have n_bc_ba : (w.heap.size + 2) ≠ w.heap.size := by omega
  have n_bb_bc : (w.heap.size + 1) ≠ (w.heap.size + 2) := by omega
  have n_bc_bb : (w.heap.size + 2) ≠ (w.heap.size + 1) := by omega
  have hbr : Box (((((w.alloc (.cells LA 39)).alloc (.cells LB 39)).alloc (.cells LC 39)).alloc (.cells #[Value.int .u8 0, Value.int .u8 0, Value.int .u8 0, Value.int .u8 0, Value.int .u8 0, Value.int .u8 0, Value.int .u8 0, Value.int .u8 0, Value.int .u8 0, Value.int .u8 0, Value.int .u8 0, Value.int .u8 0, Value.int .u8 0, Value.int .u8 0, Value.int .u8 0, Value.int .u8 0, Value.int .u8 0, Value.int .u8 0, Value.int .u8 0, Value.int .u8 0, Value.int .u8 0, Value.int .u8 0, Value.int .u8 0, Value.int .u8 0, Value.int .u8 0, Value.int .u8 0, Value.int .u8 0, Value.int .u8 0, Value.int .u8 0, Value.int .u8 0, Value.int .u8 0, Value.int .u8 0] 39)).alloc (.cells #[Value.int .u8 0, Value.int .u8 0, Value.int .u8 0, Value.int .u8 0, Value.int .u8 0, Value.int .u8 0, Value.int .u8 0, Value.int .u8 0, Value.int .u8 0, Value.int .u8 0, Value.int .u8 0, Value.int .u8 0, Value.int .u8 0, Value.int .u8 0, Value.int .u8 0, Value.int .u8 0, Value.int .u8 0, Value.int .u8 0, Value.int .u8 0, Value.int .u8 0, Value.int .u8 0, Value.int .u8 0, Value.int .u8 0, Value.int .u8 0, Value.int .u8 0, Value.int .u8 0, Value.int .u8 0, Value.int .u8 0, Value.int .u8 0, Value.int .u8 0, Value.int .u8 0, Value.int .u8 0, Value.int .u8 0, Value.int .u8 0, Value.int .u8 0, Value.int .u8 0, Value.int .u8 0, Value.int .u8 0, Value.int .u8 0, Value.int .u8 0, Value.int .u8 0, Value.int .u8 0, Value.int .u8 0, Value.int .u8 0, Value.int .u8 0, Value.int .u8 0, Value.int .u8 0, Value.int .u8 0, Value.int .u8 0, Value.int .u8 0, Value.int .u8 0, Value.int .u8 0, Value.int .u8 0, Value.int .u8 0, Value.int .u8 0, Value.int .u8 0, Value.int .u8 0, Value.int .u8 0, Value.int .u8 0, Value.int .u8 0, Value.int .u8 0, Value.int .u8 0, Value.int .u8 0, Value.int .u8 0, Value.int .u8 0] 86)) (w.heap.size + 3) 39 #[Value.int .u8 0, Value.int .u8 0, Value.int .u8 0, Value.int .u8 0, Value.int .u8 0, Value.int .u8 0, Value.int .u8 0, Value.int .u8 0, Value.int .u8 0, Value.int .u8 0, Value.int .u8 0, Value.int .u8 0, Value.int .u8 0, Value.int .u8 0, Value.int .u8 0, Value.int .u8 0, Value.int .u8 0, Value.int .u8 0, Value.int .u8 0, Value.int .u8 0, Value.int .u8 0, Value.int .u8 0, Value.int .u8 0, Value.int .u8 0, Value.int .u8 0, Value.int .u8 0, Value.int .u8 0, Value.int .u8 0, Value.int .u8 0, Value.int .u8 0, Value.int .u8 0, Value.int .u8 0] := by
    have := ((Box.new (((w.alloc (.cells LA 39)).alloc (.cells LB 39)).alloc (.cells LC 39)) 39 #[Value.int .u8 0, Value.int .u8 0, Value.int .u8 0, Value.int .u8 0, Value.int .u8 0, Value.int .u8 0, Value.int .u8 0, Value.int .u8 0, Value.int .u8 0, Value.int .u8 0, Value.int .u8 0, Value.int .u8 0, Value.int .u8 0, Value.int .u8 0, Value.int .u8 0, Value.int .u8 0, Value.int .u8 0, Value.int .u8 0, Value.int .u8 0, Value.int .u8 0, Value.int .u8 0, Value.int .u8 0, Value.int .u8 0, Value.int .u8 0, Value.int .u8 0, Value.int .u8 0, Value.int .u8 0, Value.int .u8 0, Value.int .u8 0, Value.int .u8 0, Value.int .u8 0, Value.int .u8 0]).alloc (.cells #[Value.int .u8 0, Value.int .u8 0, Value.int .u8 0, Value.int .u8 0, Value.int .u8 0, Value.int .u8 0, Value.int .u8 0, Value.int .u8 0, Value.int .u8 0, Value.int .u8 0, Value.int .u8 0, Value.int .u8 0, Value.int .u8 0, Value.int .u8 0, Value.int .u8 0, Value.int .u8 0, Value.int .u8 0, Value.int .u8 0, Value.int .u8 0, Value.int .u8 0, Value.int .u8 0, Value.int .u8 0, Value.int .u8 0, Value.int .u8 0, Value.int .u8 0, Value.int .u8 0, Value.int .u8 0, Value.int .u8 0, Value.int .u8 0, Value.int .u8 0, Value.int .u8 0, Value.int .u8 0, Value.int .u8 0, Value.int .u8 0, Value.int .u8 0, Value.int .u8 0, Value.int .u8 0, Value.int .u8 0, Value.int .u8 0, Value.int .u8 0, Value.int .u8 0, Value.int .u8 0, Value.int .u8 0, Value.int .u8 0, Value.int .u8 0, Value.int .u8 0, Value.int .u8 0, Value.int .u8 0, Value.int .u8 0, Value.int .u8 0, Value.int .u8 0, Value.int .u8 0, Value.int .u8 0, Value.int .u8 0, Value.int .u8 0, Value.int .u8 0, Value.int .u8 0, Value.int .u8 0, Value.int .u8 0, Value.int .u8 0, Value.int .u8 0, Value.int .u8 0, Value.int .u8 0, Value.int .u8 0, Value.int .u8 0] 86))
    simp only [World.size_alloc, Nat.add_assoc, Nat.reduceAdd] at this
    exact this
  have lbr : w.heap.size ≤ (w.heap.size + 3) := by omega
  have n_ba_br : w.heap.size ≠ (w.heap.size + 3) := by omega
  have n_br_ba : (w.heap.size + 3) ≠ w.heap.size := by omega
  have n_bb_br : (w.heap.size + 1) ≠ (w.heap.size + 3) := by omega
  have n_br_bb : (w.heap.size + 3) ≠ (w.heap.size + 1) := by omega
  have n_bc_br : (w.heap.size + 2) ≠ (w.heap.size + 3) := by omega
  have n_br_bc : (w.heap.size + 3) ≠ (w.heap.size + 2) := by omega
  have hbo : Box (((((w.alloc (.cells LA 39)).alloc (.cells LB 39)).alloc (.cells LC 39)).alloc (.cells #[Value.int .u8 0, Value.int .u8 0, Value.int .u8 0, Value.int .u8 0, Value.int .u8 0, Value.int .u8 0, Value.int .u8 0, Value.int .u8 0, Value.int .u8 0, Value.int .u8 0, Value.int .u8 0, Value.int .u8 0, Value.int .u8 0, Value.int .u8 0, Value.int .u8 0, Value.int .u8 0, Value.int .u8 0, Value.int .u8 0, Value.int .u8 0, Value.int .u8 0, Value.int .u8 0, Value.int .u8 0, Value.int .u8 0, Value.int .u8 0, Value.int .u8 0, Value.int .u8 0, Value.int .u8 0, Value.int .u8 0, Value.int .u8 0, Value.int .u8 0, Value.int .u8 0, Value.int .u8 0] 39)).alloc (.cells #[Value.int .u8 0, Value.int .u8 0, Value.int .u8 0, Value.int .u8 0, Value.int .u8 0, Value.int .u8 0, Value.int .u8 0, Value.int .u8 0, Value.int .u8 0, Value.int .u8 0, Value.int .u8 0, Value.int .u8 0, Value.int .u8 0, Value.int .u8 0, Value.int .u8 0, Value.int .u8 0, Value.int .u8 0, Value.int .u8 0, Value.int .u8 0, Value.int .u8 0, Value.int .u8 0, Value.int .u8 0, Value.int .u8 0, Value.int .u8 0, Value.int .u8 0, Value.int .u8 0, Value.int .u8 0, Value.int .u8 0, Value.int .u8 0, Value.int .u8 0, Value.int .u8 0, Value.int .u8 0, Value.int .u8 0, Value.int .u8 0, Value.int .u8 0, Value.int .u8 0, Value.int .u8 0, Value.int .u8 0, Value.int .u8 0, Value.int .u8 0, Value.int .u8 0, Value.int .u8 0, Value.int .u8 0, Value.int .u8 0, Value.int .u8 0, Value.int .u8 0, Value.int .u8 0, Value.int .u8 0, Value.int .u8 0, Value.int .u8 0, Value.int .u8 0, Value.int .u8 0, Value.int .u8 0, Value.int .u8 0, Value.int .u8 0, Value.int .u8 0, Value.int .u8 0, Value.int .u8 0, Value.int .u8 0, Value.int .u8 0, Value.int .u8 0, Value.int .u8 0, Value.int .u8 0, Value.int .u8 0, Value.int .u8 0] 86)) (w.heap.size + 4) 86 #[Value.int .u8 0, Value.int .u8 0, Value.int .u8 0, Value.int .u8 0, Value.int .u8 0, Value.int .u8 0, Value.int .u8 0, Value.int .u8 0, Value.int .u8 0, Value.int .u8 0, Value.int .u8 0, Value.int .u8 0, Value.int .u8 0, Value.int .u8 0, Value.int .u8 0, Value.int .u8 0, Value.int .u8 0, Value.int .u8 0, Value.int .u8 0, Value.int .u8 0, Value.int .u8 0, Value.int .u8 0, Value.int .u8 0, Value.int .u8 0, Value.int .u8 0, Value.int .u8 0, Value.int .u8 0, Value.int .u8 0, Value.int .u8 0, Value.int .u8 0, Value.int .u8 0, Value.int .u8 0, Value.int .u8 0, Value.int .u8 0, Value.int .u8 0, Value.int .u8 0, Value.int .u8 0, Value.int .u8 0, Value.int .u8 0, Value.int .u8 0, Value.int .u8 0, Value.int .u8 0, Value.int .u8 0, Value.int .u8 0, Value.int .u8 0, Value.int .u8 0, Value.int .u8 0, Value.int .u8 0, Value.int .u8 0, Value.int .u8 0, Value.int .u8 0, Value.int .u8 0, Value.int .u8 0, Value.int .u8 0, Value.int .u8 0, Value.int .u8 0, Value.int .u8 0, Value.int .u8 0, Value.int .u8 0, Value.int .u8 0, Value.int .u8 0, Value.int .u8 0, Value.int .u8 0, Value.int .u8 0, Value.int .u8 0] := by
    have := (Box.new ((((w.alloc (.cells LA 39)).alloc (.cells LB 39)).alloc (.cells LC 39)).alloc (.cells #[Value.int .u8 0, Value.int .u8 0, Value.int .u8 0, Value.int .u8 0, Value.int .u8 0, Value.int .u8 0, Value.int .u8 0, Value.int .u8 0, Value.int .u8 0, Value.int .u8 0, Value.int .u8 0, Value.int .u8 0, Value.int .u8 0, Value.int .u8 0, Value.int .u8 0, Value.int .u8 0, Value.int .u8 0, Value.int .u8 0, Value.int .u8 0, Value.int .u8 0, Value.int .u8 0, Value.int .u8 0, Value.int .u8 0, Value.int .u8 0, Value.int .u8 0, Value.int .u8 0, Value.int .u8 0, Value.int .u8 0, Value.int .u8 0, Value.int .u8 0, Value.int .u8 0, Value.int .u8 0] 39)) 86 #[Value.int .u8 0, Value.int .u8 0, Value.int .u8 0, Value.int .u8 0, Value.int .u8 0, Value.int .u8 0, Value.int .u8 0, Value.int .u8 0, Value.int .u8 0, Value.int .u8 0, Value.int .u8 0, Value.int .u8 0, Value.int .u8 0, Value.int .u8 0, Value.int .u8 0, Value.int .u8 0, Value.int .u8 0, Value.int .u8 0, Value.int .u8 0, Value.int .u8 0, Value.int .u8 0, Value.int .u8 0, Value.int .u8 0, Value.int .u8 0, Value.int .u8 0, Value.int .u8 0, Value.int .u8 0, Value.int .u8 0, Value.int .u8 0, Value.int .u8 0, Value.int .u8 0, Value.int .u8 0, Value.int .u8 0, Value.int .u8 0, Value.int .u8 0, Value.int .u8 0, Value.int .u8 0, Value.int .u8 0, Value.int .u8 0, Value.int .u8 0, Value.int .u8 0, Value.int .u8 0, Value.int .u8 0, Value.int .u8 0, Value.int .u8 0, Value.int .u8 0, Value.int .u8 0, Value.int .u8 0, Value.int .u8 0, Value.int .u8 0, Value.int .u8 0, Value.int .u8 0, Value.int .u8 0, Value.int .u8 0, Value.int .u8 0, Value.int .u8 0, Value.int .u8 0, Value.int .u8 0, Value.int .u8 0, Value.int .u8 0, Value.int .u8 0, Value.int .u8 0, Value.int .u8 0, Value.int .u8 0, Value.int .u8 0])
    simp only [World.size_alloc, Nat.add_assoc, Nat.reduceAdd] at this
    exact this
  have lbo : w.heap.size ≤ (w.heap.size + 4) := by omega
  have n_ba_bo : w.heap.size ≠ (w.heap.size + 4) := by omega
  have n_bo_ba : (w.heap.size + 4) ≠ w.heap.size := by omega
  have n_bb_bo : (w.heap.size + 1) ≠ (w.heap.size + 4) := by omega
  have n_bo_bb : (w.heap.size + 4) ≠ (w.heap.size + 1) := by omega
  have n_bc_bo : (w.heap.size + 2) ≠ (w.heap.size + 4) := by omega
  have n_bo_bc : (w.heap.size + 4) ≠ (w.heap.size + 2) := by omega
  have n_br_bo : (w.heap.size + 3) ≠ (w.heap.size + 4) := by omega
  have n_bo_br : (w.heap.size + 4) ≠ (w.heap.size + 3) := by omega
  have hB : Below w.heap.size w (((((w.alloc (.cells LA 39)).alloc (.cells LB 39)).alloc (.cells LC 39)).alloc (.cells #[Value.int .u8 0, Value.int .u8 0, Value.int .u8 0, Value.int .u8 0, Value.int .u8 0, Value.int .u8 0, Value.int .u8 0, Value.int .u8 0, Value.int .u8 0, Value.int .u8 0, Value.int .u8 0, Value.int .u8 0, Value.int .u8 0, Value.int .u8 0, Value.int .u8 0, Value.int .u8 0, Value.int .u8 0, Value.int .u8 0, Value.int .u8 0, Value.int .u8 0, Value.int .u8 0, Value.int .u8 0, Value.int .u8 0, Value.int .u8 0, Value.int .u8 0, Value.int .u8 0, Value.int .u8 0, Value.int .u8 0, Value.int .u8 0, Value.int .u8 0, Value.int .u8 0, Value.int .u8 0] 39)).alloc (.cells #[Value.int .u8 0, Value.int .u8 0, Value.int .u8 0, Value.int .u8 0, Value.int .u8 0, Value.int .u8 0, Value.int .u8 0, Value.int .u8 0, Value.int .u8 0, Value.int .u8 0, Value.int .u8 0, Value.int .u8 0, Value.int .u8 0, Value.int .u8 0, Value.int .u8 0, Value.int .u8 0, Value.int .u8 0, Value.int .u8 0, Value.int .u8 0, Value.int .u8 0, Value.int .u8 0, Value.int .u8 0, Value.int .u8 0, Value.int .u8 0, Value.int .u8 0, Value.int .u8 0, Value.int .u8 0, Value.int .u8 0, Value.int .u8 0, Value.int .u8 0, Value.int .u8 0, Value.int .u8 0, Value.int .u8 0, Value.int .u8 0, Value.int .u8 0, Value.int .u8 0, Value.int .u8 0, Value.int .u8 0, Value.int .u8 0, Value.int .u8 0, Value.int .u8 0, Value.int .u8 0, Value.int .u8 0, Value.int .u8 0, Value.int .u8 0, Value.int .u8 0, Value.int .u8 0, Value.int .u8 0, Value.int .u8 0, Value.int .u8 0, Value.int .u8 0, Value.int .u8 0, Value.int .u8 0, Value.int .u8 0, Value.int .u8 0, Value.int .u8 0, Value.int .u8 0, Value.int .u8 0, Value.int .u8 0, Value.int .u8 0, Value.int .u8 0, Value.int .u8 0, Value.int .u8 0, Value.int .u8 0, Value.int .u8 0] 86)) := ((((((Below.refl w.heap.size w).alloc (by simp; try omega) (.cells LA 39)).alloc (by simp; try omega) (.cells LB 39)).alloc (by simp; try omega) (.cells LC 39)).alloc (by simp; try omega) (.cells #[Value.int .u8 0, Value.int .u8 0, Value.int .u8 0, Value.int .u8 0, Value.int .u8 0, Value.int .u8 0, Value.int .u8 0, Value.int .u8 0, Value.int .u8 0, Value.int .u8 0, Value.int .u8 0, Value.int .u8 0, Value.int .u8 0, Value.int .u8 0, Value.int .u8 0, Value.int .u8 0, Value.int .u8 0, Value.int .u8 0, Value.int .u8 0, Value.int .u8 0, Value.int .u8 0, Value.int .u8 0, Value.int .u8 0, Value.int .u8 0, Value.int .u8 0, Value.int .u8 0, Value.int .u8 0, Value.int .u8 0, Value.int .u8 0, Value.int .u8 0, Value.int .u8 0, Value.int .u8 0] 39)).alloc (by simp; try omega) (.cells #[Value.int .u8 0, Value.int .u8 0, Value.int .u8 0, Value.int .u8 0, Value.int .u8 0, Value.int .u8 0, Value.int .u8 0, Value.int .u8 0, Value.int .u8 0, Value.int .u8 0, Value.int .u8 0, Value.int .u8 0, Value.int .u8 0, Value.int .u8 0, Value.int .u8 0, Value.int .u8 0, Value.int .u8 0, Value.int .u8 0, Value.int .u8 0, Value.int .u8 0, Value.int .u8 0, Value.int .u8 0, Value.int .u8 0, Value.int .u8 0, Value.int .u8 0, Value.int .u8 0, Value.int .u8 0, Value.int .u8 0, Value.int .u8 0, Value.int .u8 0, Value.int .u8 0, Value.int .u8 0, Value.int .u8 0, Value.int .u8 0, Value.int .u8 0, Value.int .u8 0, Value.int .u8 0, Value.int .u8 0, Value.int .u8 0, Value.int .u8 0, Value.int .u8 0, Value.int .u8 0, Value.int .u8 0, Value.int .u8 0, Value.int .u8 0, Value.int .u8 0, Value.int .u8 0, Value.int .u8 0, Value.int .u8 0, Value.int .u8 0, Value.int .u8 0, Value.int .u8 0, Value.int .u8 0, Value.int .u8 0, Value.int .u8 0, Value.int .u8 0, Value.int .u8 0, Value.int .u8 0, Value.int .u8 0, Value.int .u8 0, Value.int .u8 0, Value.int .u8 0, Value.int .u8 0, Value.int .u8 0, Value.int .u8 0] 86))
  have hS := hB.size
  change Code.wp _ _ _ _ (((((w.alloc (.cells LA 39)).alloc (.cells LB 39)).alloc (.cells LC 39)).alloc (.cells #[Value.int .u8 0, Value.int .u8 0, Value.int .u8 0, Value.int .u8 0, Value.int .u8 0, Value.int .u8 0, Value.int .u8 0, Value.int .u8 0, Value.int .u8 0, Value.int .u8 0, Value.int .u8 0, Value.int .u8 0, Value.int .u8 0, Value.int .u8 0, Value.int .u8 0, Value.int .u8 0, Value.int .u8 0, Value.int .u8 0, Value.int .u8 0, Value.int .u8 0, Value.int .u8 0, Value.int .u8 0, Value.int .u8 0, Value.int .u8 0, Value.int .u8 0, Value.int .u8 0, Value.int .u8 0, Value.int .u8 0, Value.int .u8 0, Value.int .u8 0, Value.int .u8 0, Value.int .u8 0] 39)).alloc (.cells #[Value.int .u8 0, Value.int .u8 0, Value.int .u8 0, Value.int .u8 0, Value.int .u8 0, Value.int .u8 0, Value.int .u8 0, Value.int .u8 0, Value.int .u8 0, Value.int .u8 0, Value.int .u8 0, Value.int .u8 0, Value.int .u8 0, Value.int .u8 0, Value.int .u8 0, Value.int .u8 0, Value.int .u8 0, Value.int .u8 0, Value.int .u8 0, Value.int .u8 0, Value.int .u8 0, Value.int .u8 0, Value.int .u8 0, Value.int .u8 0, Value.int .u8 0, Value.int .u8 0, Value.int .u8 0, Value.int .u8 0, Value.int .u8 0, Value.int .u8 0, Value.int .u8 0, Value.int .u8 0, Value.int .u8 0, Value.int .u8 0, Value.int .u8 0, Value.int .u8 0, Value.int .u8 0, Value.int .u8 0, Value.int .u8 0, Value.int .u8 0, Value.int .u8 0, Value.int .u8 0, Value.int .u8 0, Value.int .u8 0, Value.int .u8 0, Value.int .u8 0, Value.int .u8 0, Value.int .u8 0, Value.int .u8 0, Value.int .u8 0, Value.int .u8 0, Value.int .u8 0, Value.int .u8 0, Value.int .u8 0, Value.int .u8 0, Value.int .u8 0, Value.int .u8 0, Value.int .u8 0, Value.int .u8 0, Value.int .u8 0, Value.int .u8 0, Value.int .u8 0, Value.int .u8 0, Value.int .u8 0, Value.int .u8 0] 86))
  generalize (((((w.alloc (.cells LA 39)).alloc (.cells LB 39)).alloc (.cells LC 39)).alloc (.cells #[Value.int .u8 0, Value.int .u8 0, Value.int .u8 0, Value.int .u8 0, Value.int .u8 0, Value.int .u8 0, Value.int .u8 0, Value.int .u8 0, Value.int .u8 0, Value.int .u8 0, Value.int .u8 0, Value.int .u8 0, Value.int .u8 0, Value.int .u8 0, Value.int .u8 0, Value.int .u8 0, Value.int .u8 0, Value.int .u8 0, Value.int .u8 0, Value.int .u8 0, Value.int .u8 0, Value.int .u8 0, Value.int .u8 0, Value.int .u8 0, Value.int .u8 0, Value.int .u8 0, Value.int .u8 0, Value.int .u8 0, Value.int .u8 0, Value.int .u8 0, Value.int .u8 0, Value.int .u8 0] 39)).alloc (.cells #[Value.int .u8 0, Value.int .u8 0, Value.int .u8 0, Value.int .u8 0, Value.int .u8 0, Value.int .u8 0, Value.int .u8 0, Value.int .u8 0, Value.int .u8 0, Value.int .u8 0, Value.int .u8 0, Value.int .u8 0, Value.int .u8 0, Value.int .u8 0, Value.int .u8 0, Value.int .u8 0, Value.int .u8 0, Value.int .u8 0, Value.int .u8 0, Value.int .u8 0, Value.int .u8 0, Value.int .u8 0, Value.int .u8 0, Value.int .u8 0, Value.int .u8 0, Value.int .u8 0, Value.int .u8 0, Value.int .u8 0, Value.int .u8 0, Value.int .u8 0, Value.int .u8 0, Value.int .u8 0, Value.int .u8 0, Value.int .u8 0, Value.int .u8 0, Value.int .u8 0, Value.int .u8 0, Value.int .u8 0, Value.int .u8 0, Value.int .u8 0, Value.int .u8 0, Value.int .u8 0, Value.int .u8 0, Value.int .u8 0, Value.int .u8 0, Value.int .u8 0, Value.int .u8 0, Value.int .u8 0, Value.int .u8 0, Value.int .u8 0, Value.int .u8 0, Value.int .u8 0, Value.int .u8 0, Value.int .u8 0, Value.int .u8 0, Value.int .u8 0, Value.int .u8 0, Value.int .u8 0, Value.int .u8 0, Value.int .u8 0, Value.int .u8 0, Value.int .u8 0, Value.int .u8 0, Value.int .u8 0, Value.int .u8 0] 86)) = v0 at *
  have e32 : (lCells (leBytes 0 32)).toArray = #[Value.int .u8 0, Value.int .u8 0, Value.int .u8 0, Value.int .u8 0, Value.int .u8 0, Value.int .u8 0, Value.int .u8 0, Value.int .u8 0, Value.int .u8 0, Value.int .u8 0, Value.int .u8 0, Value.int .u8 0, Value.int .u8 0, Value.int .u8 0, Value.int .u8 0, Value.int .u8 0, Value.int .u8 0, Value.int .u8 0, Value.int .u8 0, Value.int .u8 0, Value.int .u8 0, Value.int .u8 0, Value.int .u8 0, Value.int .u8 0, Value.int .u8 0, Value.int .u8 0, Value.int .u8 0, Value.int .u8 0, Value.int .u8 0, Value.int .u8 0, Value.int .u8 0, Value.int .u8 0] := by kernel_rfl
  have e65 : oArr (fun _ => 0) = #[Value.int .u8 0, Value.int .u8 0, Value.int .u8 0, Value.int .u8 0, Value.int .u8 0, Value.int .u8 0, Value.int .u8 0, Value.int .u8 0, Value.int .u8 0, Value.int .u8 0, Value.int .u8 0, Value.int .u8 0, Value.int .u8 0, Value.int .u8 0, Value.int .u8 0, Value.int .u8 0, Value.int .u8 0, Value.int .u8 0, Value.int .u8 0, Value.int .u8 0, Value.int .u8 0, Value.int .u8 0, Value.int .u8 0, Value.int .u8 0, Value.int .u8 0, Value.int .u8 0, Value.int .u8 0, Value.int .u8 0, Value.int .u8 0, Value.int .u8 0, Value.int .u8 0, Value.int .u8 0, Value.int .u8 0, Value.int .u8 0, Value.int .u8 0, Value.int .u8 0, Value.int .u8 0, Value.int .u8 0, Value.int .u8 0, Value.int .u8 0, Value.int .u8 0, Value.int .u8 0, Value.int .u8 0, Value.int .u8 0, Value.int .u8 0, Value.int .u8 0, Value.int .u8 0, Value.int .u8 0, Value.int .u8 0, Value.int .u8 0, Value.int .u8 0, Value.int .u8 0, Value.int .u8 0, Value.int .u8 0, Value.int .u8 0, Value.int .u8 0, Value.int .u8 0, Value.int .u8 0, Value.int .u8 0, Value.int .u8 0, Value.int .u8 0, Value.int .u8 0, Value.int .u8 0, Value.int .u8 0, Value.int .u8 0] := by kernel_rfl
  rw [← e32] at hbr
  rw [← e65] at hbo
  clear e32 e65
  obtain ⟨N, hN⟩ : ∃ N, N = (lCells (leBytes 0 32)).toArray := ⟨_, rfl⟩
  rw [← hN] at hbr
  have HNS := Lib.hid (show N.size = 32 by rw [hN]; simp [lCells, leBytes])
  clear hN
  refine wp_region_U (w := v0) (fun _ : World => True) rfl trivial ?_
  have hKS : Keeps (fun _ : World => True) := fun _ _ _ _ => trivial
  refine wpU_val 0 hKS rfl (by kernel_rfl) (by kernel_rfl) (by kernel_rfl) rfl (fun _ _ _ _ h => h) (.slice (some ⟨w.heap.size + 4, 0, none⟩) 65 65) (fun w' h => by simp [go_sem]) ?_
  simp only [Act.put, List.setIfInBounds_toArray, List.set_cons_zero, List.set_cons_succ]
  refine wpU_val 1 hKS rfl (by kernel_rfl) (by kernel_rfl) (by kernel_rfl) rfl (fun _ _ _ _ h => h) (.slice (some ⟨w.heap.size + 2, 0, none⟩) 32 32) (fun w' h => by simp [go_sem]) ?_
  simp only [Act.put, List.setIfInBounds_toArray, List.set_cons_zero, List.set_cons_succ]
  refine wpU_copy_box 2 rfl (by kernel_rfl) rfl (.tmp 16) (.tmp 17) 22 5 rfl hbo.drew hbc.drew (n := 65) (c := 65) (c' := 32) (by simp [go_sem]) (by simp [go_sem, HCS.out]) Try.underlying22 (by kernel_rfl) (by rw [HCS.out]; omega) (by rw [oArr_size]; omega) (HC1.out) ?_
  intro w1 w2 b1 s1 hbo2 st2
  refine ⟨trivial, ?_⟩
  rw [HCO.out] at hbo2
  simp only [Act.put, List.setIfInBounds_toArray, List.set_cons_zero, List.set_cons_succ]
  refine wpU_done (by kernel_rfl) ?_
  intro v1 b3 s3
  replace hbo := hbo2.after b3
  replace hba := (st2.box (hba.drew.after b1) n_ba_bo).after b3
  replace hbb := (st2.box (hbb.drew.after b1) n_bb_bo).after b3
  replace hbr := (st2.box (hbr.drew.after b1) n_br_bo).after b3
  replace hB := (st2.below w.heap.size w lbo (hB.drew.trans (b1.mono hB.size))).trans (b3.mono (by rw [st2.size]; exact Nat.le_trans hB.size b1.size))
  clear b1 s1 b3 s3 st2 hbo2 hKS hbc hS
  go_upto_region 3 with fail
  go_step
  refine wpList_load_box rfl 39 _ rfl hba (by rfl) Try.underlying39 rfl (by rw [HAS.out]; kernel_rfl) ?_
  simp only [Act.put, List.setIfInBounds_toArray, List.set_cons_zero, List.set_cons_succ]
  refine wpList_value rfl (.int .i64 0) (by simp [go_sem]) ?_
  simp only [Act.put, List.setIfInBounds_toArray, List.set_cons_zero, List.set_cons_succ]
  clear hba
  go_wp2_with fail
  go_loopw [20] (fun iv wr => ∃ i : Nat, i ≤ 32 ∧ iv = .int .i64 i ∧ ∃ o, Box wr (w.heap.size + 4) 86 (oArr o) ∧ bval o 65 = leNat lc + bval (lb la) i * leNat ll ∧ (∀ j, o j < 256) ∧ (∀ j, i + 32 ≤ j → o j = 0) ∧ Box wr (w.heap.size + 1) 39 LB ∧ Box wr (w.heap.size + 3) 39 N ∧ Below w.heap.size w wr) (fun i _ => 32 - (intOf i).toNat)
  case atStart => exact ⟨0, by omega, rfl, lb lc, hbo, by rw [HVC.out]; simp [bval], fun j => lb_lt _ _, HZC.out, hbb, hbr, hB⟩
  case round =>
    obtain ⟨wa, rfl⟩ : ∃ wa : World, wa = wr := ⟨_, rfl⟩
    obtain ⟨i, hi, rfl, o, hO, hv, hby, htop, hb, hr, hB2⟩ := hrel
    clear hbo hbb hbr hB
    by_cases hlt : i < 32
    · have hix := fun w => HIA.out i w hlt
      have HVS := Lib.hid (show bval (lb la) (i + 1) = bval (lb la) i + lb la i * 256 ^ i from rfl)
      have hx := lb_lt la i
      have HM := Lib.hid (MulS.start (N := leNat lc + bval (lb la) i * leNat ll) (x := lb la i) (i := i) hv hby htop)
      obtain ⟨x, hxe⟩ : ∃ x, x = lb la i := ⟨_, rfl⟩
      rw [← hxe] at hix hx HVS HM
      obtain ⟨M, hMe⟩ : ∃ M, M = leNat lc + bval (lb la) i * leNat ll := ⟨_, rfl⟩
      rw [← hMe] at HM
      have HME := Lib.hid hMe
      clear hxe hMe hv hby htop
      have b5 : (0 : Int) ≤ (i : Int) := by omega
      have b6 : (i : Int) < 32 := by omega
      have b7 : IntKind.i64.wrap (i : Int) = (i : Int) := by rw [IntKind.wrap_i64]; omega
      go_upto_region 7 with fail
      clear hix
      go_step
      refine wpList_load_box rfl 39 _ rfl hb (by rfl) Try.underlying39 rfl (by rw [HBS.out]; kernel_rfl) ?_
      simp only [Act.put, List.setIfInBounds_toArray, List.set_cons_zero, List.set_cons_succ]
      refine wpList_value rfl (.int .i64 0) (by simp [go_sem]) ?_
      simp only [Act.put, List.setIfInBounds_toArray, List.set_cons_zero, List.set_cons_succ]
      go_wp2_with fail
      go_loopw [10, 25] (fun cv kv wr => ∃ k c : Nat, k ≤ 32 ∧ cv = .int .i64 c ∧ kv = .int .i64 k ∧ ∃ o, Box wr (w.heap.size + 4) 86 (oArr o) ∧ MulS M x (bval (lb ll) k) o i k c ∧ Box wr (w.heap.size + 1) 39 LB ∧ Box wr (w.heap.size + 3) 39 N ∧ Below w.heap.size w wr) (fun _ i _ => 32 - (intOf i).toNat)
      case atStart => exact ⟨0, 0, by omega, rfl, rfl, o, hO, HM.out, hb, hr, hB2⟩
      case round =>
        obtain ⟨wb, rfl⟩ : ∃ wb : World, wb = wr := ⟨_, rfl⟩
        obtain ⟨k, c, hk, rfl, rfl, o2, hO2, hm, hb2, hr2, hB3⟩ := hrel
        clear hO hb hr hB2 HM
        by_cases hlt2 : k < 32
        · have hiy := fun w => HIB.out k w hlt2
          have HVK := Lib.hid (show bval (lb ll) (k + 1) = bval (lb ll) k + lb ll k * 256 ^ k from rfl)
          have hy := lb_lt ll k
          obtain ⟨y, hye⟩ : ∃ y, y = lb ll k := ⟨_, rfl⟩
          rw [← hye] at hiy hy HVK
          obtain ⟨hn, hm2⟩ := hm.step hlt2 hlt hx hy
          rw [← HVK.out] at hm2
          have hc := hm.car
          have ho := hm.byte (i + k)
          have hxy : x * y ≤ 255 * 255 := Nat.mul_le_mul (by omega) (by omega)
          have go := hO2.cell (i + k) (oArr_get _ (i + k) (by omega))
          have fo := hO2.frozen (i + k)
          obtain ⟨v, hv⟩ : ∃ v, v = o2 (i + k) := ⟨_, rfl⟩
          obtain ⟨p, hp⟩ : ∃ p, p = x * y := ⟨_, rfl⟩
          obtain ⟨n, hne⟩ : ∃ n, n = p + v + c := ⟨_, rfl⟩
          rw [← hv] at hn hm2 ho go
          rw [← hp] at hn hm2 hxy
          rw [← hne] at hn hm2
          have m1 : (x : Int) * (y : Int) = (p : Int) := by rw [hp]; simp
          have m2 : (p : Int) + (v : Int) + (c : Int) = (n : Int) := by omega
          have m3 : (i : Int) + (k : Int) = ((i + k : Nat) : Int) := by omega
          obtain ⟨q, hq⟩ : ∃ q, q = n / 256 := ⟨_, rfl⟩
          obtain ⟨r, hr⟩ : ∃ r, r = n % 256 := ⟨_, rfl⟩
          rw [← hq, ← hr] at hm2
          have m4 : (n : Int) % 256 = (r : Int) := by omega
          have m5 : (n : Int) / 256 = (q : Int) := by omega
          have hqb : q < 256 := by omega
          clear hq hr
          have HMM := Lib.hid hm2
          clear hm hm2 hv hp hye
          obtain ⟨s, hs⟩ : ∃ s, s = i + k := ⟨_, rfl⟩
          rw [← hs] at go fo m3
          have hs65 : s < 65 := by omega
          have b8 : (0 : Int) ≤ (k : Int) := by omega
          have b9 : (k : Int) < 32 := by omega
          have b10 : (0 : Int) ≤ (s : Int) := by omega
          have b11 : (s : Int) < 65 := by omega
          have HS := Lib.hid hs
          clear hs hne
          go_wp2_with fail
          refine ⟨⟨k + 1, q, by omega, by go_num, by go_num, upd o2 (i + k) r, ?_, HMM.out, hb2.far _ _ (by simp), hr2.far _ _ (by simp), hB3.setCell (by simp; try omega) _⟩, by simp [intOf]; omega⟩
          have h1 := hO2.set s (.int .u8 (r : Nat))
          rw [oArr_set] at h1
          rw [← HS.out]
          exact h1
        · obtain rfl : k = 32 := by omega
          rw [HVB.out] at hm
          obtain ⟨h0, hl1, hl2, hl3⟩ := hm.last hlt
          have hc := hm.car
          have go := hO2.cell (i + 32) (oArr_get _ (i + 32) (by omega))
          rw [h0] at go
          have fo := hO2.frozen (i + 32)
          have HNX : Hid (bval (upd o2 (i + 32) c) 65 = leNat lc + bval (lb la) (i + 1) * leNat ll) := Lib.hid (by rw [hl1, HME.out, HVS.out, Nat.add_mul, Nat.mul_assoc, Nat.add_assoc])
          have HBY := Lib.hid hl2
          have HTO := Lib.hid hl3
          have HID : Hid (c = 0 → oArr o2 = oArr (upd o2 (i + 32) c)) := Lib.hid fun e => by rw [e, ← h0, upd_id]
          clear hm h0 hl1 hl2 hl3
          have HU := Lib.hid (oArr_set o2 (i + 32) c)
          obtain ⟨O3, hO3⟩ : ∃ O3, O3 = oArr (upd o2 (i + 32) c) := ⟨_, rfl⟩
          obtain ⟨O2, hO2e⟩ : ∃ O2, O2 = oArr o2 := ⟨_, rfl⟩
          rw [← hO3] at HID HU
          rw [← hO2e] at hO2 HID HU
          have HO3 := Lib.hid hO3
          clear hO3 hO2e
          obtain ⟨s, hs⟩ : ∃ s, s = i + 32 := ⟨_, rfl⟩
          rw [← hs] at go fo HU
          have m3 : (i : Int) + 32 = (s : Int) := by omega
          have b10 : (0 : Int) ≤ (s : Int) := by omega
          have b11 : (s : Int) < 65 := by omega
          clear hs
          have m4 : (c : Int) % 256 = (c : Int) := by omega
          have m5 : (c : Int) / 256 = 0 := by omega
          go_wp2_with fail
          go_loopw [10, 14] (fun cv kv wr => (∃ c' k' : Nat, cv = .int .i64 c' ∧ kv = .int .i64 k' ∧ ((c' = c ∧ k' = s ∧ Box wr (w.heap.size + 4) 86 O2 ∧ wr.cell? ⟨w.heap.size + 4, s, none⟩ = some (.int .u8 0) ∧ wr.frozen? ⟨w.heap.size + 4, s, none⟩ = false) ∨ (c' = 0 ∧ k' = s + 1 ∧ Box wr (w.heap.size + 4) 86 O3))) ∧ Box wr (w.heap.size + 1) 39 LB ∧ Box wr (w.heap.size + 3) 39 N ∧ Below w.heap.size w wr) (fun cv _ _ => (intOf cv).toNat)
          case atStart => exact ⟨⟨c, s, rfl, by go_num, .inl ⟨rfl, rfl, hO2, go, fo⟩⟩, hb2, hr2, hB3⟩
          case round =>
            obtain ⟨wc, rfl⟩ : ∃ wc : World, wc = wr := ⟨_, rfl⟩
            obtain ⟨⟨c', k', rfl, rfl, hor⟩, hb4, hr4, hB4⟩ := hrel
            clear hO2 go fo hb2 hr2 hB3
            rcases hor with ⟨rfl, rfl, hO4, go, fo⟩ | ⟨rfl, rfl, hO4⟩
            · by_cases h0 : c' = 0
              · have e := HID.out h0
                subst h0
                rw [e, HO3.out] at hO4
                go_wp2_with fail
                exact ⟨⟨i + 1, by omega, by go_num, _, hO4, HNX.out, HBY.out, HTO.out, hb4, hr4, hB4⟩, by simp [intOf]; omega⟩
              · have hpos : 0 < c' := by omega
                go_wp2_with fail
                refine ⟨⟨⟨0, k' + 1, by go_num, by go_num, .inr ⟨rfl, rfl, ?_⟩⟩, hb4.far _ _ (by simp), hr4.far _ _ (by simp), hB4.setCell (by simp; try omega) _⟩, by simp [intOf]; omega⟩
                have h1 := hO4.set k' (.int .u8 (c' : Nat))
                rw [HU.out] at h1
                exact h1
            · rw [HO3.out] at hO4
              go_wp2_with fail
              exact ⟨⟨i + 1, by omega, by go_num, _, hO4, HNX.out, HBY.out, HTO.out, hb4, hr4, hB4⟩, by simp [intOf]; omega⟩
    · obtain rfl : i = 32 := by omega
      rw [HVA.out] at hv
      have hmul : leNat ((List.range 65).map fun j => UInt8.ofNat (o j)) = leNat la * leNat ll + leNat lc := by rw [leNat_map o hby, hv, Nat.add_comm]
      have HR := Lib.hid (fun (w' : World) (h : Box w' (w.heap.size + 4) 86 (oArr o)) => reduce_any (some ⟨w.heap.size + 4, 0, none⟩) 65 65 _ w' (sl_box h hby))
      rw [hmul] at HR
      obtain ⟨G, hG⟩ : ∃ G, G = bts_s ((leNat la * leNat ll + leNat lc) % LL) := ⟨_, rfl⟩
      rw [← hG] at HR
      have HGS := Lib.hid (show G.size = 32 by rw [hG]; simp [bts_s, lCells, leBytes])
      have HG1 := Lib.hid (show G.all (·.oneCell') = true by rw [hG]; exact all_oneCell_toArray (fun v hv => by simp only [lCells, List.mem_map] at hv; obtain ⟨_, _, rfl⟩ := hv; rfl))
      have HG := Lib.hid hG
      clear hG hmul hv hby htop
      go_upto_region 19 with fail
      go_step
      refine wpList_value rfl (.slice (some ⟨w.heap.size + 4, 0, none⟩) 65 65) (by simp [go_sem]) ?_
      simp only [Act.put, List.setIfInBounds_toArray, List.set_cons_zero, List.set_cons_succ]
      refine wpList_made_call rfl 25 #[.slice (some ⟨w.heap.size + 4, 0, none⟩) 65 65] (by simp [go_sem]) _ (HR.out _ hO) ?_
      intro v1 bv1
      simp only [Act.put, List.setIfInBounds_toArray, List.set_cons_zero, List.set_cons_succ]
      refine wpList_store_box (cells := G) rfl 39 _ _ rfl (hr.after bv1) (by rfl) (by rfl) (by rw [HNS.out, HGS.out]) (by rw [HGS.out]; kernel_rfl) HG1.out ?_
      intro w4 hR4 hst
      have hB4 := hst.below w.heap.size w (by omega) (hB2.trans (bv1.mono hB2.size))
      simp only [Act.put]
      clear hst hO hb hr hB2 bv1
      go_wp2_with fail
      exact bodyPost_ret (v := .agg G) (box_result rfl _ _ (by rfl) hR4 Try.underlying39 rfl (by rw [HGS.out]; kernel_rfl)) rfl ⟨by rw [HG.out], hB4⟩
end Go.Proofs.Ytpkoniebbkkmjaa

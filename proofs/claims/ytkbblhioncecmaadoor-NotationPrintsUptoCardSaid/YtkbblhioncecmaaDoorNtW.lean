/- Notation: WriteByte: what it leaves alone. -/
import Derived.Test.YtkbblhioncecmaaDoorNtV
namespace Go.Proofs.YtkbblhioncecmaaDoor
open Go.RowKit
set_option linter.unusedVariables false
set_option linter.unusedSimpArgs false

theorem sl_one (w : World) (T : TypeId) (c : UInt8) : Sl (w.alloc (.cells #[.int .u8 (c.toNat : Int)] T)) (some ⟨w.heap.size, 0, none⟩) 1 1 [c] := by
  refine ⟨rfl, Nat.le_refl _, by unfold maxLen; omega, (fun h => by cases h), .inr ⟨w.heap.size, 0, rfl, fun j hj => ?_⟩⟩
  obtain rfl : j = 0 := by omega
  exact (Box.new w T #[.int .u8 (c.toNat : Int)]).cell 0 rfl
set_option maxHeartbeats 2000000 in
set_option maxRecDepth 100000 in
theorem byteK (B b : Nat) (l : List UInt8) (c : UInt8) (w : World) (h : Bl B b l w) (hlen : l.length + 1 ≤ 140737488355328) (hBw : B ≤ w.heap.size) :
    Calls Tryd.prog 56 #[.pointer (some ⟨b, 0, none⟩), .int .u8 (c.toNat : Int)] w (RetK B b .nilIface (l ++ [c]) w) := by
  go_enter Tryd.func56, Tryd.ntmps56
  go_wp2_with (go_at_call 78; refine (copyCheckK B b l _ h).mono ?_)
  rintro e w1 ⟨rfl, ⟨v, hbk, hown, hne, hB⟩, hb1, hk1, hz1⟩
  have c0 : w1.cell? ⟨b, 0, none⟩ = some (.pointer (some ⟨b, 0, none⟩)) := by rw [Lib.cell_of_heap hbk]; rfl
  have c1 : w1.cell? ⟨b, 1, none⟩ = some v := by rw [Lib.cell_of_heap hbk]; rfl
  have ha : ∀ o, Below w1.heap.size w1 (w1.alloc o) := fun o => (Below.refl _ _).alloc (Nat.le_refl _) o
  have hown1 := fun o => hown.after (ha o)
  have hsz : ∀ o, (w1.alloc o).heap.size = w1.heap.size + 1 := fun o => by simp
  go_wp2_with (at_builtin; refine wpList_append_R3 rfl _ _ rfl rfl (hown1 _) rfl (sl_one w1 _ c) hlen ?c5 ?_)
  case c5 => rw [hsz]; omega
  intro v' w2 hown' hgrow hw
  have hlt : b < w1.heap.size := Box.lt hbk
  have hb2 : w2.heap[b]? = some (.cells #[.pointer (some ⟨b, 0, none⟩), v] 61 (0, 0)) := by
    rw [hgrow.block b (by simp; omega) (fun e => hne e.symm), Lib.alloc_old w1 _ b hlt]
    exact hbk
  have d0 : w2.cell? ⟨b, 0, none⟩ = some (.pointer (some ⟨b, 0, none⟩)) := by rw [Lib.cell_of_heap hb2]; rfl
  have d1 : w2.cell? ⟨b, 1, none⟩ = some v := by rw [Lib.cell_of_heap hb2]; rfl
  have f1 : w2.frozen? ⟨b, 1, none⟩ = false := Lib.frozen_of_heap hb2 1
  have hP := bl_put hb1 hk1 hz1 hbk hB hBw (ha _) (hown1 _) hne hown' hgrow (fun k hk => by rw [hsz]; exact hw k hk)
  obtain ⟨ao, cap, rfl, _⟩ := hown'.sl
  have HP := Lib.hid hP
  clear hP hown' hw hgrow
  generalize (l ++ [c]).length = nn at *
  go_wp2
  go_ret
  exact ⟨rfl, HP.out⟩
end Go.Proofs.YtkbblhioncecmaaDoor

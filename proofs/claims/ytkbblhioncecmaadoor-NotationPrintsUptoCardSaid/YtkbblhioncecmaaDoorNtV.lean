/- Notation: WriteByte, WriteString, Write: what they leave alone. -/
import Derived.Test.YtkbblhioncecmaaDoorNtU
namespace Go.Proofs.YtkbblhioncecmaaDoor
open Go.RowKit
set_option linter.unusedVariables false
set_option linter.unusedSimpArgs false

def RetK (B b : Nat) (r : Value) (l : List UInt8) (w : World) (e : Ending) (w' : World) : Prop := e = .returned r ∧ Bl B b l w' ∧ Below B w w' ∧ Kept b w w'
theorem bl_put {B b : Nat} {l l2 : List UInt8} {w w1 wa w2 : World} {v v' : Value} (hb1 : Below B w w1) (hk1 : Kept b w w1) (hz1 : w.heap.size = w1.heap.size) (hbk : Box w1 b 61 #[.pointer (some ⟨b, 0, none⟩), v]) (hB : B ≤ b) (hBw : B ≤ w.heap.size)
    (ha : Below w1.heap.size w1 wa) (hown : OwnR wa B v l2) (hne : v.ownBlock ≠ some b) (hown' : OwnR w2 B v' l) (hg : wa.grownBy w2 v.ownBlock) (hw : ∀ k, v'.ownBlock = some k → v.ownBlock = some k ∨ wa.heap.size ≤ k) :
    Bl B b l (w2.setCell ⟨b, 1, none⟩ v') ∧ Below B w (w2.setCell ⟨b, 1, none⟩ v') ∧ Kept b w (w2.setCell ⟨b, 1, none⟩ v') := by
  have hba : Box wa b 61 #[.pointer (some ⟨b, 0, none⟩), v] := hbk.after ha
  obtain ⟨h3, h4⟩ := kept_put hba hne hg hw
  have hlt := hbk.lt
  have hne' : v'.ownBlock ≠ some b := fun e => by
    rcases hw b e with h | h
    · exact hne h
    · have := hba.lt; omega
  refine ⟨⟨_, v', .inr rfl, h3, ?_, hne', hB⟩, ?_, ?_⟩
  · exact OwnR.keep hown' (by simp) (fun g hg => heap_setCell_other _ _ _ _ (fun e => hne' (by rw [hg, e])))
  · exact ((hb1.trans (ha.mono (by omega))).grown hg (by have := ha.size; omega) (fun k hk => (hown.own k hk).1)).setCell (p := ⟨b, 1, none⟩) hB _
  · exact (hk1.trans (kept_below hlt ha) (by omega)).trans h4 (by have := ha.size; omega)

set_option maxHeartbeats 2000000 in
set_option maxRecDepth 100000 in
theorem writeK (B b : Nat) (l : List UInt8) (a : Option Addr) (m c : Nat) (l2 : List UInt8) (w : World) (h : Bl B b l w) (hs : ∀ w', Below B w w' → Sl w' a m c l2) (hlen : l.length + m ≤ 140737488355328) (hBw : B ≤ w.heap.size) :
    Calls Tryd.prog 80 #[.pointer (some ⟨b, 0, none⟩), .slice a m c] w (RetK B b (.tuple #[.int .i64 m, .nilIface]) (l ++ l2) w) := by
  have HSL := Lib.hid hs
  clear hs
  go_enter Tryd.func80, Tryd.ntmps80
  go_wp2_with (go_at_call 78; refine (copyCheckK B b l _ h).mono ?_)
  rintro e w1 ⟨rfl, ⟨v, hbk, hown, hne, hB⟩, hb1, hk1, hz1⟩
  have c0 : w1.cell? ⟨b, 0, none⟩ = some (.pointer (some ⟨b, 0, none⟩)) := by rw [Lib.cell_of_heap hbk]; rfl
  have c1 : w1.cell? ⟨b, 1, none⟩ = some v := by rw [Lib.cell_of_heap hbk]; rfl
  go_wp2_with (at_builtin; refine wpList_append_R3 rfl _ _ rfl rfl hown rfl (HSL.out w1 hb1) hlen ?c5 ?_)
  case c5 => omega
  intro v' w2 hown' hgrow hw
  have hlt : b < w1.heap.size := Box.lt hbk
  have hb2 : w2.heap[b]? = some (.cells #[.pointer (some ⟨b, 0, none⟩), v] 61 (0, 0)) := by
    rw [hgrow.block b hlt (fun e => hne e.symm)]
    exact hbk
  have d0 : w2.cell? ⟨b, 0, none⟩ = some (.pointer (some ⟨b, 0, none⟩)) := by rw [Lib.cell_of_heap hb2]; rfl
  have d1 : w2.cell? ⟨b, 1, none⟩ = some v := by rw [Lib.cell_of_heap hb2]; rfl
  have f1 : w2.frozen? ⟨b, 1, none⟩ = false := Lib.frozen_of_heap hb2 1
  have hP := bl_put hb1 hk1 hz1 hbk hB hBw (Below.refl _ _) hown hne hown' hgrow hw
  obtain ⟨ao, cap, rfl, _⟩ := hown'.sl
  have HP := Lib.hid hP
  clear hP hown' hw hgrow
  generalize (l ++ l2).length = nn at *
  go_wp2
  go_ret2
  exact ⟨rfl, HP.out⟩

set_option maxHeartbeats 2000000 in
set_option maxRecDepth 100000 in
theorem stringK (B b : Nat) (l : List UInt8) (l2 : List UInt8) (w : World) (h : Bl B b l w) (hlen : l.length + l2.length ≤ 140737488355328) (hBw : B ≤ w.heap.size) :
    Calls Tryd.prog 59 #[.pointer (some ⟨b, 0, none⟩), .string ⟨l2.toArray⟩] w (RetK B b (.tuple #[.int .i64 l2.length, .nilIface]) (l ++ l2) w) := by
  go_enter Tryd.func59, Tryd.ntmps59
  go_wp2_with (go_at_call 78; refine (copyCheckK B b l _ h).mono ?_)
  rintro e w1 ⟨rfl, ⟨v, hbk, hown, hne, hB⟩, hb1, hk1, hz1⟩
  have c0 : w1.cell? ⟨b, 0, none⟩ = some (.pointer (some ⟨b, 0, none⟩)) := by rw [Lib.cell_of_heap hbk]; rfl
  have c1 : w1.cell? ⟨b, 1, none⟩ = some v := by rw [Lib.cell_of_heap hbk]; rfl
  go_wp2_with (at_builtin; refine wpList_append_RS3 rfl _ _ rfl rfl hown rfl hlen ?c5 ?_)
  case c5 => omega
  intro v' w2 hown' hgrow hw
  have hlt : b < w1.heap.size := Box.lt hbk
  have hb2 : w2.heap[b]? = some (.cells #[.pointer (some ⟨b, 0, none⟩), v] 61 (0, 0)) := by
    rw [hgrow.block b hlt (fun e => hne e.symm)]
    exact hbk
  have d0 : w2.cell? ⟨b, 0, none⟩ = some (.pointer (some ⟨b, 0, none⟩)) := by rw [Lib.cell_of_heap hb2]; rfl
  have d1 : w2.cell? ⟨b, 1, none⟩ = some v := by rw [Lib.cell_of_heap hb2]; rfl
  have f1 : w2.frozen? ⟨b, 1, none⟩ = false := Lib.frozen_of_heap hb2 1
  have hP := bl_put hb1 hk1 hz1 hbk hB hBw (Below.refl _ _) hown hne hown' hgrow hw
  obtain ⟨ao, cap, rfl, _⟩ := hown'.sl
  have HP := Lib.hid hP
  clear hP hown' hw hgrow
  generalize (l ++ l2).length = nn at *
  go_wp2
  go_ret2
  exact ⟨rfl, HP.out⟩
end Go.Proofs.YtkbblhioncecmaaDoor

/- Points: their cells. -/
import Derived.Test.YtddgkoheihlbdaaFldLaws
import Derived.Test.YtddgkoheihlbdaaAny
namespace Go.Proofs.Ytddgkoheihlbdaa
open Go.RowKit

def pArr (x y z t : L5) : Array Value := gArr x.at ++ gArr y.at ++ gArr z.at ++ gArr t.at
def qArr (u v n : Nat) : Array Value := fArr (dig u) ++ fArr (dig v) ++ fArr (dig n)
theorem pArr_size (x y z t : L5) : (pArr x y z t).size = 20 := by simp [pArr, gArr_size]
theorem qArr_size (u v n : Nat) : (qArr u v n).size = 48 := by simp [qArr, fArr_size]
theorem all_append {p : Value → Bool} {a b : Array Value} (ha : a.all p = true) (hb : b.all p = true) : (a ++ b).all p = true := by simp [ha, hb]
theorem pArr_one (x y z t : L5) : (pArr x y z t).all (·.oneCell') = true := all_append (all_append (all_append (gArr_one _) (gArr_one _)) (gArr_one _)) (gArr_one _)
theorem qArr_one (u v n : Nat) : (qArr u v n).all (·.oneCell') = true := all_append (all_append (fArr_one _) (fArr_one _)) (fArr_one _)
theorem fArr_lit (f : Nat → Nat) : fArr f = #[.int .u64 (f 0), .int .u64 (f 1), .int .u64 (f 2), .int .u64 (f 3), .int .u64 (f 4), .int .u64 (f 5), .int .u64 (f 6), .int .u64 (f 7), .int .u64 (f 8), .int .u64 (f 9), .int .u64 (f 10), .int .u64 (f 11), .int .u64 (f 12), .int .u64 (f 13), .int .u64 (f 14), .int .u64 (f 15)] := rfl

set_option maxRecDepth 100000 in
theorem build_pt (x y z t : L5) (w : World) : (Instr.build 62 #[(0, .agg (gArr x.at)), (1, .agg (gArr y.at)), (2, .agg (gArr z.at)), (3, .agg (gArr t.at))]).run Try.prog w = .ok (.agg (pArr x y z t)) w := by
  unfold pArr
  simp only [gArr_at]
  simp [go_sem]
set_option maxRecDepth 100000 in
theorem build_pt2 (y z : L5) (w : World) : (Instr.build 62 #[(1, .agg (gArr y.at)), (2, .agg (gArr z.at))]).run Try.prog w = .ok (.agg (pArr L5.zero y z L5.zero)) w := by
  unfold pArr
  simp only [gArr_at]
  simp [go_sem, L5.zero]
set_option maxRecDepth 100000 in
theorem build_pt0 (w : World) : (Instr.build 62 #[]).run Try.prog w = .ok (.agg (pArr L5.zero L5.zero L5.zero L5.zero)) w := by
  unfold pArr
  simp only [gArr_at]
  simp [go_sem, L5.zero]
set_option maxRecDepth 100000 in
theorem build_p (u v n : Nat) (w : World) : (Instr.build 66 #[(0, .agg (fArr (dig u))), (1, .agg (fArr (dig v))), (2, .agg (fArr (dig n)))]).run Try.prog w = .ok (.agg (qArr u v n)) w := by
  unfold qArr
  simp only [fArr_lit]
  simp [go_sem]
theorem dig_zero (j : Nat) : dig 0 j = 0 := by simp [dig]
set_option maxRecDepth 100000 in
theorem build_p0 (w : World) : (Instr.build 66 #[]).run Try.prog w = .ok (.agg (qArr 0 0 0)) w := by
  unfold qArr
  simp only [fArr_lit, dig_zero]
  simp [go_sem]

/-- some cells in the midst of a block -/
theorem Box.part {w : World} {g k : Nat} {T : TypeId} {a b c : Array Value} (h : Box w g T (a ++ b ++ c)) (hk : a.size = k) : w.rangeAt g k b.toList := fun j v hv => by
  refine h.cell (k + j) ?_
  have hj : j < b.size := by
    rcases Nat.lt_or_ge j b.size with h | h
    · exact h
    · simp at hv; simp [Array.getElem?_eq_none h] at hv
  simp at hv
  rw [Array.getElem?_append_left (by simp; omega), Array.getElem?_append_right (by omega), show k + j - a.size = j by omega]
  exact hv
theorem pt_x {w : World} {g : Nat} {T : TypeId} {x y z t : L5} (h : Box w g T (pArr x y z t)) : w.rangeAt g 0 (gArr x.at).toList := by
  refine Box.part (a := #[]) (c := gArr y.at ++ gArr z.at ++ gArr t.at) (T := T) ?_ rfl
  simpa [pArr] using h
theorem pt_y {w : World} {g : Nat} {T : TypeId} {x y z t : L5} (h : Box w g T (pArr x y z t)) : w.rangeAt g 5 (gArr y.at).toList := by
  refine Box.part (a := gArr x.at) (c := gArr z.at ++ gArr t.at) (T := T) ?_ (gArr_size _)
  simpa [pArr] using h
theorem pt_z {w : World} {g : Nat} {T : TypeId} {x y z t : L5} (h : Box w g T (pArr x y z t)) : w.rangeAt g 10 (gArr z.at).toList := by
  refine Box.part (a := gArr x.at ++ gArr y.at) (c := gArr t.at) (T := T) ?_ (by simp [gArr_size])
  simpa [pArr] using h
theorem pt_t {w : World} {g : Nat} {T : TypeId} {x y z t : L5} (h : Box w g T (pArr x y z t)) : w.rangeAt g 15 (gArr t.at).toList := by
  refine Box.part (a := gArr x.at ++ gArr y.at ++ gArr z.at) (c := #[]) (T := T) ?_ (by simp [gArr_size])
  simpa [pArr] using h
theorem q_x {w : World} {g : Nat} {T : TypeId} {u v n : Nat} (h : Box w g T (qArr u v n)) : w.rangeAt g 0 (fArr (dig u)).toList := by
  refine Box.part (a := #[]) (c := fArr (dig v) ++ fArr (dig n)) (T := T) ?_ rfl
  simpa [qArr] using h
theorem q_y {w : World} {g : Nat} {T : TypeId} {u v n : Nat} (h : Box w g T (qArr u v n)) : w.rangeAt g 16 (fArr (dig v)).toList := by
  refine Box.part (a := fArr (dig u)) (c := fArr (dig n)) (T := T) ?_ (fArr_size _)
  simpa [qArr] using h
theorem q_z {w : World} {g : Nat} {T : TypeId} {u v n : Nat} (h : Box w g T (qArr u v n)) : w.rangeAt g 32 (fArr (dig n)).toList := by
  refine Box.part (a := fArr (dig u) ++ fArr (dig v)) (c := #[]) (T := T) ?_ (by simp [fArr_size])
  simpa [qArr] using h

theorem run_load_mid {P : Program} {o : Oper} {a : Act} {w : World} {ty : TypeId} {x : Operand} (ho : o.op = .load ty x) {b k : Nat} {cs : Array Value} (hS : w.rangeAt b k cs.toList) (hx : a.eval x = .pointer (some ⟨b, k, none⟩)) {d : TypeDesc}
    (hu : P.underlying ty = some d) (hd : d.isRow = true) (hi : (P.info? ty).map (·.size) = some cs.size) : (execOp a.eval o).run P w = .ok (.value (.agg cs)) w := by
  unfold execOp
  simp only [ho, hx, Instr.loadAt, Instr.sureAddr, Sem.run_bind, Sem.run_pure, Result.andThen_ok, run_loadVar_mid w b k ty cs.toList d hS hu hd (by simpa using hi)]
end Go.Proofs.Ytddgkoheihlbdaa

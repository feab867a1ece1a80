/- Operations that leave alone all memory below a bound, at the head of a plain region. -/
import Derived.Test.YtcflgoddfakepaaDoorBox
namespace Go.Proofs.YtcflgoddfakepaaDoor
open Go.RowKit

variable {P : Program} {ops : Array Oper}

theorem wpList_of_quiet {C : World → Prop} {Q : Exit → Act → World → Prop} {K : Act → Prop} {rest : List Oper} : ∀ (l : List Oper) (a : Act) (w : World), C w → wpQuiet P ops C K l a →
    (∀ a' w', C w' → K a' → wpList P ops Q rest a' w') → wpList P ops Q (l ++ rest) a w
  | [], a, w, hw, h, hK => hK a w hw h
  | o :: l, a, w, hw, h, hK => by
    refine wpList_step fun K' hK' => ?_
    unfold wpQuiet at h
    by_cases hwt : Region.wanted o (yielded ops a.tmps) = true
    · rw [if_pos hwt] at h ⊢
      exact Oper.wp_of_quiet hw (fun a' w' hw' h' => hK' _ _ (wpList_of_quiet l a' w' hw' h' hK)) h
    · rw [if_neg hwt] at h ⊢
      exact hK' _ _ (wpList_of_quiet l _ w hw h hK)

/-- the first n operations of a plain region -/
theorem wpList_made {Q : Exit → Act → World → Prop} {l : List Oper} {a : Act} {w : World} (n : Nat) (B : Nat) (W : World) (h0 : Below B W w)
    (h : wpQuiet P ops (fun w' => Below B W w') (fun a' => ∀ w', Below B W w' → wpList P ops Q (l.drop n) a' w') (l.take n) a) : wpList P ops Q l a w := by
  have := wpList_of_quiet (C := fun w' => Below B W w') (rest := l.drop n) (Q := Q) (l.take n) a w h0 h (fun a' w' hw' hk => hk w' hw')
  rwa [List.take_append_drop] at this
end Go.Proofs.YtcflgoddfakepaaDoor

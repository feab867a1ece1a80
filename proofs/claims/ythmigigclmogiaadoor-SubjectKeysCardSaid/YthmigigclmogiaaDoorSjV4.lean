/- The program's value of a subject that is right. -/
import Derived.Test.YthmigigclmogiaaDoorSjV3
import Derived.Test.YthmigigclmogiaaDoorSj9
namespace Go.Proofs.YthmigigclmogiaaDoor
open Go.RowKit

theorem value_any (s : Sj) : ∀ (v : JV) (d m : Nat) (w : World), RdJ (fun _ => True) w v s → s.right d = true → s.great m = false → Tab w → Calls Tryd.prog 18 #[v.val] w (ValI (fun b => w.heap.size ≤ b) s.value w) := by
  induction s using Sj.ind with
  | h kd s da ns k ks ih =>
    intro v d m w hr h1 h2 ht
    obtain ⟨g1, g2, g3, g4, g5, g6⟩ := greatJ_no h2
    rw [value_def]
    rcases right_cases h1 with ⟨rfl, rfl, rfl, rfl, hm⟩ | ⟨rfl, rfl, rfl, _, _, hm⟩ | ⟨rfl, rfl, rfl, rfl, hk1, hk2, hk3, hk4, hks⟩
    · simp only [show ¬ (1 = 3) by decide, if_false, if_true]
      exact value1_any v w hr hm
    · simp only [show ¬ (2 = 3) by decide, show ¬ (2 = 1) by decide, if_false]
      exact value2_any v w hr hm g3 g5
    · simp only [if_true]
      exact value3_any v w hr g2 ht (fun x hx v' w' hr' ht' => ih x hx v' (d + 1) (m + 1) w' hr' (hks x hx) (greatL_no g6 x hx) ht')
end Go.Proofs.YthmigigclmogiaaDoor

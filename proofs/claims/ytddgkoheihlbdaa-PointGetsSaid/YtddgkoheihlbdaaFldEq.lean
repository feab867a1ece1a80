/- field: two arrays of 32 bytes compared. -/
import Derived.Test.YtddgkoheihlbdaaFld4
import Derived.Laws.StructEq
namespace Go.Proofs.Ytddgkoheihlbdaa
open Go.RowKit

theorem part_one {P : Program} (w : World) (e : TypeId) (cs : Array Value) (i : Nat) (v : Value) (hp : (isAgg e).run P w = .ok false w) (hv : cs[i]? = some v) :
    (part e cs i).run P w = .ok v w := by
  simp [part, hp, hv]

theorem equal_arr {P : Program} (w : World) (t e : TypeId) (n m : Nat) (C D : Nat → Nat) (xs ys : Array Value) (h : P.underlying t = some (.array n e))
    (he : ∀ a b : Int, (Op.equalIn m e (.int .u8 a) (.int .u8 b)).run P w = .ok (a == b) w)
    (hz : (sizeOf e).run P w = .ok 1 w) (hp : (isAgg e).run P w = .ok false w)
    (hx : ∀ i, i < n → xs[i]? = some (.int .u8 (C i : Nat))) (hy : ∀ i, i < n → ys[i]? = some (.int .u8 (D i : Nat))) :
    (Op.equalIn (m + 1) t (.agg xs) (.agg ys)).run P w = .ok (decide (∀ i, i < n → C i = D i)) w := by
  simp only [Op.equalIn, Sem.run_bind, run_underlying h, Result.andThen_ok, hz, Std.Legacy.Range.forIn_eq_forIn_range', Std.Legacy.Range.size, Nat.mul_one, Nat.sub_zero, Nat.add_sub_cancel, Nat.div_one]
  have key : ∀ k s, s + k = n → ((forIn (List.range' s k) ((none, ()) : Option Bool × Unit) fun i __s => do
      let a ← part e xs i
      let b ← part e ys i
      let r ← Op.equalIn m e a b
      if (!r) = true then pure (ForInStep.done (some false, ())) else pure (ForInStep.yield (none, ()))) : Sem (Option Bool × Unit)).run P w = .ok (if ∀ i, i < n → s ≤ i → C i = D i then (none, ()) else (some false, ())) w := by
    intro k
    induction k with
    | zero => intro s hs; rw [if_pos (fun i h1 h2 => absurd h1 (by omega))]; simp
    | succ k ih =>
      intro s hs
      simp only [List.range'_succ, List.forIn_cons, Sem.run_bind, part_one w e xs s _ hp (hx s (by omega)), part_one w e ys s _ hp (hy s (by omega)), Result.andThen_ok, he]
      by_cases hc : C s = D s
      · have hq : ((C s : Int) == (D s : Int)) = true := by simp [hc]
        simp only [hq, Bool.not_true, Bool.false_eq_true, if_false, Sem.run_pure, Result.andThen_ok]
        rw [ih (s + 1) (by omega)]
        congr 2
        apply propext
        exact ⟨fun g i h1 h2 => if hi : i = s then hi ▸ hc else g i h1 (by omega), fun g i h1 h2 => g i h1 (by omega)⟩
      · have hq : ((C s : Int) == (D s : Int)) = false := by simp; omega
        simp only [hq, Bool.not_false, if_true, Sem.run_pure, Result.andThen_ok]
        rw [if_neg (fun g => hc (g s (by omega) (by omega)))]
  rw [key n 0 (by omega)]
  by_cases hall : ∀ i, i < n → C i = D i
  · rw [if_pos (fun i h2 _ => hall i h2)]; simpa using hall
  · rw [if_neg (fun g => hall (fun i h2 => g i h2 (by omega)))]; simpa using hall
end Go.Proofs.Ytddgkoheihlbdaa

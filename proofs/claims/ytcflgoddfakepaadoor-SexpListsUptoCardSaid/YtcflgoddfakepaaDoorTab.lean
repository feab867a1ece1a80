/- octet.PutLen: what it computes; the library's table behind other calls. -/
import Derived.Test.YtcflgoddfakepaaDoorShelf
import Derived.Test.YtcflgoddfakepaaDoorRows
import Derived.WalkKit
import Derived.Handy
import Derived.Lib.Hide
import Derived.Lib.AppendIntMem
import Derived.Lib.LaidTab
import Derived.Lib.ItoaNum
namespace Go.Proofs.YtcflgoddfakepaaDoor
open Go.RowKit

def Tab (w : World) : Prop := Lib.TabIs Tryd.prog w "internal/strconv.uint64pow10" .u64 Lib.pow10Tab
theorem Tab.after {w w' : World} (h : Tab w) (hb : Below w.heap.size w w') : Tab w' := by
  unfold Tab Lib.TabIs at *
  cases hg : Tryd.prog.globalNamed "internal/strconv.uint64pow10" with
  | none => unfold World.var? at h; rw [hg] at h; cases h
  | some g =>
    unfold World.var? at h ⊢
    rw [hg] at h ⊢
    simp only [Option.bind_some] at h ⊢
    have hlt : g < w.heap.size := by
      rcases Nat.lt_or_ge g w.heap.size with h' | h'
      · exact h'
      · rw [Array.getElem?_eq_none h'] at h; cases h
    rw [hb.block g hlt]
    exact h

/-- a length's digits -/
def numL (n : Int) : List UInt8 := Lib.decDigits n.toNat
theorem itoa_max (n : Int) : Lib.itoa (max n 0) = numL n := by
  unfold Lib.itoa numL
  rw [if_neg (by omega)]
  congr 1
  omega

theorem putLen_any (n : Int) (h0 : -9223372036854775808 ≤ n) (h1 : n ≤ 9223372036854775807) (w : World) (ht : Tab w) :
    Calls Tryd.prog 36 #[.int .i64 n] w fun e w' => e = .returned (.string ⟨(numL n).toArray⟩) ∧ Below w.heap.size w w' := by
  have HM := Lib.hid (itoa_max n)
  go_enter Tryd.func36, Tryd.ntmps36
  go_wp2_with fail
  refine (Tryd.strconv_Itoa _ (by omega) (by omega) _ ht).mono ?_
  rintro e w' ⟨rfl, k, os, rfl⟩
  rw [HM.out]
  go_wp2_with fail
  go_ret
  exact ⟨rfl, Lib.below_grow _ _ (Nat.le_refl _) _ _⟩
end Go.Proofs.YtcflgoddfakepaaDoor

/- An array of 32 bytes that came in reads as 32 bytes. -/
import Derived.Test.YtddgkoheihlbdaaFld6
import Derived.WideKeyArr2
import Derived.ProofKit
namespace Go.Proofs.Ytddgkoheihlbdaa
open Go.RowKit

theorem mapM_bytes {H : Type} {enc : TypeId × Value → H} {W : World} {base : Nat} {sp : Nat → Bool} {held : Bool} {m : Nat} {cs : List Value} : ∀ (L : List Nat) (xs : List (DataW H × List MemPlace)),
    L.mapM (fun i => DataW.trod enc Try.prog W base sp held m 5 ((cs.drop (i * 1)).take 1)) = some xs →
    ∀ i, i ∈ L → ∃ a : Int, (cs.drop (i * 1)).take 1 = [.int .u8 a] ∧ (Lit.int .u8 a).wf = true
  | [], _, _, i, hi => by cases hi
  | j :: L, xs, h, i, hi => by
    rw [List.mapM_cons] at h
    simp only [bind, Option.bind_eq_some_iff, pure, Option.some.injEq] at h
    obtain ⟨y, hy, ys, hys, rfl⟩ := h
    rcases List.mem_cons.1 hi with rfl | hi
    · obtain ⟨a, ea, _, wa⟩ := DataW.trod_int Try.underlying5 hy
      exact ⟨a, ea, wa⟩
    · exact mapM_bytes L ys hys i hi

/-- the byte that a cell holds -/
def byteOf : Option Value → UInt8
  | some (Value.int _ a) => UInt8.ofNat a.toNat
  | _ => 0

set_option maxRecDepth 100000 in
theorem arr_open {H : Type} {enc : TypeId × Value → H} {W : World} {base b0 : Nat} {sp : Nat → Bool} {held : Bool} {r : Reach} {v : Value} {d : DataW H} {ps : List MemPlace}
    (hv : Value.okWide Try.prog W r b0 40 v) (hd : DataW.Trod enc Try.prog W base sp held 40 v d ps) : ∃ l : List UInt8, l.length = 32 ∧ v = .agg (lCells l).toArray := by
  simp only [Value.okWide, Try.underlying40] at hv
  obtain ⟨cs, rfl, hsz, _⟩ := hv
  have h32 : cs.size = 32 := by rw [hsz]; kernel_rfl
  obtain ⟨fuel, hf⟩ := hd
  cases fuel with
  | zero => simp [DataW.trod] at hf
  | succ m =>
    rw [DataW.trod_step] at hf
    unfold DataW.trodStep at hf
    have hc1 : Try.prog.cellsOf 5 = 1 := by kernel_rfl
    simp only [Try.underlying40, Value.cells, hc1] at hf
    rw [if_pos (by rw [Array.length_toList]; exact hsz)] at hf
    simp only [Option.map_eq_some_iff] at hf
    obtain ⟨ys, hy, _⟩ := hf
    have hb := mapM_bytes _ _ hy
    have key : ∀ i, i < 32 → ∃ c : UInt8, cs[i]? = some (.int .u8 (c.toNat : Int)) := fun i hi => by
      obtain ⟨a, ha, hw⟩ := hb i (by simpa using hi)
      have h0 : (cs.toList.drop (i * 1))[0]? = some (.int .u8 a) := by
        have := congrArg (·[0]?) ha
        simpa using this
      simp [Lit.wf, IntKind.min, IntKind.max, IntKind.bits, IntKind.signed] at hw
      refine ⟨UInt8.ofNat a.toNat, ?_⟩
      have : ((UInt8.ofNat a.toNat).toNat : Int) = a := by simp; omega
      rw [this]
      simpa using h0
    refine ⟨(List.range 32).map fun i => byteOf cs[i]?, by simp, ?_⟩
    refine congrArg Value.agg ?_
    apply Array.ext
    · simp [lCells, h32]
    · intro i h1 h2
      have hi : i < 32 := by omega
      obtain ⟨c, hc⟩ := key i hi
      simp only [lCells, List.getElem_toArray, List.getElem_map, List.getElem_range, hc, byteOf]
      rw [Array.getElem?_eq_getElem h1] at hc
      rw [Option.some.inj hc]
      simp
end Go.Proofs.Ytddgkoheihlbdaa

/- What is general: arrays of bytes as lists of cells, elements, comparisons; arrays that came in. -/
import Derived.Test.YtddgkoheihlbdaaFldMath3
import Derived.Test.YtddgkoheihlbdaaFldRefMath2
import Derived.Test.YtddgkoheihlbdaaAny
import Derived.Laws.Rows
import Derived.Laws.StructEq
import Derived.Deep.MidRow
import Derived.StillTailTactics
import Derived.Deep.Cut
import Derived.WideKeyArr2
import Derived.ProofKit
namespace Go.Proofs.Ytddgkoheihlbdaa
open Go.RowKit

/-- 32 bytes as cells -/
def lCells (l : List UInt8) : List Value := l.map fun c => .int .u8 (c.toNat : Int)

theorem below_setCells {B b : Nat} {w0 : World} (hB : B ≤ b) : ∀ (vs : List Value) (o : Nat) (w : World), Below B w0 w → Below B w0 (w.setCells b o vs)
  | [], _, _, h => h
  | v :: vs, o, w, h => below_setCells hB vs (o + 1) (w.setCell ⟨b, o, none⟩ v) (h.setCell hB v)

theorem results_cell_mid {P : Program} {fn : Func} {p : Tmp} {ty : TypeId} (h : fn.results = #[.cell p ty]) (tmps : Array Value) (w : World) (g : Nat) (cs : List Value) (d : TypeDesc)
    (hp : tmps.getD p undef = .pointer (some ⟨g, 0, none⟩)) (hc : w.rangeAt g 0 cs)
    (hu : P.underlying ty = some d) (hd : d.isRow = true) (hi : (P.info? ty).map (·.size) = some cs.length) :
    (results fn tmps).run P w = .ok (.agg cs.toArray) w := by
  have hp' : tmps[p]?.getD undef = .pointer (some ⟨g, 0, none⟩) := by simpa using hp
  simp [results, h, hp', asAddr, run_loadVar_mid w g 0 ty cs d hc hu hd hi]

theorem run_index_array {P : Program} {w : World} (t e : TypeId) (n : Nat) (cs : Array Value) (k : IntKind) (i : Nat) (v : Value) (h : P.underlying t = some (.array n e)) (hi : i < n) (hv : cs[i]? = some v) (hz : (sizeOf e).run P w = .ok 1 w) (hp : (isAgg e).run P w = .ok false w) :
    (Instr.index t (.agg cs) (.int k i)).run P w = .ok v w := by
  simp [Instr.index, run_underlying h, asIntOf, go_sem, hi, hz, hp, hv]

theorem part_one {P : Program} (w : World) (e : TypeId) (cs : Array Value) (i : Nat) (v : Value) (hp : (isAgg e).run P w = .ok false w) (hv : cs[i]? = some v) :
    (part e cs i).run P w = .ok v w := by
  simp [part, hp, hv]

theorem equal_arr {P : Program} (w : World) (t e : TypeId) (n m : Nat) (C D : Nat → Nat) (xs ys : Array Value) (h : P.underlying t = some (.array n e))
    (he : ∀ a b : Int, (Op.equalIn m e (.int .u8 a) (.int .u8 b)).run P w = .ok (a == b) w)
    (hz : (sizeOf e).run P w = .ok 1 w) (hp : (isAgg e).run P w = .ok false w)
    (hx : ∀ i, i < n → xs[i]? = some (.int .u8 (C i : Nat))) (hy : ∀ i, i < n → ys[i]? = some (.int .u8 (D i : Nat))) :
    (Op.equalIn (m + 1) t (.agg xs) (.agg ys)).run P w = .ok (decide (∀ i, i < n → C i = D i)) w := by
  simp only [Op.equalIn, Sem.run_bind, run_underlying h, Result.andThen_ok, hz, Std.Legacy.Range.forIn_eq_forIn_range', Std.Legacy.Range.size, Nat.mul_one, Nat.sub_zero, Nat.add_sub_cancel, Nat.div_one]
  have key : ∀ k s, s + k = n → ((forIn (List.range' s k) ((none, ()) : Option Bool × Unit) fun i __s => do
      let a ← part e xs i
      let b ← part e ys i
      let r ← Op.equalIn m e a b
      if (!r) = true then pure (ForInStep.done (some false, ())) else pure (ForInStep.yield (none, ()))) : Sem (Option Bool × Unit)).run P w = .ok (if ∀ i, i < n → s ≤ i → C i = D i then (none, ()) else (some false, ())) w := by
    intro k
    induction k with
    | zero => intro s hs; rw [if_pos (fun i h1 h2 => absurd h1 (by omega))]; simp
    | succ k ih =>
      intro s hs
      simp only [List.range'_succ, List.forIn_cons, Sem.run_bind, part_one w e xs s _ hp (hx s (by omega)), part_one w e ys s _ hp (hy s (by omega)), Result.andThen_ok, he]
      by_cases hc : C s = D s
      · have hq : ((C s : Int) == (D s : Int)) = true := by simp [hc]
        simp only [hq, Bool.not_true, Bool.false_eq_true, if_false, Sem.run_pure, Result.andThen_ok]
        rw [ih (s + 1) (by omega)]
        congr 2
        apply propext
        exact ⟨fun g i h1 h2 => if hi : i = s then hi ▸ hc else g i h1 (by omega), fun g i h1 h2 => g i h1 (by omega)⟩
      · have hq : ((C s : Int) == (D s : Int)) = false := by simp; omega
        simp only [hq, Bool.not_false, if_true, Sem.run_pure, Result.andThen_ok]
        rw [if_neg (fun g => hc (g s (by omega) (by omega)))]
  rw [key n 0 (by omega)]
  by_cases hall : ∀ i, i < n → C i = D i
  · rw [if_pos (fun i h2 _ => hall i h2)]; simpa using hall
  · rw [if_neg (fun g => hall (fun i h2 => g i h2 (by omega)))]; simpa using hall
theorem mapM_bytes {H : Type} {enc : TypeId × Value → H} {W : World} {base : Nat} {sp : Nat → Bool} {held : Bool} {m : Nat} {cs : List Value} : ∀ (L : List Nat) (xs : List (DataW H × List MemPlace)),
    L.mapM (fun i => DataW.trod enc Try.prog W base sp held m 5 ((cs.drop (i * 1)).take 1)) = some xs →
    ∀ i, i ∈ L → ∃ a : Int, (cs.drop (i * 1)).take 1 = [.int .u8 a] ∧ (Lit.int .u8 a).wf = true
  | [], _, _, i, hi => by cases hi
  | j :: L, xs, h, i, hi => by
    rw [List.mapM_cons] at h
    simp only [bind, Option.bind_eq_some_iff, pure, Option.some.injEq] at h
    obtain ⟨y, hy, ys, hys, rfl⟩ := h
    rcases List.mem_cons.1 hi with rfl | hi
    · obtain ⟨a, ea, _, wa⟩ := DataW.trod_int Try.underlying5 hy
      exact ⟨a, ea, wa⟩
    · exact mapM_bytes L ys hys i hi

/-- the byte that a cell holds -/
def byteOf : Option Value → UInt8
  | some (Value.int _ a) => UInt8.ofNat a.toNat
  | _ => 0

set_option maxRecDepth 100000 in
theorem arr_open {H : Type} {enc : TypeId × Value → H} {W : World} {base b0 : Nat} {sp : Nat → Bool} {held : Bool} {r : Reach} {v : Value} {d : DataW H} {ps : List MemPlace}
    (hv : Value.okWide Try.prog W r b0 40 v) (hd : DataW.Trod enc Try.prog W base sp held 40 v d ps) : ∃ l : List UInt8, l.length = 32 ∧ v = .agg (lCells l).toArray := by
  simp only [Value.okWide, Try.underlying40] at hv
  obtain ⟨cs, rfl, hsz, _⟩ := hv
  have h32 : cs.size = 32 := by rw [hsz]; kernel_rfl
  obtain ⟨fuel, hf⟩ := hd
  cases fuel with
  | zero => simp [DataW.trod] at hf
  | succ m =>
    rw [DataW.trod_step] at hf
    unfold DataW.trodStep at hf
    have hc1 : Try.prog.cellsOf 5 = 1 := by kernel_rfl
    simp only [Try.underlying40, Value.cells, hc1] at hf
    rw [if_pos (by rw [Array.length_toList]; exact hsz)] at hf
    simp only [Option.map_eq_some_iff] at hf
    obtain ⟨ys, hy, _⟩ := hf
    have hb := mapM_bytes _ _ hy
    have key : ∀ i, i < 32 → ∃ c : UInt8, cs[i]? = some (.int .u8 (c.toNat : Int)) := fun i hi => by
      obtain ⟨a, ha, hw⟩ := hb i (by simpa using hi)
      have h0 : (cs.toList.drop (i * 1))[0]? = some (.int .u8 a) := by
        have := congrArg (·[0]?) ha
        simpa using this
      simp [Lit.wf, IntKind.min, IntKind.max, IntKind.bits, IntKind.signed] at hw
      refine ⟨UInt8.ofNat a.toNat, ?_⟩
      have : ((UInt8.ofNat a.toNat).toNat : Int) = a := by simp; omega
      rw [this]
      simpa using h0
    refine ⟨(List.range 32).map fun i => byteOf cs[i]?, by simp, ?_⟩
    refine congrArg Value.agg ?_
    apply Array.ext
    · simp [lCells, h32]
    · intro i h1 h2
      have hi : i < 32 := by omega
      obtain ⟨c, hc⟩ := key i hi
      simp only [lCells, List.getElem_toArray, List.getElem_map, List.getElem_range, hc, byteOf]
      rw [Array.getElem?_eq_getElem h1] at hc
      rw [Option.some.inj hc]
      simp
/-- the k lowest bytes of n -/
def leBytes (n k : Nat) : List UInt8 := (List.range k).map fun j => UInt8.ofNat (n / 256 ^ j % 256)
theorem leBytes_two (n k : Nat) : leBytes n (2 * (k + 1)) = leBytes n (2 * k) ++ [UInt8.ofNat (dig n k % 256), UInt8.ofNat (dig n k / 256)] := by
  have e1 : dig n k % 256 = n / 256 ^ (2 * k) % 256 := by
    rw [Nat.pow_mul]; show n / (65536 : Nat) ^ k % 65536 % 256 = n / (65536 : Nat) ^ k % 256; omega
  have e2 : dig n k / 256 = n / 256 ^ (2 * k + 1) % 256 := by
    rw [Nat.pow_succ, ← Nat.div_div_eq_div_mul, Nat.pow_mul]; show n / (65536 : Nat) ^ k % 65536 / 256 = n / (65536 : Nat) ^ k / 256 % 256; omega
  rw [e1, e2, show 2 * (k + 1) = 2 * k + 1 + 1 by omega]
  simp [leBytes, List.range_succ]
theorem leBytes_len (n k : Nat) : (leBytes n k).length = k := by simp [leBytes]

/-- a slice that reads as a list comes back, all old memory as before -/
def RetSl (l : List UInt8) (w : World) (e : Ending) (w' : World) : Prop := ∃ a cap, e = .returned (.slice a l.length cap) ∧ Sl w' a l.length cap l ∧ Below w.heap.size w w'

end Go.Proofs.Ytddgkoheihlbdaa

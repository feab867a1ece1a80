/- number.Greatest and the document's: what they compute; NumberGreatest: the walk. -/
import Derived.Test.YtjemnfiogekekaaNumLaws
import Derived.Deep.Slices
import Derived.ChangeArms
namespace Go.Proofs.Ytjemnfiogekekaa
open Go.RowKit

/-- a slice of floats that came in, as a list of their bits -/
def Fs (w : World) (a : Option Addr) (len : Nat) (l : List Nat) : Prop :=
  len = l.length ∧ (len = 0 ∨ ∃ b o, a = some ⟨b, o, none⟩ ∧ ∀ i, i < len → w.cell? ⟨b, o + i, none⟩ = some (.float .f64 (l.getD i 0)))
def IsRowF (w : World) (a : Option Addr) (len cap : Nat) (l : List Nat) : Prop := Fs w a len l ∧ len ≤ cap ∧ cap ≤ maxLen

section
open Go.ChangeShapes Go.WideShapes Go.Deep
variable {H : Type} {enc : TypeId × Value → H} {P : Program} {w : World} {base : Nat} {spare : Nat → Bool} {held : Bool}
theorem trod_float {fuel : Nat} {t : TypeId} {cs : List Value} {x : DataW H × List MemPlace} {k : FloatKind} (ht : P.underlying t = some (.float k)) (h : DataW.trod enc P w base spare held fuel t cs = some x) : ∃ n, cs = [.float k n] := by
  cases fuel with
  | zero => simp [DataW.trod] at h
  | succ n =>
    unfold DataW.trod at h
    rw [ht] at h
    split at h <;> simp_all

theorem open_floats0 {t e : TypeId} {v : Value} {d : DataW H} {p : List MemPlace} (ht : P.underlying t = some (.slice e)) (he : P.underlying e = some (.float .f64)) (hc : P.cellsOf e = 1)
    {a : Option Addr} {len cap : Nat} (hv : v.cells.toList = [Value.slice a len cap]) (h : DataW.Trod enc P w base spare held t v d p) : ∃ l, IsRowF w a len cap l := by
  obtain ⟨fuel, hf⟩ := h
  rcases open_slice1 ht hc hf with ⟨hcs, _⟩ | ⟨ad, l, c, m, n, V, D, Pl, hcs, _, hl, hm, hmm, _, hx⟩
  · rw [hv] at hcs
    obtain ⟨rfl, rfl, rfl⟩ : a = none ∧ len = 0 ∧ cap = 0 := by simpa using hcs
    exact ⟨[], ⟨rfl, .inl rfl⟩, Nat.le_refl _, Nat.zero_le _⟩
  · rw [hv] at hcs
    obtain ⟨rfl, rfl, rfl⟩ : a = some ad ∧ len = l ∧ cap = c := by simpa using hcs
    have hlm : len ≤ m := by rw [hmm]; split <;> omega
    obtain ⟨z, hz⟩ : ∃ z : Nat → Nat, ∀ i, i < len → w.cell? (ad.add i) = some (.float .f64 (z i)) := by
      refine ⟨fun i => match w.cell? (ad.add i) with | some (.float _ b) => b | _ => 0, fun i hi => ?_⟩
      obtain ⟨h1, h2⟩ := hx i (by omega)
      obtain ⟨b, hb⟩ := trod_float he h2
      have hb' : V i = .float .f64 b := by simpa using hb
      simp only [h1, hb']
    refine ⟨(List.range len).map z, ⟨by simp, ?_⟩, hl, hm⟩
    rcases Nat.eq_zero_or_pos len with h0 | h0
    · exact .inl h0
    · right
      obtain ⟨b, o, spot⟩ := ad
      have h1 := hz 0 h0
      have hspot : spot = none := by simpa [Addr.add] using World.cell?_spot h1
      subst hspot
      refine ⟨b, o, rfl, fun i hi => ?_⟩
      have h2 := hz i hi
      replace h2 := (congrArg w.cell? (Addr.add_lit b o i)).symm.trans h2
      rw [h2]
      simp [List.getD_eq_getElem?_getD, hi]
theorem open_floats {a : Option Addr} {len cap : Nat} {d : DataW H} {p : List MemPlace} (h : DataW.Trod enc Try.prog w base spare held 32 (.slice a len cap) d p) : ∃ l, IsRowF w a len cap l :=
  open_floats0 Try.underlying32 Try.underlying24 (by kernel_rfl) rfl h
end

theorem Fs.after {w w' : World} {a : Option Addr} {len : Nat} {l : List Nat} (h : Fs w a len l) (hb : Below w.heap.size w w') : Fs w' a len l := by
  obtain ⟨h1, h2⟩ := h
  refine ⟨h1, ?_⟩
  rcases h2 with h2 | ⟨b, o, rfl, h2⟩
  · exact .inl h2
  · by_cases h0 : len = 0
    · exact .inl h0
    · exact .inr ⟨b, o, rfl, fun i hi => (hb.cell (cell_lt (h2 0 (by omega)))).trans (h2 i hi)⟩
theorem Fs.some {w : World} {a : Option Addr} {len : Nat} {l : List Nat} (h : Fs w a len l) (hl : 0 < len) : ∃ b o, a = Option.some ⟨b, o, none⟩ ∧ ∀ i, i < len → w.cell? ⟨b, o + i, none⟩ = Option.some (.float .f64 (l.getD i 0)) := by
  rcases h.2 with h4 | ⟨b, o, rfl, h4⟩
  · omega
  · exact ⟨b, o, rfl, h4⟩

/-! the greatest -/
def good (p : List Nat) (x : Nat) : Bool := !isNan x && p.all fun y => !(Ieee.double.order y x == some .gt)
def greatO (l : List Nat) : Option Nat := l.find? (good l)
theorem gt_false {y x : Nat} (hx : isNan x = false) : (!(Ieee.double.order y x == some .gt)) = true ↔ isNan y = true ∨ key y ≤ key x := by
  cases hy : isNan y
  · rw [ord_gt hy hx]; simp
  · rw [ord_nan (.inl hy)]; simp
theorem good_iff (p : List Nat) (x : Nat) : good p x = true ↔ isNan x = false ∧ ∀ y ∈ p, isNan y = true ∨ key y ≤ key x := by
  unfold good
  rw [Bool.and_eq_true, List.all_eq_true]
  constructor
  · rintro ⟨h1, h2⟩
    have hx : isNan x = false := by simpa using h1
    exact ⟨hx, fun y hy => (gt_false hx).1 (h2 y hy)⟩
  · rintro ⟨hx, h2⟩
    exact ⟨by simp [hx], fun y hy => (gt_false hx).2 (h2 y hy)⟩
theorem great_nan {p : List Nat} (h : ∀ y ∈ p, isNan y = true) (q : List Nat) : p.find? (good q) = none := by
  rw [List.find?_eq_none]
  intro y hy hg
  rw [good_iff] at hg
  rw [h y hy] at hg; cases hg.1
/-- the program's way: what is known of the numbers up to here -/
def St (p : List Nat) (best : Nat) (found : Bool) : Prop := (found = false ∧ best = 0 ∧ ∀ y ∈ p, isNan y = true) ∨ (found = true ∧ greatO p = some best)
theorem St.first {p : List Nat} {best x : Nat} (h : St p best false) (hx : isNan x = false) : St (p ++ [x]) x true := by
  rcases h with ⟨_, _, h⟩ | ⟨h, _⟩
  · refine .inr ⟨rfl, ?_⟩
    unfold greatO
    rw [List.find?_append, great_nan h]
    have : good (p ++ [x]) x = true := by
      rw [good_iff]
      refine ⟨hx, fun y hy => ?_⟩
      rcases List.mem_append.1 hy with hy | hy
      · exact .inl (h y hy)
      · rw [List.mem_singleton.1 hy]; exact .inr (Int.le_refl _)
    simp [this]
  · cases h
theorem St.nan {p : List Nat} {best x : Nat} {found : Bool} (h : St p best found) (hx : isNan x = true) : St (p ++ [x]) best found := by
  rcases h with ⟨rfl, rfl, h⟩ | ⟨rfl, h⟩
  · refine .inl ⟨rfl, rfl, fun y hy => ?_⟩
    rcases List.mem_append.1 hy with hy | hy
    · exact h y hy
    · rw [List.mem_singleton.1 hy]; exact hx
  · refine .inr ⟨rfl, ?_⟩
    unfold greatO at h ⊢
    have e : good (p ++ [x]) = good p := by
      funext y
      rw [Bool.eq_iff_iff, good_iff, good_iff]
      constructor
      · rintro ⟨a, b⟩; exact ⟨a, fun z hz => b z (List.mem_append_left _ hz)⟩
      · rintro ⟨a, b⟩
        refine ⟨a, fun z hz => ?_⟩
        rcases List.mem_append.1 hz with hz | hz
        · exact b z hz
        · rw [List.mem_singleton.1 hz]; exact .inl hx
    rw [e, List.find?_append, h]; rfl
theorem St.best {p : List Nat} {best : Nat} (h : St p best true) : isNan best = false ∧ ∀ y ∈ p, isNan y = true ∨ key y ≤ key best := by
  rcases h with ⟨h, _⟩ | ⟨_, h⟩
  · cases h
  · exact (good_iff _ _).1 (List.find?_some h)
theorem St.more {p : List Nat} {best x : Nat} (h : St p best true) (hx : isNan x = false) (hk : key best < key x) : St (p ++ [x]) x true := by
  obtain ⟨hb1, hb2⟩ := h.best
  refine .inr ⟨rfl, ?_⟩
  unfold greatO
  rw [List.find?_append]
  have h1 : p.find? (good (p ++ [x])) = none := by
    rw [List.find?_eq_none]
    intro y hy hg
    obtain ⟨g1, g2⟩ := (good_iff _ _).1 hg
    have := g2 x (List.mem_append_right _ (List.mem_singleton.2 rfl))
    have h3 := hb2 y hy
    rw [hx] at this
    rw [g1] at h3
    simp at this h3
    omega
  have h2 : good (p ++ [x]) x = true := by
    rw [good_iff]
    refine ⟨hx, fun y hy => ?_⟩
    rcases List.mem_append.1 hy with hy | hy
    · rcases hb2 y hy with h | h
      · exact .inl h
      · exact .inr (by omega)
    · rw [List.mem_singleton.1 hy]; exact .inr (Int.le_refl _)
  rw [h1]; simp [h2]
theorem St.less {p : List Nat} {best x : Nat} (h : St p best true) (_ : isNan x = false) (hk : key x ≤ key best) : St (p ++ [x]) best true := by
  obtain ⟨hb1, hb2⟩ := h.best
  rcases h with ⟨h, _⟩ | ⟨_, h⟩
  · cases h
  refine .inr ⟨rfl, ?_⟩
  unfold greatO at h ⊢
  obtain ⟨hg, l1, l2, e, ha⟩ := List.find?_eq_some_iff_append.1 h
  rw [List.find?_append]
  have : p.find? (good (p ++ [x])) = some best := by
    rw [List.find?_eq_some_iff_append]
    refine ⟨?_, l1, l2, e, fun a hm => ?_⟩
    · rw [good_iff]
      refine ⟨hb1, fun y hy => ?_⟩
      rcases List.mem_append.1 hy with hy | hy
      · exact hb2 y hy
      · rw [List.mem_singleton.1 hy]; exact .inr hk
    · have h1 := ha a hm
      cases hc : good (p ++ [x]) a
      · rfl
      · obtain ⟨g1, g2⟩ := (good_iff _ _).1 hc
        have : good p a = true := (good_iff _ _).2 ⟨g1, fun z hz => g2 z (List.mem_append_left _ hz)⟩
        rw [this] at h1; cases h1
  rw [this]; rfl
theorem St.done {l : List Nat} {best : Nat} {found : Bool} (h : St l best found) : (greatO l).getD 0 = best ∧ (greatO l).isSome = found := by
  rcases h with ⟨rfl, rfl, h⟩ | ⟨rfl, h⟩
  · unfold greatO; rw [great_nan h]; exact ⟨rfl, rfl⟩
  · rw [h]; exact ⟨rfl, rfl⟩
theorem take_snocD (l : List Nat) (i : Nat) (h : i < l.length) : l.take (i + 1) = l.take i ++ [l.getD i 0] := by
  rw [List.take_succ_eq_append_getElem h]
  simp [List.getD_eq_getElem?_getD, h]

set_option maxHeartbeats 4000000 in
theorem great_any (a : Option Addr) (len cap : Nat) (l : List Nat) (w : World) (hs : Fs w a len l) (hl : len ≤ 1000) :
    Calls Try.prog 14 #[.slice a len cap] w fun e w' => e = .returned (.tuple #[.float .f64 ((greatO l).getD 0), .bool (greatO l).isSome]) ∧ w = w' := by
  have HS := Lib.hid hs
  have HL := Lib.hid hs.1
  clear hs
  go_enter Try.func14, Try.ntmps14
  go_wp2_with fail
  go_loop [4, 5, 12] (fun b' f' i' => ∃ (b : Nat) (f : Bool) (i : Nat), i ≤ len ∧ b' = .float .f64 b ∧ f' = .bool f ∧ i' = .int .i64 i ∧ Hid (St (l.take i) b f)) (fun _ _ i' => len - (intOf i').toNat)
  case atStart => exact ⟨0, false, 0, Nat.zero_le _, rfl, rfl, rfl, Lib.hid (.inl ⟨rfl, rfl, by simp⟩)⟩
  case round =>
    obtain ⟨best, f, i, hi, rfl, rfl, rfl, HT⟩ := hrel
    by_cases hlt : i < len
    · obtain ⟨b, o, rfl, hcc⟩ := HS.out.some (by omega)
      have c0 := hcc i hlt
      have HE := Lib.hid (take_snocD l i (by have := HL.out; omega))
      obtain ⟨x, hx⟩ : ∃ x, x = l.getD i 0 := ⟨_, rfl⟩
      rw [← hx] at c0 HE
      clear hcc hx
      cases hn : isNan x
      · cases f with
        | false =>
          have HT2 := Lib.hid (HT.out.first hn)
          have HN := Lib.hid hn
          clear hn
          go_wp2_with fail
          refine (cmp_any _ _ _).mono ?_
          rintro e w1 ⟨rfl, rfl⟩
          go_wp2_with fail
          refine (isNaN_any _ _).mono ?_
          rintro e w1 ⟨rfl, rfl⟩
          rw [HN.out]
          go_wp2_with fail
          go_round
          case rel => exact ⟨x, true, i + 1, by omega, rfl, rfl, by go_num, Lib.hid (by rw [HE.out]; exact HT2.out)⟩
          case measure => simp [intOf]; omega
        | true =>
          have hb := HT.out.best.1
          have hok : cmpOk x best = true := by unfold cmpOk; rw [hn, hb]; rfl
          have HOK := Lib.hid hok
          have HN := Lib.hid hn
          by_cases hk : key best < key x
          · have HT2 := Lib.hid (HT.out.more hn hk)
            have hv : cmpV x best = 1 := by unfold cmpV cmpI; rw [hn, hb]; simp [hk]; omega
            have HV := Lib.hid hv
            clear hn hb hok hk hv
            go_wp2_with fail
            refine (cmp_any _ _ _).mono ?_
            rintro e w1 ⟨rfl, rfl⟩
            rw [HOK.out, HV.out]
            go_wp2_with fail
            refine (isNaN_any _ _).mono ?_
            rintro e w1 ⟨rfl, rfl⟩
            rw [HN.out]
            go_wp2_with fail
            go_round
            case rel => exact ⟨x, true, i + 1, by omega, rfl, rfl, by go_num, Lib.hid (by rw [HE.out]; exact HT2.out)⟩
            case measure => simp [intOf]; omega
          · have HT2 := Lib.hid (HT.out.less hn (by omega))
            have hv : cmpV x best ≤ 0 := by unfold cmpV cmpI; rw [hn, hb]; simp [hk]; split <;> omega
            clear hn hb hok hk
            go_wp2_with fail
            refine (cmp_any _ _ _).mono ?_
            rintro e w1 ⟨rfl, rfl⟩
            rw [HOK.out]
            generalize cmpV x best = v at *
            go_wp2_with fail
            refine (isNaN_any _ _).mono ?_
            rintro e w1 ⟨rfl, rfl⟩
            rw [HN.out]
            go_wp2_with fail
            go_round
            case rel => exact ⟨best, true, i + 1, by omega, rfl, rfl, by go_num, Lib.hid (by rw [HE.out]; exact HT2.out)⟩
            case measure => simp [intOf]; omega
      · have HT2 := Lib.hid (HT.out.nan hn)
        have HN := Lib.hid hn
        clear hn
        go_wp2_with fail
        refine (cmp_any _ _ _).mono ?_
        rintro e w1 ⟨rfl, rfl⟩
        go_wp2_with fail
        refine (isNaN_any _ _).mono ?_
        rintro e w1 ⟨rfl, rfl⟩
        rw [HN.out]
        go_wp2_with fail
        go_round
        case rel => exact ⟨best, f, i + 1, by omega, rfl, rfl, by go_num, Lib.hid (by rw [HE.out]; exact HT2.out)⟩
        case measure => simp [intOf]; omega
    · obtain rfl : i = len := by omega
      have HD := Lib.hid (show (greatO l).getD 0 = best ∧ (greatO l).isSome = f by
        have := HT.out
        rw [List.take_of_length_le (by have := HL.out; omega)] at this
        exact this.done)
      go_wp2_with fail
      go_ret2
      exact ⟨by rw [HD.out.1, HD.out.2]; rfl, rfl⟩
def gtB (y x : Nat) : Bool := Ieee.double.order y x == some .gt
def goodTo (l : List Nat) (k x : Nat) : Bool := !isNan x && (l.take k).all fun y => !gtB y x
theorem goodTo_full (l : List Nat) (x k : Nat) (h : l.length ≤ k) : goodTo l k x = good l x := by unfold goodTo good gtB; rw [List.take_of_length_le h]
theorem goodTo_snoc (l : List Nat) (k x : Nat) (h : k < l.length) : goodTo l (k + 1) x = (goodTo l k x && !gtB (l.getD k 0) x) := by
  unfold goodTo
  rw [take_snocD l k h, List.all_append, Bool.and_assoc]
  simp
theorem find_none {l : List Nat} {i : Nat} (h : ∀ j, j < i → good l (l.getD j 0) = false) (hi : l.length ≤ i) : greatO l = none := by
  unfold greatO
  rw [List.find?_eq_none]
  intro y hy
  obtain ⟨j, hj, e⟩ := List.getElem_of_mem hy
  have := h j (by omega)
  rw [show l.getD j 0 = y by simp [List.getD_eq_getElem?_getD, hj, e]] at this
  rw [this]; simp
theorem find_at {l : List Nat} {i : Nat} (h : ∀ j, j < i → good l (l.getD j 0) = false) (hi : i < l.length) (hg : good l (l.getD i 0) = true) : greatO l = some (l.getD i 0) := by
  unfold greatO
  rw [List.find?_eq_some_iff_append]
  have e : l.getD i 0 = l[i] := by simp [List.getD_eq_getElem?_getD, hi]
  refine ⟨hg, l.take i, l.drop (i + 1), ?_, fun a ha => ?_⟩
  · rw [e, ← List.drop_eq_getElem_cons hi, List.take_append_drop]
  · obtain ⟨j, hj, e2⟩ := List.getElem_of_mem ha
    have hj' : j < i := by simp at hj; omega
    have := h j hj'
    rw [show l.getD j 0 = a by simp at e2; simp [List.getD_eq_getElem?_getD, show j < l.length by omega, e2]] at this
    rw [this]; rfl

theorem below_drewN {B : Nat} {a w : World} (h : Below B a w) (n : Nat) : Below B a (w.drewN n) := h.trans ⟨rfl, rfl, rfl, Nat.le_refl _, fun _ _ => rfl⟩

set_option maxHeartbeats 8000000 in
set_option maxRecDepth 100000 in
theorem refGreat_any (a : Option Addr) (len cap : Nat) (l : List Nat) (w : World) (hs : Fs w a len l) (hl : len ≤ 1000) :
    Calls Try.prog 15 #[.slice a len cap] w fun e w' => e = .returned (.tuple #[.float .f64 ((greatO l).getD 0), .bool (greatO l).isSome]) ∧ Below w.heap.size w w' := by
  have HS := Lib.hid hs
  have HL := Lib.hid hs.1
  clear hs
  go_enter Try.func15, Try.ntmps15
  go_wp2_with fail
  go_loopw [9] (fun i' wr => ∃ i : Nat, i ≤ len ∧ i' = .int .i64 i ∧ Hid (∀ j, j < i → good l (l.getD j 0) = false) ∧ Below w.heap.size w wr) (fun i' _ => len - (intOf i').toNat)
  case atStart => exact ⟨0, Nat.zero_le _, rfl, Lib.hid (fun j hj => absurd hj (Nat.not_lt_zero _)), Below.refl _ _⟩
  case round =>
    obtain ⟨wa, rfl⟩ : ∃ wa : World, wa = wr := ⟨_, rfl⟩
    obtain ⟨i, hi, rfl, HG, hW⟩ := hrel
    by_cases hlt : i < len
    · obtain ⟨b, o, rfl, hcc⟩ := (HS.out.after hW).some (by omega)
      have c0 := hcc i hlt
      have HC := Lib.hid hcc
      have hil : i < l.length := by have := HL.out; omega
      obtain ⟨x, hx⟩ : ∃ x, x = l.getD i 0 := ⟨_, rfl⟩
      rw [← hx] at c0
      have HX := Lib.hid hx
      have h1 : (FloatKind.f64.format.order x x == some .eq) = !isNan x := ord_self x
      have hlt' : (i : Int) < len := by omega
      clear hcc hx
      go_wp2_with fail
      go_quiet (fail)
      go_wp2_with fail
      clear h1
      go_loopw [5, 23] (fun t' k' wr => ∃ (t : Bool) (k : Nat), k ≤ len ∧ t' = .bool t ∧ k' = .int .i64 k ∧ Hid (t = goodTo l k x) ∧ Below wa.heap.size wa wr) (fun _ k' _ => len - (intOf k').toNat)
      case atStart => exact ⟨!isNan x, 0, Nat.zero_le _, rfl, rfl, Lib.hid (by simp [goodTo]), below_drewN (Below.refl _ _) _⟩
      case round =>
        obtain ⟨wb, rfl⟩ : ∃ wb : World, wb = wr := ⟨_, rfl⟩
        obtain ⟨t, k, hk, rfl, rfl, HT, hW2⟩ := hrel
        have c1 : wb.cell? ⟨b, o + i, none⟩ = some (.float .f64 x) := (hW2.cell (cell_lt c0)).trans c0
        by_cases hkt : k < len
        · obtain ⟨y, hy⟩ : ∃ y, y = l.getD k 0 := ⟨_, rfl⟩
          have c2 : wb.cell? ⟨b, o + k, none⟩ = some (.float .f64 y) := by
            have := HC.out k hkt
            rw [← hy] at this
            exact (hW2.cell (cell_lt this)).trans this
          have HK := Lib.hid (show goodTo l (k + 1) x = (goodTo l k x && !gtB y x) by rw [hy]; exact goodTo_snoc l k x (by have := HL.out; omega))
          have h1 : (FloatKind.f64.format.order y x == some .gt) = gtB y x := rfl
          have hkt' : (k : Int) < len := by omega
          clear hy
          cases t with
          | false =>
            go_wp2_with fail
            go_quiet (fail)
            go_wp2_with fail
            go_roundw
            case rel => exact ⟨false, k + 1, by omega, rfl, by go_num, Lib.hid (by rw [HK.out, ← HT.out]; rfl), below_drewN hW2 _⟩
            case measure => simp [intOf]; omega
          | true =>
            go_wp2_with fail
            go_quiet (fail)
            go_wp2_with fail
            go_roundw
            case rel => exact ⟨!gtB y x, k + 1, by omega, rfl, by go_num, Lib.hid (by rw [HK.out, ← HT.out]; rfl), below_drewN hW2 _⟩
            case measure => simp [intOf]; omega
        · obtain rfl : k = len := by omega
          have HT2 := Lib.hid (show t = good l (l.getD i 0) by rw [HT.out, goodTo_full l x _ (by have := HL.out; omega), HX.out])
          have hW3 := hW.trans (hW2.mono hW.size)
          cases t with
          | false =>
            go_wp2_with fail
            go_roundw
            case rel => exact ⟨i + 1, by omega, by go_num, Lib.hid (fun j hj => by rcases Nat.lt_or_ge j i with h | h; exact HG.out j h; rw [show j = i by omega]; exact HT2.out.symm), hW3⟩
            case measure => simp [intOf]; omega
          | true =>
            have HO := Lib.hid (show greatO l = some x by rw [HX.out]; exact find_at HG.out hil HT2.out.symm)
            go_wp2_with fail
            go_ret2
            exact ⟨by rw [HO.out]; rfl, hW3⟩
    · obtain rfl : i = len := by omega
      have HO := Lib.hid (find_none HG.out (by have := HL.out; omega))
      go_wp2_with fail
      go_ret2
      exact ⟨by rw [HO.out]; rfl, hW⟩

set_option maxHeartbeats 2000000 in
theorem NumberGreatest_walk (a0 : Option Addr) (len0 cap0 : Nat) (z0 : List Nat) (w : World) (w0 : IsRowF w a0 len0 cap0 z0) :
    Calls Try.prog 7 #[.slice a0 len0 cap0] w fun e w' => e = .returned (.bool true) ∧ Below w.heap.size w w' := by
  obtain ⟨s0, _, _⟩ := w0
  by_cases h0 : (100 : Int) < len0
  · clear s0
    go_enter Try.func7, Try.ntmps7
    go_wp2_with fail
    refine (awake_any _).mono ?_
    rintro e w1 ⟨rfl, hb⟩
    go_wp2_with fail
    go_ret
    exact ⟨rfl, hb⟩
  · replace h0 : (len0 : Int) ≤ 100 := by omega
    have S0 := Lib.hid s0
    clear s0
    go_enter Try.func7, Try.ntmps7
    go_wp2_with fail
    refine (great_any _ _ _ _ _ S0.out (by omega)).mono ?_
    rintro e w1 ⟨rfl, rfl⟩
    go_wp2_with fail
    refine (refGreat_any _ _ _ _ _ S0.out (by omega)).mono ?_
    rintro e w2 ⟨rfl, hb2⟩
    generalize (greatO z0).getD 0 = q at *
    generalize (greatO z0).isSome = ok at *
    have e1 : (ok == ok) = true := by simp
    have hag := Lib.hid (show Agree q q by
      cases hx : isNan q
      · exact .inr ⟨hx, rfl⟩
      · exact .inl ⟨hx, hx⟩)
    go_wp2_with fail
    refine (same_any _ _ hag.out _).mono ?_
    rintro e w6 ⟨rfl, rfl⟩
    go_wp2_with fail
    refine (awake_any _).mono ?_
    rintro e w7 ⟨rfl, hb⟩
    go_wp2_with fail
    go_ret
    exact ⟨rfl, hb2.trans (hb.mono hb2.size)⟩
end Go.Proofs.Ytjemnfiogekekaa

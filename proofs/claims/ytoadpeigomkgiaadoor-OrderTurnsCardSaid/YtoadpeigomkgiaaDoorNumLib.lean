/- bytes.Equal, HasPrefix, CutPrefix, IndexByte, Index, Cut as number.Get uses them: what they compute. -/
import Derived.Test.YtoadpeigomkgiaaDoorConv
import Derived.Test.YtoadpeigomkgiaaDoorNumMath
import Derived.Shelf.Bytes.SlIndexAt
import Derived.Laws.Externs
namespace Go.Proofs.YtoadpeigomkgiaaDoor
open Go.RowKit

theorem equal_any (a : Option Addr) (n c : Nat) (l : List UInt8) (b : Option Addr) (m d : Nat) (k : List UInt8) (w : World) (h1 : Sl w a n c l) (h2 : Sl w b m d k) :
    Calls Tryd.prog 81 #[.slice a n c, .slice b m d] w fun e w' => e = .returned (.bool (decide (l = k))) ∧ w = w' := by
  have q1 := conv_sl h1
  have q2 := conv_sl h2
  have hE : ((⟨l.toArray⟩ : ByteArray) = ⟨k.toArray⟩) = (l = k) := propext ⟨fun h => by simpa using congrArg (fun s : ByteArray => s.data.toList) h, fun h => by rw [h]⟩
  by_cases h : l = k
  · subst h
    go_enter Tryd.func81, Tryd.ntmps81
    go_wp2_with fail
    go_ret
    exact ⟨by simp, rfl⟩
  · have h3 : ¬ ((⟨l.toArray⟩ : ByteArray) = ⟨k.toArray⟩) := by rw [hE]; exact h
    rw [decide_eq_false h]
    have H := Lib.hid h
    clear hE h
    go_enter Tryd.func81, Tryd.ntmps81
    go_wp2_with fail
    go_ret
    exact ⟨by have := H.out; simp [this], rfl⟩




set_option maxRecDepth 100000 in
theorem hasDash_any (a : Option Addr) (n c : Nat) (l : List UInt8) (b : Option Addr) (d : Nat) (w : World) (h1 : Sl w a n c l) (h2 : Sl w b 1 d [45]) (hn : n ≤ 1000) :
    Calls Tryd.prog 71 #[.slice a n c, .slice b 1 d] w fun e w' => e = .returned (.bool (dash l)) ∧ w = w' := by
  have hl := h1.1
  cases l with
  | nil =>
    have hn1 : (n : Int) < 1 := by simp at hl; omega
    have hn2 : ¬ (1 : Int) ≤ n := by omega
    have hn3 : decide ((1 : Int) ≤ n) = false := by simpa using hn2
    clear hl
    go_enter Tryd.func71, Tryd.ntmps71
    go_wp2_with fail
    go_ret
    exact ⟨rfl, rfl⟩
  | cons x t =>
    have hn1 : (1 : Int) ≤ n := by simp at hl; omega
    have hcap := h1.2.1
    have hs := h1.take 1 (by omega)
    obtain ⟨ad, rfl⟩ : ∃ ad, a = some ad := by
      rcases h1.2.2.2.2 with h | ⟨p, q, h, _⟩
      · omega
      · exact ⟨_, h⟩
    have hx : decide ([x] = [45]) = dash (x :: t) := by by_cases e : x = 45 <;> simp [dash, e]
    simp only [List.take_succ_cons, List.take_zero] at hs
    have HH := Lib.hid hs
    clear hl hs
    go_enter Tryd.func71, Tryd.ntmps71
    go_wp2_with fail
    refine (equal_any _ _ _ _ _ _ _ _ _ HH.out h2).mono ?_
    rintro e w' ⟨rfl, rfl⟩
    rw [hx]
    go_wp2_with fail
    go_ret
    exact ⟨rfl, rfl⟩

def CutP (l : List UInt8) (w : World) (e : Ending) (w' : World) : Prop :=
  ∃ a' n' c', e = .returned (.tuple #[.slice a' n' c', .bool (dash l)]) ∧ Sl w a' n' c' (undash l) ∧ w = w'

theorem cutDash_any (a : Option Addr) (n c : Nat) (l : List UInt8) (b : Option Addr) (d : Nat) (w : World) (h1 : Sl w a n c l) (h2 : Sl w b 1 d [45]) (hn : n ≤ 1000) :
    Calls Tryd.prog 55 #[.slice a n c, .slice b 1 d] w (CutP l w) := by
  have hl := Lib.hid h1.1
  cases hd : dash l
  · go_enter Tryd.func55, Tryd.ntmps55
    go_wp2_with fail
    refine (hasDash_any _ _ _ _ _ _ _ h1 h2 hn).mono ?_
    rintro e w' ⟨rfl, rfl⟩
    rw [hd]
    go_wp2_with fail
    go_ret2
    exact ⟨a, n, c, by rw [hd]; rfl, by unfold undash; rw [hd]; exact h1, rfl⟩
  · have hn1 : 1 ≤ n := by
      rw [hl.out]
      cases l with
      | nil => cases hd
      | cons x t => simp
    have hcap := h1.2.1
    obtain ⟨p, q, rfl⟩ : ∃ p q, a = some ⟨p, q, none⟩ := by
      rcases h1.2.2.2.2 with h | ⟨p, q, h, _⟩
      · omega
      · exact ⟨p, q, h⟩
    have hs := Lib.hid (h1.drop 1 hn1)
    by_cases hc1 : c = 1
    · subst hc1
      obtain rfl : n = 1 := by omega
      go_enter Tryd.func55, Tryd.ntmps55
      go_wp2_with fail
      refine (hasDash_any _ _ _ _ _ _ _ h1 h2 hn).mono ?_
      rintro e w' ⟨rfl, rfl⟩
      rw [hd]
      go_wp2_with fail
      go_ret2
      exact ⟨_, _, _, by rw [hd]; rfl, by unfold undash; rw [hd]; simpa using hs.out, rfl⟩
    · go_enter Tryd.func55, Tryd.ntmps55
      go_wp2_with fail
      refine (hasDash_any _ _ _ _ _ _ _ h1 h2 hn).mono ?_
      rintro e w' ⟨rfl, rfl⟩
      rw [hd]
      go_wp2_with fail
      go_ret2
      exact ⟨_, _, _, by rw [hd]; rfl, by unfold undash; rw [hd]; have := hs.out; rw [if_neg hc1] at this; exact this, rfl⟩

theorem bytesOf_map (l : List UInt8) : Lib.bytesOf (l.map fun c => (c.toNat : Int)) = l := by
  unfold Lib.bytesOf
  rw [List.map_map]
  exact (List.map_congr_left (fun c _ => by simp)).trans (List.map_id l)

def idx (l : List UInt8) (c : UInt8) : Int := Lib.indexByte l c

theorem entry_sl {w : World} {a : Option Addr} {n c : Nat} {l : List UInt8} (h : Sl w a n c l) (x : UInt8) :
    (Extern.BytealgIndexByte.indexByte #[.slice a n c, .int .u8 (x.toNat : Int)]).run Tryd.prog w = .ok (.int .i64 (idx l x)) w := by
  have hx : ((x.toNat : Int)).toNat.toUInt8 = x := by simp
  unfold idx
  have hl := h.1
  cases a with
  | none =>
    have hc := h.2.2.2.1 rfl
    have : l = [] := List.eq_nil_of_length_eq_zero (by have := h.2.1; omega)
    subst this
    exact Lib.run_indexByteNil w n c _
  | some ad =>
    rcases h.2.2.2.2 with h0 | ⟨b, o, e, hc⟩
    · have : l = [] := List.eq_nil_of_length_eq_zero (by omega)
      subst this
      subst h0
      exact Lib.run_indexByteAt (P := Tryd.prog) w ad 0 c [] rfl (fun i hi => absurd hi (Nat.not_lt_zero _)) _
    · obtain rfl := Option.some.inj e
      have hh := Lib.run_indexByteSlice (P := Tryd.prog) w b o n c (l.map fun c => (c.toNat : Int)) (by simp [hl]) (fun i hi => by rw [hc i hi]; simp [List.getD_eq_getElem?_getD, show i < l.length by omega]) (x.toNat : Int)
      rw [bytesOf_map, hx] at hh
      exact hh

theorem indexByte_any (a : Option Addr) (n c : Nat) (l : List UInt8) (x : UInt8) (w : World) (h1 : Sl w a n c l) :
    Calls Tryd.prog 82 #[.slice a n c, .int .u8 (x.toNat : Int)] w fun e w' => e = .returned (.int .i64 (idx l x)) ∧ w = w' := by
  go_enter Tryd.func82, Tryd.ntmps82
  go_wp2_with fail
  rw [run_callFunc_extern Tryd.func89 (by kernel_rfl) (by kernel_rfl) (by kernel_rfl) (e := Extern.BytealgIndexByte.indexByte) (by kernel_rfl), entry_sl h1 x]
  simp only [Result.andThen]
  rw [Oper.upon_value]
  go_wp2_with fail
  go_ret
  exact ⟨rfl, rfl⟩

set_option maxHeartbeats 2000000 in
set_option maxRecDepth 100000 in
theorem indexDot_any (a : Option Addr) (n c : Nat) (l : List UInt8) (b o d : Nat) (x : UInt8) (w : World) (h1 : Sl w a n c l) (h2 : w.cell? ⟨b, o, none⟩ = some (.int .u8 (x.toNat : Int))) (_hd : 1 ≤ d) :
    Calls Tryd.prog 72 #[.slice a n c, .slice (some ⟨b, o, none⟩) 1 d] w fun e w' => e = .returned (.int .i64 (idx l x)) ∧ w = w' := by
  go_enter Tryd.func72, Tryd.ntmps72
  go_wp2_with fail
  refine (indexByte_any _ _ _ _ x _ h1).mono ?_
  rintro e w' ⟨rfl, rfl⟩
  go_wp2_with fail
  go_ret
  exact ⟨rfl, rfl⟩
end Go.Proofs.YtoadpeigomkgiaaDoor

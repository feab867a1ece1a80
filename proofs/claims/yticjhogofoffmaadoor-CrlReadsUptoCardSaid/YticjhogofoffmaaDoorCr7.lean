/- The program's Cancels: what it computes. -/
import Derived.Test.YticjhogofoffmaaDoorCrFr
import Derived.Test.YticjhogofoffmaaDoorCr6
namespace Go.Proofs.YticjhogofoffmaaDoor
open Go.RowKit
set_option linter.unusedSimpArgs false
set_option linter.unusedVariables false

theorem any_snoc (p : List UInt8 → Bool) (ls : List (List UInt8)) (k : Nat) (h : k < ls.length) : (ls.take (k + 1)).any p = ((ls.take k).any p || p ls[k]) := by
  rw [List.take_add_one, List.getElem?_eq_getElem h, List.any_append]
  simp only [Option.toList, List.any_cons, List.any_nil, Bool.or_false]
theorem any_at (p : List UInt8 → Bool) (ls : List (List UInt8)) (k : Nat) (h : k < ls.length) (hp : p ls[k] = true) : ls.any p = true := List.any_eq_true.2 ⟨_, List.getElem_mem h, hp⟩
theorem RowS.cell {w : World} {a : Option Addr} {n c : Nat} {Z : Nat → S3} {ls : List (List UInt8)} (h : RowS w a n c Z ls) {i : Nat} (hi : i < n) : ∃ b o, a = some ⟨b, o, none⟩ ∧ w.cell? ⟨b, o + i, none⟩ = some (.slice (Z i).a (Z i).n (Z i).c) := by
  rcases h.2.2.2.2.1 with h4 | ⟨b, o, rfl, h4⟩
  · omega
  · exact ⟨b, o, rfl, h4 i hi⟩

set_option maxHeartbeats 4000000 in
set_option maxRecDepth 100000 in
theorem cl_any (a : Option Addr) (n c : Nat) (l : List UInt8) (g : Nat) (a2 : Option Addr) (n2 c2 : Nat) (l2 : List UInt8) (w : World) (hs : Sl w a n c l) (hg : w.cell? ⟨g, 0, none⟩ = some (.slice a2 n2 c2)) (hs2 : Sl w a2 n2 c2 l2) :
    Calls Tryd.prog 24 #[.slice a n c, .pointer (some ⟨g, 0, none⟩)] w fun e w' => e = .returned (.bool (l == l2)) ∧ Below w.heap.size w w' := by
  have C := Lib.hid (eqB_any a n c l a2 n2 c2 l2 w hs hs2)
  clear hs hs2
  go_enter Tryd.func24, Tryd.ntmps24
  go_wp2_with fail
  refine C.out.mono ?_
  rintro e w1 ⟨rfl, hb1⟩
  go_wp2_with fail
  go_ret
  exact ⟨rfl, hb1⟩

def IdxP (ls : List (List UInt8)) (b : List UInt8) (w : World) (e : Ending) (w' : World) : Prop := ∃ k : Int, e = .returned (.int .i64 k) ∧ decide (0 ≤ k) = ls.any (· == b) ∧ Below w.heap.size w w'

set_option maxHeartbeats 8000000 in
set_option maxRecDepth 100000 in
theorem idx_any (a : Option Addr) (n c : Nat) (Z : Nat → S3) (ls : List (List UInt8)) (g : Nat) (a2 : Option Addr) (n2 c2 : Nat) (l2 : List UInt8) (w : World) (hr : RowS w a n c Z ls) (hg : Box w g 22 #[.slice a2 n2 c2]) (hs2 : Sl w a2 n2 c2 l2) :
    Calls Tryd.prog 42 #[.slice a n c, .func (.func 24) #[] #[.pointer (some ⟨g, 0, none⟩)]] w (IdxP ls l2 w) := by
  have HR := Lib.hid hr
  have HG := Lib.hid hg
  have HS := Lib.hid hs2
  have HN := Lib.hid hr.2.2.2.1
  have hle : n ≤ c := hr.1
  have hcm : c ≤ maxLen := hr.2.1
  unfold maxLen at hcm
  clear hr hg hs2
  go_enter Tryd.func42, Tryd.ntmps42
  go_wp2_with fail
  go_loopw [5, 8] (fun s i wr => ∃ k : Nat, k ≤ n ∧ i = .int .i64 k ∧ (ls.take k).any (· == l2) = false ∧ Below w.heap.size w wr) (fun _ i _ => n - (intOf i).toNat)
  case atStart => exact ⟨0, Nat.zero_le _, rfl, rfl, Below.refl _ _⟩
  case round =>
    obtain ⟨k, hkn, rfl, hany, hb⟩ := hrel
    have HA := Lib.hid hany
    clear hany
    by_cases hlt : k < n
    · obtain ⟨b, o, rfl, hcl⟩ := (HR.out.after hb).cell hlt
      have hkl : k < ls.length := by have := HN.out; omega
      have HZ := Lib.hid ((HR.out.2.2.2.2.2 k hkl).after hb)
      have C := Lib.hid (fun wz h1 h2 h3 => cl_any (Z k).a (Z k).n (Z k).c (ls[k]'hkl) g a2 n2 c2 l2 wz h1 h2 h3)
      obtain ⟨r, hrr⟩ : ∃ r, r = (ls[k] == l2) := ⟨_, rfl⟩
      rw [← hrr] at C
      have HRR := Lib.hid hrr
      clear hrr
      go_wp2_with fail
      refine (C.out _ HZ.out ((HG.out.after hb).cell 0 rfl) (HS.out.after hb)).mono ?_
      rintro e w1 ⟨rfl, hb1⟩
      have B1 := hb.trans (hb1.mono hb.size)
      clear C hcl HZ hb hb1
      cases r with
      | true =>
        go_wp2_with fail
        go_ret
        exact ⟨k, rfl, by rw [any_at (· == l2) ls k hkl HRR.out.symm]; simp, B1⟩
      | false =>
        go_wp2_with fail
        go_roundw
        case rel => exact ⟨k + 1, by omega, by go_num, by rw [any_snoc _ _ _ hkl, HA.out]; exact HRR.out.symm, B1⟩
        case measure => simp [intOf]; omega
    · go_wp2_with fail
      go_ret
      have hk : k = ls.length := by have := HN.out; omega
      refine ⟨-1, rfl, ?_, hb⟩
      have := HA.out
      rw [hk, List.take_length] at this
      rw [this]
      rfl

set_option maxHeartbeats 4000000 in
set_option maxRecDepth 100000 in
theorem has_any (a : Option Addr) (n c : Nat) (Z : Nat → S3) (ls : List (List UInt8)) (g : Nat) (a2 : Option Addr) (n2 c2 : Nat) (l2 : List UInt8) (w : World) (hr : RowS w a n c Z ls) (hg : Box w g 22 #[.slice a2 n2 c2]) (hs2 : Sl w a2 n2 c2 l2) :
    Calls Tryd.prog 23 #[.slice a n c, .func (.func 24) #[] #[.pointer (some ⟨g, 0, none⟩)]] w fun e w' => e = .returned (.bool (ls.any (· == l2))) ∧ Below w.heap.size w w' := by
  have C := Lib.hid (idx_any a n c Z ls g a2 n2 c2 l2 w hr hg hs2)
  clear hr hg hs2
  go_enter Tryd.func23, Tryd.ntmps23
  go_wp2_with fail
  refine C.out.mono ?_
  rintro e w1 ⟨k, rfl, hk, hb1⟩
  have HK := Lib.hid hk
  clear hk
  go_wp2_with fail
  go_ret
  exact ⟨by rw [← HK.out]; rfl, hb1⟩

def canB (ls : List (List UInt8)) (b : List UInt8) (p : Bool) (f : Int) (q : Bool) (u t : Int) : Bool := winIn p f q u t && ls.any (· == b)

set_option maxHeartbeats 8000000 in
set_option maxRecDepth 100000 in
theorem cancels_any (s : Bool) (ka : Option Addr) (kn kc : Nat) (a : Option Addr) (n c : Nat) (Z : Nat → S3) (ls : List (List UInt8)) (p : Bool) (f : Int) (q : Bool) (u : Int) (a2 : Option Addr) (n2 c2 : Nat) (l2 : List UInt8) (t : Int) (w : World) (hr : RowS w a n c Z ls) (hs2 : Sl w a2 n2 c2 l2) :
    Calls Tryd.prog 9 #[.agg #[.bool s, .slice ka kn kc, .slice a n c, .bool p, .int .i64 f, .bool q, .int .i64 u], .slice a2 n2 c2, .int .i64 t] w fun e w' => e = .returned (.bool (canB ls l2 p f q u t)) ∧ Below w.heap.size w w' := by
  have B0 : Below w.heap.size w ((w.alloc (.cells #[.bool s, .slice ka kn kc, .slice a n c, .bool p, .int .i64 f, .bool q, .int .i64 u] 29)).alloc (.cells #[.slice a2 n2 c2] 22)) := ((Below.refl _ _).alloc (Nat.le_refl _) _).alloc (by simp) _
  have K : Box ((w.alloc (.cells #[.bool s, .slice ka kn kc, .slice a n c, .bool p, .int .i64 f, .bool q, .int .i64 u] 29)).alloc (.cells #[.slice a2 n2 c2] 22)) w.heap.size 29 #[.bool s, .slice ka kn kc, .slice a n c, .bool p, .int .i64 f, .bool q, .int .i64 u] := (Box.new _ _ _).alloc _
  have G : Box ((w.alloc (.cells #[.bool s, .slice ka kn kc, .slice a n c, .bool p, .int .i64 f, .bool q, .int .i64 u] 29)).alloc (.cells #[.slice a2 n2 c2] 22)) (w.heap.size + 1) 22 #[.slice a2 n2 c2] := by
    have := Box.new (w.alloc (.cells #[.bool s, .slice ka kn kc, .slice a n c, .bool p, .int .i64 f, .bool q, .int .i64 u] 29)) 22 #[.slice a2 n2 c2]
    simpa using this
  have HR := Lib.hid (hr.after B0)
  have HS := Lib.hid (hs2.after B0)
  clear hr hs2
  have C := Lib.hid (fun w' => winIn_any p f q u t w')
  unfold canB
  obtain ⟨z, hz⟩ : ∃ z, z = ls.any (· == l2) := ⟨_, rfl⟩
  rw [← hz]
  have HZ := Lib.hid hz
  clear hz
  obtain ⟨r, hrr⟩ : ∃ r, r = winIn p f q u t := ⟨_, rfl⟩
  rw [← hrr]
  simp only [← hrr] at C
  clear hrr
  go_enter Tryd.func9, Tryd.ntmps9
  go_upto_region 1 with fail
  change Code.wp _ _ _ _ ((w.alloc (.cells #[.bool s, .slice ka kn kc, .slice a n c, .bool p, .int .i64 f, .bool q, .int .i64 u] 29)).alloc (.cells #[.slice a2 n2 c2] 22))
  replace K := Lib.hid K
  replace G := Lib.hid G
  generalize ((w.alloc (.cells #[.bool s, .slice ka kn kc, .slice a n c, .bool p, .int .i64 f, .bool q, .int .i64 u] 29)).alloc (.cells #[.slice a2 n2 c2] 22)) = w0 at *
  go_wp2_with (refine wpList_load_mid rfl 27 _ rfl w.heap.size 3 rfl [.bool p, .int .i64 f, .bool q, .int .i64 u] _ (Box.mid K.out 3 _ (mid4 rfl rfl rfl rfl)) Tryd.underlying27 rfl (by kernel_rfl) ?_)
  refine (C.out _).mono ?_
  rintro e w1 ⟨rfl, hb1⟩
  have B1 := B0.trans (hb1.mono B0.size)
  have k2 := (K.out.after hb1).cell 2 rfl
  have D := Lib.hid (has_any a n c Z ls (w.heap.size + 1) a2 n2 c2 l2 w1 (HR.out.after hb1) (G.out.after hb1) (HS.out.after hb1))
  clear C K G HR HS B0 hb1
  simp only [← HZ.out] at D
  cases r with
  | false =>
    go_wp2_with fail
    go_ret
    exact ⟨rfl, B1⟩
  | true =>
    go_wp2_with fail
    refine D.out.mono ?_
    rintro e w2 ⟨rfl, hb2⟩
    have B2 := B1.trans (hb2.mono B1.size)
    clear D
    go_wp2_with fail
    go_ret
    exact ⟨by simp, B2⟩

end Go.Proofs.YticjhogofoffmaaDoor

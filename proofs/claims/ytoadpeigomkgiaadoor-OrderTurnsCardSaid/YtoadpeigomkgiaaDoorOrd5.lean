/- order.of, order.Compare, order.Is: what they compute. -/
import Derived.Test.YtoadpeigomkgiaaDoorOrd4
namespace Go.Proofs.YtoadpeigomkgiaaDoor
open Go.RowKit

theorem mkF_any (f : Nat) (w : World) : Calls Tryd.prog 39 #[.func (.func f) #[] #[]] w fun e w' => e = .returned (.func (.func 51) #[] #[.pointer (some ⟨w.heap.size, 0, none⟩)]) ∧ w'.cell? ⟨w.heap.size, 0, none⟩ = some (.func (.func f) #[] #[]) ∧ Below w.heap.size w w' := by
  have hmf : ∀ fn first cap W, (Instr.makeFunc fn first cap).run Tryd.prog W = .ok (.func fn first cap) W := fun _ _ _ _ => rfl
  go_enter Tryd.func39, Tryd.ntmps39
  go_wp2_with fail
  go_ret
  exact ⟨rfl, by go_side, (Below.refl _ _).alloc (Nat.le_refl _) _⟩

theorem mkL_any (f : Nat) (w : World) : Calls Tryd.prog 41 #[.func (.func f) #[] #[]] w fun e w' => e = .returned (.func (.func 59) #[] #[.pointer (some ⟨w.heap.size, 0, none⟩)]) ∧ w'.cell? ⟨w.heap.size, 0, none⟩ = some (.func (.func f) #[] #[]) ∧ Below w.heap.size w w' := by
  have hmf : ∀ fn first cap W, (Instr.makeFunc fn first cap).run Tryd.prog W = .ok (.func fn first cap) W := fun _ _ _ _ => rfl
  go_enter Tryd.func41, Tryd.ntmps41
  go_wp2_with fail
  go_ret
  exact ⟨rfl, by go_side, (Below.refl _ _).alloc (Nat.le_refl _) _⟩

theorem of1_any (w : World) : Calls Tryd.prog 24 #[.int .u8 1] w fun e w' => e = .returned (.func (.func 38) #[] #[]) ∧ w = w' := by
  go_enter Tryd.func24, Tryd.ntmps24
  go_wp2_with fail
  go_ret
  exact ⟨rfl, rfl⟩

theorem of4_any (w : World) : Calls Tryd.prog 24 #[.int .u8 4] w fun e w' => e = .returned (.func (.func 43) #[] #[]) ∧ w = w' := by
  go_enter Tryd.func24, Tryd.ntmps24
  go_wp2_with fail
  go_ret
  exact ⟨rfl, rfl⟩

theorem of2_any (w : World) : Calls Tryd.prog 24 #[.int .u8 2] w fun e w' => ∃ g, e = .returned (.func (.func 51) #[] #[.pointer (some ⟨g, 0, none⟩)]) ∧ w'.cell? ⟨g, 0, none⟩ = some (.func (.func 40) #[] #[]) ∧ Below w.heap.size w w' := by
  go_enter Tryd.func24, Tryd.ntmps24
  go_wp2_with fail
  refine (mkF_any _ _).mono ?_
  rintro e w1 ⟨rfl, hg, hb⟩
  go_wp2_with fail
  go_ret
  exact ⟨_, rfl, hg, hb⟩

theorem of3_any (w : World) : Calls Tryd.prog 24 #[.int .u8 3] w fun e w' => ∃ g, e = .returned (.func (.func 59) #[] #[.pointer (some ⟨g, 0, none⟩)]) ∧ w'.cell? ⟨g, 0, none⟩ = some (.func (.func 42) #[] #[]) ∧ Below w.heap.size w w' := by
  go_enter Tryd.func24, Tryd.ntmps24
  go_wp2_with fail
  refine (mkL_any _ _).mono ?_
  rintro e w1 ⟨rfl, hg, hb⟩
  go_wp2_with fail
  go_ret
  exact ⟨_, rfl, hg, hb⟩

theorem of5_any (w : World) : Calls Tryd.prog 24 #[.int .u8 5] w fun e w' => ∃ g, e = .returned (.func (.func 59) #[] #[.pointer (some ⟨g, 0, none⟩)]) ∧ w'.cell? ⟨g, 0, none⟩ = some (.func (.func 44) #[] #[]) ∧ Below w.heap.size w w' := by
  go_enter Tryd.func24, Tryd.ntmps24
  go_wp2_with fail
  refine (mkL_any _ _).mono ?_
  rintro e w1 ⟨rfl, hg, hb⟩
  go_wp2_with fail
  go_ret
  exact ⟨_, rfl, hg, hb⟩

theorem ofN_any (o : Nat) (w : World) (h : isO o = false) : Calls Tryd.prog 24 #[.int .u8 o] w fun e w' => e = .returned .nilFunc ∧ w = w' := by
  have h' : o = 0 ∨ 6 ≤ o := by unfold isO at h; simp at h; omega
  have e1 : ((o : Int) == 1) = false := by rw [beq_eq_false_iff_ne]; omega
  have e2 : ((o : Int) == 2) = false := by rw [beq_eq_false_iff_ne]; omega
  have e3 : ((o : Int) == 3) = false := by rw [beq_eq_false_iff_ne]; omega
  have e4 : ((o : Int) == 4) = false := by rw [beq_eq_false_iff_ne]; omega
  have e5 : ((o : Int) == 5) = false := by rw [beq_eq_false_iff_ne]; omega
  clear h h'
  go_enter Tryd.func24, Tryd.ntmps24
  go_wp2_with fail
  go_ret
  exact ⟨rfl, rfl⟩

set_option maxRecDepth 100000 in
theorem comp1_any (a : Option Addr) (n c : Nat) (l : List UInt8) (b : Option Addr) (m d : Nat) (k : List UInt8) (w : World) (h1 : Sl w a n c l) (h2 : Sl w b m d k) (_hn : n ≤ 200) (_hm : m ≤ 200) :
    Calls Tryd.prog 9 #[.int .u8 1, .slice a n c, .slice b m d] w (CmpP 1 l k w) := by
  have hnn : ∀ fn fs cs W, (binOp .eql 39 (.func fn fs cs) .nilFunc).run Tryd.prog W = .ok (.bool false) W := fun _ _ _ _ => rfl
  go_enter Tryd.func9, Tryd.ntmps9
  go_wp2_with fail
  refine (of1_any _).mono ?_
  rintro e w1 ⟨rfl, rfl⟩
  go_wp2_with fail
  refine (alpha_any _ _ _ _ _ _ _ _ _ h1 h2).mono ?_
  rintro e w1 ⟨rfl, HB⟩
  go_wp2_with fail
  go_ret2
  exact ⟨rfl, HB⟩

set_option maxRecDepth 100000 in
theorem comp4_any (a : Option Addr) (n c : Nat) (l : List UInt8) (b : Option Addr) (m d : Nat) (k : List UInt8) (w : World) (h1 : Sl w a n c l) (h2 : Sl w b m d k) (hn : n ≤ 200) (hm : m ≤ 200) :
    Calls Tryd.prog 9 #[.int .u8 4, .slice a n c, .slice b m d] w (CmpP 4 l k w) := by
  have hnn : ∀ fn fs cs W, (binOp .eql 39 (.func fn fs cs) .nilFunc).run Tryd.prog W = .ok (.bool false) W := fun _ _ _ _ => rfl
  go_enter Tryd.func9, Tryd.ntmps9
  go_wp2_with fail
  refine (of4_any _).mono ?_
  rintro e w1 ⟨rfl, rfl⟩
  go_wp2_with fail
  refine (binary_any _ _ _ _ _ _ _ _ _ h1 h2 hn hm).mono ?_
  rintro e w1 ⟨rfl, HB⟩
  go_wp2_with fail
  go_ret2
  exact ⟨rfl, HB⟩

set_option maxRecDepth 100000 in
theorem comp2_any (a : Option Addr) (n c : Nat) (l : List UInt8) (b : Option Addr) (m d : Nat) (k : List UInt8) (w : World) (h1 : Sl w a n c l) (h2 : Sl w b m d k) (hn : n ≤ 200) (hm : m ≤ 200) :
    Calls Tryd.prog 9 #[.int .u8 2, .slice a n c, .slice b m d] w (CmpP 2 l k w) := by
  have hnn : ∀ fn fs cs W, (binOp .eql 39 (.func fn fs cs) .nilFunc).run Tryd.prog W = .ok (.bool false) W := fun _ _ _ _ => rfl
  go_enter Tryd.func9, Tryd.ntmps9
  go_wp2_with fail
  refine (of2_any _).mono ?_
  rintro e w1 ⟨g, rfl, hg, hb⟩
  go_wp2_with fail
  refine (numF_any _ _ _ _ _ _ _ _ _ _ hg (h1.after hb) (h2.after hb) hn hm).mono ?_
  rintro e w2 ⟨rfl, hb2⟩
  have HB := hb.trans (hb2.mono hb.size)
  go_wp2_with fail
  go_ret2
  exact ⟨rfl, HB⟩

set_option maxRecDepth 100000 in
theorem comp3_any (a : Option Addr) (n c : Nat) (l : List UInt8) (b : Option Addr) (m d : Nat) (k : List UInt8) (w : World) (h1 : Sl w a n c l) (h2 : Sl w b m d k) (_hn : n ≤ 200) (_hm : m ≤ 200) :
    Calls Tryd.prog 9 #[.int .u8 3, .slice a n c, .slice b m d] w (CmpP 3 l k w) := by
  have hnn : ∀ fn fs cs W, (binOp .eql 39 (.func fn fs cs) .nilFunc).run Tryd.prog W = .ok (.bool false) W := fun _ _ _ _ => rfl
  go_enter Tryd.func9, Tryd.ntmps9
  go_wp2_with fail
  refine (of3_any _).mono ?_
  rintro e w1 ⟨g, rfl, hg, hb⟩
  go_wp2_with fail
  refine (numC_any _ _ _ _ _ _ _ _ _ _ hg (h1.after hb) (h2.after hb)).mono ?_
  rintro e w2 ⟨rfl, hb2⟩
  have HB := hb.trans (hb2.mono hb.size)
  go_wp2_with fail
  go_ret2
  exact ⟨rfl, HB⟩

set_option maxRecDepth 100000 in
theorem comp5_any (a : Option Addr) (n c : Nat) (l : List UInt8) (b : Option Addr) (m d : Nat) (k : List UInt8) (w : World) (h1 : Sl w a n c l) (h2 : Sl w b m d k) (_hn : n ≤ 200) (_hm : m ≤ 200) :
    Calls Tryd.prog 9 #[.int .u8 5, .slice a n c, .slice b m d] w (CmpP 5 l k w) := by
  have hnn : ∀ fn fs cs W, (binOp .eql 39 (.func fn fs cs) .nilFunc).run Tryd.prog W = .ok (.bool false) W := fun _ _ _ _ => rfl
  go_enter Tryd.func9, Tryd.ntmps9
  go_wp2_with fail
  refine (of5_any _).mono ?_
  rintro e w1 ⟨g, rfl, hg, hb⟩
  go_wp2_with fail
  refine (numD_any _ _ _ _ _ _ _ _ _ _ hg (h1.after hb) (h2.after hb)).mono ?_
  rintro e w2 ⟨rfl, hb2⟩
  have HB := hb.trans (hb2.mono hb.size)
  go_wp2_with fail
  go_ret2
  exact ⟨rfl, HB⟩

theorem ordV_no (o : Nat) (l : List UInt8) (h : isO o = false) : ordV o l = none := by
  have h' : o = 0 ∨ 6 ≤ o := by unfold isO at h; simp at h; omega
  unfold ordV
  rw [if_neg (by omega), if_neg (by omega), if_neg (by omega), if_neg (by omega), if_neg (by omega)]

set_option maxRecDepth 100000 in
theorem compare_any (o : Nat) (a : Option Addr) (n c : Nat) (l : List UInt8) (b : Option Addr) (m d : Nat) (k : List UInt8) (w : World) (h1 : Sl w a n c l) (h2 : Sl w b m d k) (hn : n ≤ 200) (hm : m ≤ 200) :
    Calls Tryd.prog 9 #[.int .u8 o, .slice a n c, .slice b m d] w (CmpP o l k w) := by
  cases ho : isO o
  · obtain ⟨q1, q2⟩ := okV_no1 o l k (ordV_no o l ho)
    unfold CmpP
    rw [q1, q2]
    have hnn : ∀ W, (binOp .eql 39 .nilFunc .nilFunc).run Tryd.prog W = .ok (.bool true) W := fun _ => rfl
    go_enter Tryd.func9, Tryd.ntmps9
    go_wp2_with fail
    refine (ofN_any _ _ ho).mono ?_
    rintro e w1 ⟨rfl, rfl⟩
    go_wp2_with fail
    go_ret2
    exact ⟨rfl, Below.refl _ _⟩
  · have h' : o = 1 ∨ o = 2 ∨ o = 3 ∨ o = 4 ∨ o = 5 := by unfold isO at ho; simp at ho; omega
    rcases h' with rfl | rfl | rfl | rfl | rfl
    · exact comp1_any _ _ _ _ _ _ _ _ _ h1 h2 hn hm
    · exact comp2_any _ _ _ _ _ _ _ _ _ h1 h2 hn hm
    · exact comp3_any _ _ _ _ _ _ _ _ _ h1 h2 hn hm
    · exact comp4_any _ _ _ _ _ _ _ _ _ h1 h2 hn hm
    · exact comp5_any _ _ _ _ _ _ _ _ _ h1 h2 hn hm

theorem is_any (o : Nat) (a : Option Addr) (n c : Nat) (l : List UInt8) (w : World) (h1 : Sl w a n c l) (hn : n ≤ 200) :
    Calls Tryd.prog 11 #[.int .u8 o, .slice a n c] w fun e w' => e = .returned (.bool (isV o l)) ∧ Below w.heap.size w w' := by
  have q : okV o l l = isV o l := by unfold okV; simp
  rw [← q]
  clear q
  go_enter Tryd.func11, Tryd.ntmps11
  go_wp2_with fail
  refine (compare_any _ _ _ _ _ _ _ _ _ _ h1 h1 hn hn).mono ?_
  rintro e w1 ⟨rfl, hb⟩
  go_wp2_with fail
  go_ret
  exact ⟨rfl, hb⟩
end Go.Proofs.YtoadpeigomkgiaaDoor

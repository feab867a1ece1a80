/- The base's order. -/
import Derived.Test.YtpkoniebbkkmjaaPtTwo
namespace Go.Proofs.Ytpkoniebbkkmjaa
open Go.RowKit
set_option linter.unusedVariables false

/-- doubling and adding, along bits (whether to add comes first); every number is reckoned before the next step -/
def lad (d xb yb : Nat) : List (Bool × Bool) → Nat → Nat → Nat → Bool
  | [], X, Y, Z => Nat.beq X 0 && Nat.beq Y Z
  | (ad, _) :: r, X, Y, Z =>
    match Nat.beq (X + Y + Z) 0 with
    | true => false
    | false => match ad with
      | false => lad d xb yb r (qX d X Y Z X Y Z) (qY d X Y Z X Y Z) (qZ d X Y Z X Y Z)
      | true => lad d xb yb r (qX d X Y Z xb yb 1) (qY d X Y Z xb yb 1) (qZ d X Y Z xb yb 1)
def ladN : List (Bool × Bool) → Nat → Nat
  | [], n => n
  | (ad, _) :: r, n => match ad with
    | false => ladN r (n + n)
    | true => ladN r (n + 1)
theorem lad_ok (xb yb : Nat) (p : PP) (hp : Rep3 xb yb 1 p) : ∀ (l : List (Bool × Bool)) (n X Y Z : Nat), Rep3 X Y Z (smul n p) → lad dN xb yb l X Y Z = true → smul (ladN l n) p = pzero
  | [], n, X, Y, Z, h, hl => by
    unfold lad at hl
    rw [Bool.and_eq_true] at hl
    obtain ⟨h1, h2⟩ := hl
    obtain rfl : X = 0 := Nat.eq_of_beq_eq_true h1
    obtain rfl : Y = Z := Nat.eq_of_beq_eq_true h2
    have h0 := rep_zero.toRep3
    refine (rep_same h h0).1 ⟨?_, ?_⟩
    · unfold fm; simp
    · unfold fm; simp
  | (ad, b) :: r, n, X, Y, Z, h, hl => by
    unfold lad at hl
    split at hl
    · cases hl
    · cases ad with
      | false =>
        have h2 : Rep3 (qX dN X Y Z X Y Z) (qY dN X Y Z X Y Z) (qZ dN X Y Z X Y Z) (smul (n + n) p) := by
          rw [smul_add hp.ok]
          exact rep3_add h h
        exact lad_ok xb yb p hp r (n + n) _ _ _ h2 hl
      | true =>
        have h2 : Rep3 (qX dN X Y Z xb yb 1) (qY dN X Y Z xb yb 1) (qZ dN X Y Z xb yb 1) (smul (n + 1) p) := by
          rw [smul_add hp.ok, smul_one hp.ok]
          exact rep3_add h hp
        exact lad_ok xb yb p hp r (n + 1) _ _ _ h2 hl
def ordL : List (Bool × Bool) := [(false, false), (true, false), (false, false), (false, false), (false, false), (false, false), (false, false), (false, false), (false, false), (false, false), (false, false), (false, false), (false, false), (false, false), (false, false), (false, false), (false, false), (false, false), (false, false), (false, false), (false, false), (false, false), (false, false), (false, false), (false, false), (false, false), (false, false), (false, false), (false, false), (false, false), (false, false), (false, false), (false, false), (false, false), (false, false), (false, false), (false, false), (false, false), (false, false), (false, false), (false, false), (false, false), (false, false), (false, false), (false, false), (false, false), (false, false), (false, false), (false, false), (false, false), (false, false), (false, false), (false, false), (false, false), (false, false), (false, false), (false, false), (false, false), (false, false), (false, false), (false, false), (false, false), (false, false), (false, false), (false, false), (false, false), (false, false), (false, false), (false, false), (false, false), (false, false), (false, false), (false, false), (false, false), (false, false), (false, false), (false, false), (false, false), (false, false), (false, false), (false, false), (false, false), (false, false), (false, false), (false, false), (false, false), (false, false), (false, false), (false, false), (false, false), (false, false), (false, false), (false, false), (false, false), (false, false), (false, false), (false, false), (false, false), (false, false), (false, false), (false, false), (false, false), (false, false), (false, false), (false, false), (false, false), (false, false), (false, false), (false, false), (false, false), (false, false), (false, false), (false, false), (false, false), (false, false), (false, false), (false, false), (false, false), (false, false), (false, false), (false, false), (false, false), (false, false), (false, false), (false, false), (false, false), (false, false), (false, false), (false, false), (false, false), (true, false), (false, false), (false, false), (true, false), (false, false), (false, false), (false, false), (true, false), (false, false), (true, false), (false, false), (false, false), (true, false), (false, false), (true, false), (false, false), (true, false), (false, false), (true, false), (false, false), (false, false), (true, false), (false, false), (true, false), (false, false), (true, false), (false, false), (true, false), (false, false), (true, false), (false, false), (false, false), (false, false), (true, false), (false, false), (true, false), (false, false), (true, false), (false, false), (false, false), (true, false), (false, false), (true, false), (false, false), (true, false), (false, false), (true, false), (false, false), (false, false), (true, false), (false, false), (false, false), (true, false), (false, false), (false, false), (false, false), (false, false), (true, false), (false, false), (false, false), (true, false), (false, false), (true, false), (false, false), (true, false), (false, false), (true, false), (false, false), (false, false), (true, false), (false, false), (true, false), (false, false), (true, false), (false, false), (true, false), (false, false), (false, false), (false, false), (true, false), (false, false), (true, false), (false, false), (true, false), (false, false), (false, false), (false, false), (true, false), (false, false), (true, false), (false, false), (false, false), (true, false), (false, false), (false, false), (true, false), (false, false), (true, false), (false, false), (false, false), (false, false), (true, false), (false, false), (false, false), (true, false), (false, false), (true, false), (false, false), (false, false), (false, false), (false, false), (false, false), (false, false), (false, false), (true, false), (false, false), (false, false), (false, false), (true, false), (false, false), (false, false), (false, false), (true, false), (false, false), (true, false), (false, false), (false, false), (false, false), (false, false), (true, false), (false, false), (true, false), (false, false), (false, false), (false, false), (false, false), (true, false), (false, false), (true, false), (false, false), (false, false), (true, false), (false, false), (false, false), (false, false), (true, false), (false, false), (false, false), (true, false), (false, false), (true, false), (false, false), (true, false), (false, false), (false, false), (false, false), (true, false), (false, false), (true, false), (false, false), (true, false), (false, false), (true, false), (false, false), (false, false), (true, false), (false, false), (false, false), (true, false), (false, false), (true, false), (false, false), (true, false), (false, false), (false, false), (true, false), (false, false), (false, false), (false, false), (true, false), (false, false), (true, false), (false, false), (true, false), (false, false), (true, false), (false, false), (true, false), (false, false), (false, false), (true, false), (false, false), (true, false), (false, false), (false, false), (true, false)]
def ordN : Nat := 7237005577332262213973186563042994240857116359379907606001950938285454250989
set_option maxRecDepth 100000 in
theorem ordL_is : ladN ordL 0 = ordN := by decide +kernel
set_option maxRecDepth 100000 in
theorem ord_lad : lad 37095705934669439343138083508754565189542113879843219016388785533085940283555 15112221349535400772501151409588531511454012693041857206046113283949847762202 46316835694926478169428394003475163141307993866256225615783033603165251855960 ordL 0 1 1 = true := by decide +kernel
attribute [local irreducible] fi dN xx rtN rtOk pw yB
theorem even_root (n x : Nat) (hn : n < P25) (hx : x < P25) (h0 : x % 2 = 0) (h2 : 0 < x) (h3 : (n % 2 == 1) = false) (h1 : n = x ∨ (n + x) % P25 = 0) : n = x := by
  have h7 : P25 % 2 = 1 := by decide +kernel
  have h4 : n % 2 ≠ 1 := by
    intro h
    rw [h] at h3
    cases h3
  generalize P25 = q at *
  rcases h1 with h1 | h1
  · exact h1
  · exfalso
    rcases Nat.lt_or_ge (n + x) q with h | h
    · rw [Nat.mod_eq_of_lt h] at h1
      omega
    · rw [Nat.mod_eq_sub_mod h, Nat.mod_eq_of_lt (by omega)] at h1
      omega
theorem root_even (u x : Nat) (hx : x < P25) (h0 : x % 2 = 0) (h2 : 0 < x) (hu : u = x * x % P25) : rtN u = x := by
  have hl : u < P25 := by rw [hu]; exact Nat.mod_lt _ p25_pos
  have h5 := (square_root x hx).2
  rw [← hu] at h5
  exact even_root _ x (rtN_lt u) hx h0 h2 (inverts_math u hl).2.1 h5
theorem xB_is : rtN (xx yB) = 15112221349535400772501151409588531511454012693041857206046113283949847762202 := root_even (xx yB) 15112221349535400772501151409588531511454012693041857206046113283949847762202 c7 (by decide) (by decide) (xxB.trans c6.symm)
theorem base_order : smul ordN pbase = pzero := by
  have h := base_rep.toRep3
  rw [xB_is] at h
  rw [show yB = 46316835694926478169428394003475163141307993866256225615783033603165251855960 from by unfold yB; rfl] at h
  have h0 : Rep3 0 1 1 (smul 0 pbase) := rep_zero.toRep3
  rw [← ordL_is]
  refine lad_ok _ _ pbase h ordL 0 0 1 1 h0 ?_
  rw [dN_is]
  exact ord_lad
theorem smul_mod (n : Nat) : smul n pbase = smul (n % ordN) pbase := by
  conv => lhs; rw [← Nat.div_add_mod n ordN]
  rw [smul_add pbase_ok, smul_mul pbase_ok, base_order, smul_pzero]
  rw [padd_comm pzero_ok (smul_ok pbase_ok _)]
  exact padd_zero (smul_ok pbase_ok _)
end Go.Proofs.Ytpkoniebbkkmjaa

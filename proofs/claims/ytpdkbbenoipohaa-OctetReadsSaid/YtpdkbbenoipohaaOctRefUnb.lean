/- the document's sign and Unbase64; octet.Unbase64: what they compute. -/
import Derived.Test.YtpdkbbenoipohaaOctRefB64
namespace Go.Proofs.Ytpdkbbenoipohaa
open Go.RowKit

/-- what 'sign' hands back -/
def SignOf (o : Option Nat) (w : World) (e : Ending) (w' : World) : Prop := ∃ v : Int, e = .returned (.tuple #[.int .u8 v, .bool o.isSome]) ∧ (∀ k : Nat, o = some k → v = k) ∧ w = w'

theorem sval_at (n : Nat) : ((n ≤ 42 ∨ (44 ≤ n ∧ n ≤ 46) ∨ (58 ≤ n ∧ n ≤ 64) ∨ (91 ≤ n ∧ n ≤ 96) ∨ 123 ≤ n) → sval n = none) ∧ (n = 43 → sval n = some 62) ∧ (n = 47 → sval n = some 63) ∧
    (48 ≤ n ∧ n ≤ 57 → sval n = some (n + 4)) ∧ (65 ≤ n ∧ n ≤ 90 → sval n = some (n - 65)) ∧ (97 ≤ n ∧ n ≤ 122 → sval n = some (n - 71)) := by
  unfold sval
  refine ⟨fun h => ?_, fun h => ?_, fun h => ?_, fun h => ?_, fun h => ?_, fun h => ?_⟩ <;> repeat' split
  all_goals first | rfl | omega

set_option maxHeartbeats 1600000 in
theorem refsign_any (c : UInt8) (w : World) : Calls Try.prog 22 #[.int .u8 (c.toNat : Int)] w (SignOf (sval c.toNat) w) := by
  obtain ⟨r, hr⟩ : ∃ r, r = sval c.toNat := ⟨_, rfl⟩
  have hb := c.toNat_lt
  have iv := sval_at c.toNat
  rw [← hr] at iv ⊢
  have HI := Lib.hid iv
  clear iv hr
  have : (((c.toNat : Int) ≤ 42)) ∨ (((43 : Int) ≤ (c.toNat : Int)) ∧ ((c.toNat : Int) ≤ 43)) ∨ (((44 : Int) ≤ (c.toNat : Int)) ∧ ((c.toNat : Int) ≤ 46)) ∨ (((47 : Int) ≤ (c.toNat : Int)) ∧ ((c.toNat : Int) ≤ 47)) ∨ (((48 : Int) ≤ (c.toNat : Int)) ∧ ((c.toNat : Int) ≤ 57)) ∨ (((58 : Int) ≤ (c.toNat : Int)) ∧ ((c.toNat : Int) ≤ 64)) ∨ (((65 : Int) ≤ (c.toNat : Int)) ∧ ((c.toNat : Int) ≤ 90)) ∨ (((91 : Int) ≤ (c.toNat : Int)) ∧ ((c.toNat : Int) ≤ 96)) ∨ (((97 : Int) ≤ (c.toNat : Int)) ∧ ((c.toNat : Int) ≤ 122)) ∨ (((123 : Int) ≤ (c.toNat : Int))) := by omega
  rcases this with h | ⟨h, h'⟩ | ⟨h, h'⟩ | ⟨h, h'⟩ | ⟨h, h'⟩ | ⟨h, h'⟩ | ⟨h, h'⟩ | ⟨h, h'⟩ | ⟨h, h'⟩ | h
  · obtain rfl := HI.out.1 (by omega)
    have q : ((c.toNat : Int) == 47) = false := by rw [beq_eq_false_iff_ne]; omega
    go_enter Try.func22, Try.ntmps22
    go_wp2_with fail
    go_ret2
    exact ⟨_, rfl, (fun k hk => by cases hk), rfl⟩
  · obtain rfl := HI.out.2.1 (by omega)
    have EV := Lib.hid (show ((62 : Nat) : Int) = 62 by omega)
    go_enter Try.func22, Try.ntmps22
    go_wp2_with fail
    go_ret2
    exact ⟨_, rfl, (fun k hk => by injection hk with hk; subst hk; rfl), rfl⟩
  · obtain rfl := HI.out.1 (by omega)
    have q : ((c.toNat : Int) == 47) = false := by rw [beq_eq_false_iff_ne]; omega
    go_enter Try.func22, Try.ntmps22
    go_wp2_with fail
    go_ret2
    exact ⟨_, rfl, (fun k hk => by cases hk), rfl⟩
  · obtain rfl := HI.out.2.2.1 (by omega)
    have q : ((c.toNat : Int) == 47) = true := by rw [beq_iff_eq]; omega
    have EV := Lib.hid (show ((63 : Nat) : Int) = 63 by omega)
    go_enter Try.func22, Try.ntmps22
    go_wp2_with fail
    go_ret2
    exact ⟨_, rfl, (fun k hk => by injection hk with hk; subst hk; rfl), rfl⟩
  · obtain rfl := HI.out.2.2.2.1 (by omega)
    have EV := Lib.hid (show (c.toNat : Int) - 48 + 52 = ((c.toNat + 4 : Nat) : Int) by omega)
    go_enter Try.func22, Try.ntmps22
    go_wp2_with fail
    go_ret2
    exact ⟨_, rfl, (fun k hk => by injection hk with hk; subst hk; exact EV.out), rfl⟩
  · obtain rfl := HI.out.1 (by omega)
    have q : ((c.toNat : Int) == 47) = false := by rw [beq_eq_false_iff_ne]; omega
    go_enter Try.func22, Try.ntmps22
    go_wp2_with fail
    go_ret2
    exact ⟨_, rfl, (fun k hk => by cases hk), rfl⟩
  · obtain rfl := HI.out.2.2.2.2.1 (by omega)
    have EV := Lib.hid (show (c.toNat : Int) - 65 = ((c.toNat - 65 : Nat) : Int) by omega)
    go_enter Try.func22, Try.ntmps22
    go_wp2_with fail
    go_ret2
    exact ⟨_, rfl, (fun k hk => by injection hk with hk; subst hk; exact EV.out), rfl⟩
  · obtain rfl := HI.out.1 (by omega)
    have q : ((c.toNat : Int) == 47) = false := by rw [beq_eq_false_iff_ne]; omega
    go_enter Try.func22, Try.ntmps22
    go_wp2_with fail
    go_ret2
    exact ⟨_, rfl, (fun k hk => by cases hk), rfl⟩
  · obtain rfl := HI.out.2.2.2.2.2 (by omega)
    have EV := Lib.hid (show (c.toNat : Int) - 97 + 26 = ((c.toNat - 71 : Nat) : Int) by omega)
    go_enter Try.func22, Try.ntmps22
    go_wp2_with fail
    go_ret2
    exact ⟨_, rfl, (fun k hk => by injection hk with hk; subst hk; exact EV.out), rfl⟩
  · obtain rfl := HI.out.1 (by omega)
    have q : ((c.toNat : Int) == 47) = false := by rw [beq_eq_false_iff_ne]; omega
    go_enter Try.func22, Try.ntmps22
    go_wp2_with fail
    go_ret2
    exact ⟨_, rfl, (fun k hk => by cases hk), rfl⟩
end Go.Proofs.Ytpdkbbenoipohaa

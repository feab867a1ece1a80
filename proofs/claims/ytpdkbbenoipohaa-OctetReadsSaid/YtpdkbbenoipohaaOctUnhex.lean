/- octet.Unhex: what it computes. -/
import Derived.Test.YtpdkbbenoipohaaOctHex
namespace Go.Proofs.Ytpdkbbenoipohaa
open Go.RowKit

theorem unhex_drop (s : ByteArray) (k : Nat) (hk : k + 1 < s.size) :
    unhex (s.data.toList.drop k) = match hval (s[k]'(by omega)).toNat, hval (s[k + 1]'hk).toNat with
      | some x, some y => (unhex (s.data.toList.drop (k + 2))).map (UInt8.ofNat (16 * x + y) :: ·)
      | _, _ => none := by
  have h1 : k < s.data.toList.length := by simpa using (by omega : k < s.size)
  have h2 : k + 1 < s.data.toList.length := by simpa using hk
  rw [List.drop_eq_getElem_cons h1, List.drop_eq_getElem_cons h2]
  rfl
theorem hvalI_some (c : UInt8) (v : Nat) (h : hval c.toNat = some v) : hvalI c = (v : Int) := by simp [hvalI, h]
theorem hvalI_none (c : UInt8) (h : hval c.toNat = none) : hvalI c = -1 := by simp [hvalI, h]
theorem hvalI_ge (c : UInt8) : -1 ≤ hvalI c := by unfold hvalI; split <;> omega

set_option maxHeartbeats 1000000 in
theorem unhex_any (s : ByteArray) (w : World) (hs : s.size ≤ 1000000000) :
    Calls Try.prog 10 #[.string s] w (Gave (unhex s.data.toList) (.int .i64 (errForm (unhex s.data.toList))) w.heap.size w) := by
  obtain ⟨R, hR⟩ : ∃ R, R = unhex s.data.toList := ⟨_, rfl⟩
  rw [← hR]
  have HR := Lib.hid hR
  clear hR
  by_cases ho : s.size % 2 = 1
  · have hodd : R = none := by rw [HR.out]; exact unhex_odd _ (by simpa using ho)
    subst hodd
    have h1 : (0 : Int) < (s.size : Int) % 2 := by omega
    go_enter Try.func10, Try.ntmps10
    go_wp2_with fail
    go_ret2
    exact ⟨none, 0, 0, rfl, sl_nil w, Below.refl _ _⟩
  · have h1 : ((s.size : Int) % 2) ≤ 0 := by omega
    have h2 : s.size % 2 = 0 := by omega
    have H2 := Lib.hid h2
    clear ho h2
    obtain ⟨i0, hi, hz0, hz1, hz2⟩ := info_parts bldInfo5
    go_enter Try.func10, Try.ntmps10
    go_wp2_with fail
    clear h1
    go_loopw [4, 5] (fun out i wr => ∃ (k : Nat) (d : List UInt8), k ≤ s.size ∧ Hid (k % 2 = 0) ∧ i = .int .i64 k ∧ wr.ownsRow w.heap.size 5 1 out d.length (Lib.byteCells d) ∧ Hid (R = (unhex (s.data.toList.drop k)).map (d ++ ·)) ∧ d.length ≤ k ∧ Below w.heap.size w wr)
      (fun _ i _ => s.size - (intOf i).toNat)
    case atStart => exact ⟨0, [], Nat.zero_le _, Lib.hid rfl, rfl, World.ownsRow_nil _ _ _ _, Lib.hid (by rw [HR.out]; simp), Nat.le_refl _, Below.refl _ _⟩
    case round =>
      obtain ⟨k, d, hk, HK, rfl, hown, HD, hdl, hW⟩ := hrel
      by_cases hlt : k < s.size
      · have hk1 : k + 1 < s.size := by have := HK.out; have := H2.out; omega
        have HU := Lib.hid (unhex_drop s k hk1)
        obtain ⟨c1, hc1⟩ : ∃ c1, c1 = s[k]'hlt := ⟨_, rfl⟩
        obtain ⟨c2, hc2⟩ : ∃ c2, c2 = s[k + 1]'hk1 := ⟨_, rfl⟩
        have HU' : Hid (unhex (s.data.toList.drop k) = match hval c1.toNat, hval c2.toNat with
            | some x, some y => (unhex (s.data.toList.drop (k + 2))).map (UInt8.ofNat (16 * x + y) :: ·)
            | _, _ => none) := by rw [hc1, hc2]; exact HU
        clear HU
        have e1 := hc1.symm
        have e2 := hc2.symm
        clear hc1 hc2
        cases h1 : hval c1.toNat with
        | none =>
          have q1 := hvalI_none c1 h1
          have HV := Lib.hid (show R = none by
            have := HD.out; rw [HU'.out, h1] at this; simpa using this)
          clear h1 HU' HD
          go_wp2_with fail
          go_quiet ((go_at_call 19; exact Calls.quiet_of_same (digit_any _ _)))
          go_wp2_with fail
          go_ret2
          exact ⟨none, 0, 0, by rw [HV.out]; rfl, by rw [HV.out]; exact sl_nil _, below_drewN hW _⟩
        | some x =>
          cases h2 : hval c2.toNat with
          | none =>
            have q1 := hvalI_some c1 x h1
            have q2 := hvalI_none c2 h2
            have HV := Lib.hid (show R = none by
              have := HD.out; rw [HU'.out, h1, h2] at this; simpa using this)
            clear h1 h2 HU' HD
            go_wp2_with fail
            go_quiet ((go_at_call 19; exact Calls.quiet_of_same (digit_any _ _)))
            go_wp2_with fail
            go_ret2
            exact ⟨none, 0, 0, by rw [HV.out]; rfl, by rw [HV.out]; exact sl_nil _, below_drewN hW _⟩
          | some y =>
            have q1 := hvalI_some c1 x h1
            have q2 := hvalI_some c2 y h2
            have lx := hval_lt _ _ h1
            have ly := hval_lt _ _ h2
            obtain ⟨z, hz⟩ : ∃ z : Nat, z = 16 * x + y := ⟨_, rfl⟩
            have q3 := i64_join x y lx ly
            rw [← hz] at q3
            have lz : z < 256 := by omega
            have HV := Lib.hid (show R = (unhex (s.data.toList.drop (k + 2))).map ((d ++ [UInt8.ofNat z]) ++ ·) by
              have := HD.out; rw [HU'.out, h1, h2] at this; rw [this, hz]; simp [Function.comp_def])
            clear h1 h2 HU' HD hz
            go_wp2_with fail
            go_quiet ((go_at_call 19; exact Calls.quiet_of_same (digit_any _ _)))
            have hownq : (wr.drewN nq).ownsRow w.heap.size 5 1 _ d.length (Lib.byteCells d) := hown
            go_wp2_with (at_builtin; go_loud (refine wpList_append_sl rfl (.tmp 33) (.tmp 39) 22 rfl w.heap.size 5 i0 Try.underlying22 hi hz0 hz1 hz2 _ d.length d rfl (hownq.alloc _) (some ⟨wr.heap.size, 0, none⟩) 1 1 [UInt8.ofNat z] rfl (sl_cell_nat _ _ z lz (cell_new _ _ _ rfl)) (by omega) (by have := hW.size; simp; omega) ?_); intro v1 w1 hown1 hg1)
            have hW1 := ((below_drewN hW nq).alloc (by have := hW.size; simp; omega) _).grown hg1 (by have := hW.size; simp; omega) (fun k hk => (hownq.lt k hk).1)
            go_wp2_with fail
            go_roundw
            case rel => exact ⟨k + 2, d ++ [UInt8.ofNat z], by omega, Lib.hid (by have := HK.out; omega), by go_num, by simpa using hown1, HV, by simp; omega, hW1⟩
            case measure => simp [intOf]; omega
      · obtain rfl : k = s.size := by omega
        have HV := Lib.hid (show R = some d by
          have := HD.out; rw [List.drop_of_length_le (by simp)] at this; simpa [unhex] using this)
        clear HD
        go_wp2_with fail
        obtain ⟨a, c, rfl, hsl⟩ := Sl.ofOwns hown
        go_ret2
        exact ⟨a, d.length, c, by rw [HV.out]; rfl, by rw [HV.out]; exact hsl, hW⟩
end Go.Proofs.Ytpdkbbenoipohaa

/- Unhex, Unbase64: what it computes, and that what it hands back is its own. -/
import Derived.Test.YtkbblhioncecmaaDoorNtM
namespace Go.Proofs.YtkbblhioncecmaaDoor
open Go.RowKit
set_option linter.unusedSimpArgs false
set_option linter.unusedVariables false

/-- bytes handed back, the call's own, or none -/
def GaveO (o : Option (List UInt8)) (v : Value) (B : Nat) (w : World) (e : Ending) (w' : World) : Prop :=
  ∃ a n c, e = .returned (.tuple #[.slice a n c, v]) ∧ Sl w' a n c (o.getD []) ∧ InB (fun k => B ≤ k) a n ∧ Below B w w'
set_option maxHeartbeats 1000000 in
set_option maxRecDepth 100000 in
theorem unhexO_any (s : ByteArray) (w : World) (hs : s.size ≤ 1000000000) :
    Calls Tryd.prog 66 #[.string s] w (GaveO (unhex s.data.toList) (.int .i64 (errForm (unhex s.data.toList))) w.heap.size w) := by
  obtain ⟨R, hR⟩ : ∃ R, R = unhex s.data.toList := ⟨_, rfl⟩
  rw [← hR]
  have HR := Lib.hid hR
  clear hR
  by_cases ho : s.size % 2 = 1
  · have hodd : R = none := by rw [HR.out]; exact unhex_odd _ (by simpa using ho)
    subst hodd
    have h1 : (0 : Int) < (s.size : Int) % 2 := by omega
    go_enter Tryd.func66, Tryd.ntmps66
    go_wp2_with fail
    go_ret2
    exact ⟨none, 0, 0, rfl, sl_nil w, .inl rfl, Below.refl _ _⟩
  · have h1 : ((s.size : Int) % 2) ≤ 0 := by omega
    have h2 : s.size % 2 = 0 := by omega
    have H2 := Lib.hid h2
    clear ho h2
    obtain ⟨i0, hi, hz0, hz1, hz2⟩ := info_parts bldInfo5
    go_enter Tryd.func66, Tryd.ntmps66
    go_wp2_with fail
    clear h1
    go_loopw [4, 5] (fun out i wr => ∃ (k : Nat) (d : List UInt8), k ≤ s.size ∧ Hid (k % 2 = 0) ∧ i = .int .i64 k ∧ wr.ownsRow w.heap.size 5 1 out d.length (Lib.byteCells d) ∧ Hid (R = (unhex (s.data.toList.drop k)).map (d ++ ·)) ∧ d.length ≤ k ∧ Below w.heap.size w wr)
      (fun _ i _ => s.size - (intOf i).toNat)
    case atStart => exact ⟨0, [], Nat.zero_le _, Lib.hid rfl, rfl, World.ownsRow_nil _ _ _ _, Lib.hid (by rw [HR.out]; simp), Nat.le_refl _, Below.refl _ _⟩
    case round =>
      obtain ⟨k, d, hk, HK, rfl, hown, HD, hdl, hW⟩ := hrel
      by_cases hlt : k < s.size
      · have hk1 : k + 1 < s.size := by have := HK.out; have := H2.out; omega
        have HU := Lib.hid (unhex_drop s k hk1)
        obtain ⟨c1, hc1⟩ : ∃ c1, c1 = s[k]'hlt := ⟨_, rfl⟩
        obtain ⟨c2, hc2⟩ : ∃ c2, c2 = s[k + 1]'hk1 := ⟨_, rfl⟩
        have HU' : Hid (unhex (s.data.toList.drop k) = match hval c1.toNat, hval c2.toNat with
            | some x, some y => (unhex (s.data.toList.drop (k + 2))).map (UInt8.ofNat (16 * x + y) :: ·)
            | _, _ => none) := by rw [hc1, hc2]; exact HU
        clear HU
        have e1 := hc1.symm
        have e2 := hc2.symm
        clear hc1 hc2
        cases h1 : hval c1.toNat with
        | none =>
          have q1 := hvalI_none c1 h1
          have HV := Lib.hid (show R = none by
            have := HD.out; rw [HU'.out, h1] at this; simpa using this)
          clear h1 HU' HD
          go_wp2_with fail
          go_quiet ((go_at_call 89; exact Calls.quiet_of_same (digit_any _ _)))
          go_wp2_with fail
          go_ret2
          exact ⟨none, 0, 0, by rw [HV.out]; rfl, by rw [HV.out]; exact sl_nil _, .inl rfl, below_drewN hW _⟩
        | some x =>
          cases h2 : hval c2.toNat with
          | none =>
            have q1 := hvalI_some c1 x h1
            have q2 := hvalI_none c2 h2
            have HV := Lib.hid (show R = none by
              have := HD.out; rw [HU'.out, h1, h2] at this; simpa using this)
            clear h1 h2 HU' HD
            go_wp2_with fail
            go_quiet ((go_at_call 89; exact Calls.quiet_of_same (digit_any _ _)))
            go_wp2_with fail
            go_ret2
            exact ⟨none, 0, 0, by rw [HV.out]; rfl, by rw [HV.out]; exact sl_nil _, .inl rfl, below_drewN hW _⟩
          | some y =>
            have q1 := hvalI_some c1 x h1
            have q2 := hvalI_some c2 y h2
            have lx := hval_lt _ _ h1
            have ly := hval_lt _ _ h2
            obtain ⟨z, hz⟩ : ∃ z : Nat, z = 16 * x + y := ⟨_, rfl⟩
            have q3 := i64_join x y lx ly
            rw [← hz] at q3
            have lz : z < 256 := by omega
            have HV := Lib.hid (show R = (unhex (s.data.toList.drop (k + 2))).map ((d ++ [UInt8.ofNat z]) ++ ·) by
              have := HD.out; rw [HU'.out, h1, h2] at this; rw [this, hz]; simp [Function.comp_def])
            clear h1 h2 HU' HD hz
            go_wp2_with fail
            go_quiet ((go_at_call 89; exact Calls.quiet_of_same (digit_any _ _)))
            have hownq : (wr.drewN nq).ownsRow w.heap.size 5 1 _ d.length (Lib.byteCells d) := hown
            go_wp2_with (at_builtin; go_loud (refine wpList_append_sl rfl (.tmp 33) (.tmp 39) 23 rfl w.heap.size 5 i0 Tryd.underlying23 hi hz0 hz1 hz2 _ d.length d rfl (hownq.alloc _) (some ⟨wr.heap.size, 0, none⟩) 1 1 [UInt8.ofNat z] rfl (sl_cell_nat _ _ z lz (cell_new _ _ _ rfl)) (by omega) (by have := hW.size; simp; omega) ?_); intro v1 w1 hown1 hg1)
            have hW1 := ((below_drewN hW nq).alloc (by have := hW.size; simp; omega) _).grown hg1 (by have := hW.size; simp; omega) (fun k hk => (hownq.lt k hk).1)
            go_wp2_with fail
            go_roundw
            case rel => exact ⟨k + 2, d ++ [UInt8.ofNat z], by omega, Lib.hid (by have := HK.out; omega), by go_num, by simpa using hown1, HV, by simp; omega, hW1⟩
            case measure => simp [intOf]; omega
      · obtain rfl : k = s.size := by omega
        have HV := Lib.hid (show R = some d by
          have := HD.out; rw [List.drop_of_length_le (by simp)] at this; simpa [unhex] using this)
        clear HD
        go_wp2_with fail
        obtain ⟨a, c, rfl, hsl⟩ := Sl.ofOwns hown
        go_ret2
        exact ⟨a, d.length, c, by rw [HV.out]; rfl, by rw [HV.out]; exact hsl, .inr (fun b o s e => (hown.lt b (by rw [e]; rfl)).1), hW⟩
set_option maxHeartbeats 8000000 in
set_option maxRecDepth 100000 in
theorem unbO_any (s : ByteArray) (w : World) (hs : s.size ≤ 100000) :
    Calls Tryd.prog 76 #[.string s] w (GaveO (unb64 s.data.toList) (.int .i64 (errForm (unb64 s.data.toList))) w.heap.size w) := by
  obtain ⟨R, hR⟩ : ∃ R, R = unb64 s.data.toList := ⟨_, rfl⟩
  rw [← hR]
  have HR := Lib.hid hR
  have HSL := Lib.hid (show s.toList = s.data.toList from Lib.toList_data s)
  clear hR
  obtain ⟨i0, hi, hz0, hz1, hz2⟩ := info_parts bldInfo5
  go_enter Tryd.func76, Tryd.ntmps76
  go_wp2_with fail
  go_loopw [4, 5] (fun out rest wr => ∃ (r : ByteArray) (d : List UInt8), rest = .string r ∧ wr.ownsRow w.heap.size 5 1 out d.length (Lib.byteCells d) ∧ Hid (unb s.data.toList = d ++ unb r.data.toList) ∧ d.length + r.size ≤ s.size ∧ Below w.heap.size w wr) (fun _ rest _ => strLen rest)
  case atStart => exact ⟨s, [], rfl, World.ownsRow_nil _ _ _ _, Lib.hid (by simp), by simp, Below.refl _ _⟩
  case round =>
    obtain ⟨wa, rfl⟩ : ∃ wa : World, wa = wr := ⟨_, rfl⟩
    obtain ⟨r, d, rfl, hown, HD, hdl, hW⟩ := hrel
    by_cases hlt : 4 ≤ r.size
    · have hlt' : (4 : Int) ≤ (r.size : Int) := by omega
      have HU := Lib.hid (unb_drop r hlt)
      have hex : (r.extract 4 r.size).size = r.size - 4 := by simp
      obtain ⟨r', hr'⟩ : ∃ r', r' = r.extract 4 r.size := ⟨_, rfl⟩
      rw [← hr'] at HU hex
      have HEX := Lib.hid hex
      have er := hr'.symm
      obtain ⟨c0, hc0⟩ : ∃ c, c = r[0]'(by omega) := ⟨_, rfl⟩
      obtain ⟨c1, hc1⟩ : ∃ c, c = r[1]'(by omega) := ⟨_, rfl⟩
      obtain ⟨c2, hc2⟩ : ∃ c, c = r[2]'(by omega) := ⟨_, rfl⟩
      obtain ⟨c3, hc3⟩ : ∃ c, c = r[3]'(by omega) := ⟨_, rfl⟩
      rw [← hc0, ← hc1, ← hc2, ← hc3] at HU
      have e0 := hc0.symm
      have e1 := hc1.symm
      have e2 := hc2.symm
      have e3 := hc3.symm
      clear hc0 hc1 hc2 hc3 hr' hex
      cases h0 : sval c0.toNat with
      | none =>
        have q0 := svI_none c0 h0
        have HV := Lib.hid (show dec4 c0 c1 c2 c3 = [] by simp only [dec4, h0])
        have HT := Lib.hid (show unb s.data.toList = d ++ unb r'.data.toList by rw [HD.out, HU.out, HV.out]; simp)
        clear h0 HU HD
        go_wp2_with fail
        refine wp_loop_rounds 5 ?_
        rw [rounds_succ]
        go_wp2_with fail
        refine (idx_any _ _).mono ?_
        rintro e wx ⟨rfl, rfl⟩
        go_wp2_with fail
        refine wp_loop_rounds 4 ?_
        rw [rounds_succ]
        go_wp2_with fail
        go_roundw
        case rel => exact ⟨r', d, rfl, by simpa using hown, HT, by have := HEX.out; simp; omega, hW⟩
        case measure => have := HEX.out; simp [strLen]; omega
      | some k0 =>
        cases h1 : sval c1.toNat with
        | none =>
          have q0 := svI_some c0 k0 h0
          have l0 : k0 < 64 := sval_lt ⟨c0.toNat, c0.toNat_lt⟩ k0 h0
          have q1 := svI_none c1 h1
          obtain ⟨X0, hX0⟩ : ∃ X : Nat, X = k0 * 262144 := ⟨_, rfl⟩
          have f0 := u32_first k0 262144 (by omega)
          rw [← hX0] at f0
          simp at f0
          have HV := Lib.hid (show dec4 c0 c1 c2 c3 = [] by simp only [dec4, h0, h1])
          have HT := Lib.hid (show unb s.data.toList = d ++ unb r'.data.toList by rw [HD.out, HU.out, HV.out]; simp)
          have bX0 : X0 < 16777216 := by omega
          clear h0 h1 hX0 HU HD
          go_wp2_with fail
          refine wp_loop_rounds 5 ?_
          rw [rounds_succ]
          go_wp2_with fail
          refine (idx_any _ _).mono ?_
          rintro e wx ⟨rfl, rfl⟩
          go_wp2_with fail
          rw [rounds_succ]
          go_wp2_with fail
          refine (idx_any _ _).mono ?_
          rintro e wx ⟨rfl, rfl⟩
          go_wp2_with fail
          refine wp_loop_rounds 4 ?_
          rw [rounds_succ]
          go_wp2_with fail
          go_roundw
          case rel => exact ⟨r', d, rfl, by simpa using hown, HT, by have := HEX.out; simp; omega, hW⟩
          case measure => have := HEX.out; simp [strLen]; omega
        | some k1 =>
          cases h2 : sval c2.toNat with
          | none =>
            have q0 := svI_some c0 k0 h0
            have l0 : k0 < 64 := sval_lt ⟨c0.toNat, c0.toNat_lt⟩ k0 h0
            have q1 := svI_some c1 k1 h1
            have l1 : k1 < 64 := sval_lt ⟨c1.toNat, c1.toNat_lt⟩ k1 h1
            have q2 := svI_none c2 h2
            obtain ⟨X0, hX0⟩ : ∃ X : Nat, X = k0 * 262144 := ⟨_, rfl⟩
            have f0 := u32_first k0 262144 (by omega)
            rw [← hX0] at f0
            simp at f0
            obtain ⟨X1, hX1⟩ : ∃ X : Nat, X = k0 * 262144 + k1 * 4096 := ⟨_, rfl⟩
            have f1 := u32_next X0 k1 4096 18 (by omega) (by omega) (by omega) (by omega)
            rw [show X0 + k1 * 4096 = X1 by omega] at f1
            simp at f1
            obtain ⟨z0, hz0'⟩ : ∃ z : Nat, z = X1 / 65536 % 256 := ⟨_, rfl⟩
            have HV := Lib.hid (show dec4 c0 c1 c2 c3 = [UInt8.ofNat z0] by
              simp only [dec4, h0, h1, h2]
              rw [show k0 * 262144 + k1 * 4096 = X1 from hX1.symm, hz0', ofNat_256])
            have g0 : (X1 : Int) / 65536 = (z0 : Int) := by omega
            have lz0 : z0 < 256 := by omega
            have HT := Lib.hid (show unb s.data.toList = (d ++ [UInt8.ofNat z0]) ++ unb r'.data.toList by rw [HD.out, HU.out, HV.out]; simp)
            have bX0 : X0 < 16777216 := by omega
            have bX1 : X1 < 16777216 := by omega
            clear h0 h1 h2 hX0 hX1 hz0' HU HD
            go_wp2_with fail
            refine wp_loop_rounds 5 ?_
            rw [rounds_succ]
            go_wp2_with fail
            refine (idx_any _ _).mono ?_
            rintro e wx ⟨rfl, rfl⟩
            go_wp2_with fail
            rw [rounds_succ]
            go_wp2_with fail
            refine (idx_any _ _).mono ?_
            rintro e wx ⟨rfl, rfl⟩
            go_wp2_with fail
            rw [rounds_succ]
            go_wp2_with fail
            refine (idx_any _ _).mono ?_
            rintro e wx ⟨rfl, rfl⟩
            go_wp2_with fail
            refine wp_loop_rounds 4 ?_
            rw [rounds_succ]
            go_wp2_with (at_builtin; go_loud (refine wpList_append_sl rfl (.tmp 42) (.tmp 49) 23 rfl w.heap.size 5 i0 Tryd.underlying23 hi hz0 hz1 hz2 _ (d.length) (d) rfl (hown.alloc _) _ 1 1 [UInt8.ofNat z0] rfl (sl_cell_nat _ _ z0 lz0 (cell_new _ _ _ rfl)) (by omega) (by have := hW.size; simp; omega) ?_); intro v1 w1 hown1 hg1)
            have hW1 := (hW.alloc hW.size _).grown hg1 (by have := hW.size; simp; omega) (fun t ht => (hown.lt t ht).1)
            rw [rounds_succ]
            go_wp2_with fail
            go_roundw
            case rel => exact ⟨r', d ++ [UInt8.ofNat z0], rfl, by simpa using hown1, HT, by have := HEX.out; simp; omega, hW1⟩
            case measure => have := HEX.out; simp [strLen]; omega
          | some k2 =>
            cases h3 : sval c3.toNat with
            | none =>
              have q0 := svI_some c0 k0 h0
              have l0 : k0 < 64 := sval_lt ⟨c0.toNat, c0.toNat_lt⟩ k0 h0
              have q1 := svI_some c1 k1 h1
              have l1 : k1 < 64 := sval_lt ⟨c1.toNat, c1.toNat_lt⟩ k1 h1
              have q2 := svI_some c2 k2 h2
              have l2 : k2 < 64 := sval_lt ⟨c2.toNat, c2.toNat_lt⟩ k2 h2
              have q3 := svI_none c3 h3
              obtain ⟨X0, hX0⟩ : ∃ X : Nat, X = k0 * 262144 := ⟨_, rfl⟩
              have f0 := u32_first k0 262144 (by omega)
              rw [← hX0] at f0
              simp at f0
              obtain ⟨X1, hX1⟩ : ∃ X : Nat, X = k0 * 262144 + k1 * 4096 := ⟨_, rfl⟩
              have f1 := u32_next X0 k1 4096 18 (by omega) (by omega) (by omega) (by omega)
              rw [show X0 + k1 * 4096 = X1 by omega] at f1
              simp at f1
              obtain ⟨X2, hX2⟩ : ∃ X : Nat, X = k0 * 262144 + k1 * 4096 + k2 * 64 := ⟨_, rfl⟩
              have f2 := u32_next X1 k2 64 12 (by omega) (by omega) (by omega) (by omega)
              rw [show X1 + k2 * 64 = X2 by omega] at f2
              simp at f2
              obtain ⟨z0, hz0'⟩ : ∃ z : Nat, z = X2 / 65536 % 256 := ⟨_, rfl⟩
              obtain ⟨z1, hz1'⟩ : ∃ z : Nat, z = X2 / 256 % 256 := ⟨_, rfl⟩
              have HV := Lib.hid (show dec4 c0 c1 c2 c3 = [UInt8.ofNat z0, UInt8.ofNat z1] by
                simp only [dec4, h0, h1, h2, h3]
                rw [show k0 * 262144 + k1 * 4096 + k2 * 64 = X2 from hX2.symm, hz0', hz1', ofNat_256, ofNat_256])
              have g0 : (X2 : Int) / 65536 = (z0 : Int) := by omega
              have lz0 : z0 < 256 := by omega
              have g1 : (X2 : Int) / 256 % 256 = (z1 : Int) := by omega
              have lz1 : z1 < 256 := by omega
              have HT := Lib.hid (show unb s.data.toList = (d ++ [UInt8.ofNat z0, UInt8.ofNat z1]) ++ unb r'.data.toList by rw [HD.out, HU.out, HV.out]; simp)
              have bX0 : X0 < 16777216 := by omega
              have bX1 : X1 < 16777216 := by omega
              have bX2 : X2 < 16777216 := by omega
              clear h0 h1 h2 h3 hX0 hX1 hX2 hz0' hz1' HU HD
              go_wp2_with fail
              refine wp_loop_rounds 5 ?_
              rw [rounds_succ]
              go_wp2_with fail
              refine (idx_any _ _).mono ?_
              rintro e wx ⟨rfl, rfl⟩
              go_wp2_with fail
              rw [rounds_succ]
              go_wp2_with fail
              refine (idx_any _ _).mono ?_
              rintro e wx ⟨rfl, rfl⟩
              go_wp2_with fail
              rw [rounds_succ]
              go_wp2_with fail
              refine (idx_any _ _).mono ?_
              rintro e wx ⟨rfl, rfl⟩
              go_wp2_with fail
              rw [rounds_succ]
              go_wp2_with fail
              refine (idx_any _ _).mono ?_
              rintro e wx ⟨rfl, rfl⟩
              go_wp2_with fail
              refine wp_loop_rounds 4 ?_
              rw [rounds_succ]
              go_wp2_with (at_builtin; go_loud (refine wpList_append_sl rfl (.tmp 42) (.tmp 49) 23 rfl w.heap.size 5 i0 Tryd.underlying23 hi hz0 hz1 hz2 _ (d.length) (d) rfl (hown.alloc _) _ 1 1 [UInt8.ofNat z0] rfl (sl_cell_nat _ _ z0 lz0 (cell_new _ _ _ rfl)) (by omega) (by have := hW.size; simp; omega) ?_); intro v1 w1 hown1 hg1)
              have hW1 := (hW.alloc hW.size _).grown hg1 (by have := hW.size; simp; omega) (fun t ht => (hown.lt t ht).1)
              rw [rounds_succ]
              go_wp2_with (at_builtin; go_loud (refine wpList_append_sl rfl (.tmp 42) (.tmp 49) 23 rfl w.heap.size 5 i0 Tryd.underlying23 hi hz0 hz1 hz2 _ (d.length + 1) (d ++ [UInt8.ofNat z0]) rfl (hown1.alloc _) _ 1 1 [UInt8.ofNat z1] rfl (sl_cell_nat _ _ z1 lz1 (cell_new _ _ _ rfl)) (by omega) (by have := hW1.size; simp; omega) ?_); intro v2 w2 hown2 hg2)
              have hW2 := (hW1.alloc hW1.size _).grown hg2 (by have := hW1.size; simp; omega) (fun t ht => (hown1.lt t ht).1)
              rw [rounds_succ]
              go_wp2_with fail
              go_roundw
              case rel => exact ⟨r', d ++ [UInt8.ofNat z0, UInt8.ofNat z1], rfl, by simpa using hown2, HT, by have := HEX.out; simp; omega, hW2⟩
              case measure => have := HEX.out; simp [strLen]; omega
            | some k3 =>
              have q0 := svI_some c0 k0 h0
              have l0 : k0 < 64 := sval_lt ⟨c0.toNat, c0.toNat_lt⟩ k0 h0
              have q1 := svI_some c1 k1 h1
              have l1 : k1 < 64 := sval_lt ⟨c1.toNat, c1.toNat_lt⟩ k1 h1
              have q2 := svI_some c2 k2 h2
              have l2 : k2 < 64 := sval_lt ⟨c2.toNat, c2.toNat_lt⟩ k2 h2
              have q3 := svI_some c3 k3 h3
              have l3 : k3 < 64 := sval_lt ⟨c3.toNat, c3.toNat_lt⟩ k3 h3
              obtain ⟨X0, hX0⟩ : ∃ X : Nat, X = k0 * 262144 := ⟨_, rfl⟩
              have f0 := u32_first k0 262144 (by omega)
              rw [← hX0] at f0
              simp at f0
              obtain ⟨X1, hX1⟩ : ∃ X : Nat, X = k0 * 262144 + k1 * 4096 := ⟨_, rfl⟩
              have f1 := u32_next X0 k1 4096 18 (by omega) (by omega) (by omega) (by omega)
              rw [show X0 + k1 * 4096 = X1 by omega] at f1
              simp at f1
              obtain ⟨X2, hX2⟩ : ∃ X : Nat, X = k0 * 262144 + k1 * 4096 + k2 * 64 := ⟨_, rfl⟩
              have f2 := u32_next X1 k2 64 12 (by omega) (by omega) (by omega) (by omega)
              rw [show X1 + k2 * 64 = X2 by omega] at f2
              simp at f2
              obtain ⟨X3, hX3⟩ : ∃ X : Nat, X = k0 * 262144 + k1 * 4096 + k2 * 64 + k3 := ⟨_, rfl⟩
              have f3 := u32_next X2 k3 1 6 (by omega) (by omega) (by omega) (by omega)
              rw [show X2 + k3 * 1 = X3 by omega] at f3
              simp at f3
              obtain ⟨z0, hz0'⟩ : ∃ z : Nat, z = X3 / 65536 % 256 := ⟨_, rfl⟩
              obtain ⟨z1, hz1'⟩ : ∃ z : Nat, z = X3 / 256 % 256 := ⟨_, rfl⟩
              obtain ⟨z2, hz2'⟩ : ∃ z : Nat, z = X3 % 256 := ⟨_, rfl⟩
              have HV := Lib.hid (show dec4 c0 c1 c2 c3 = [UInt8.ofNat z0, UInt8.ofNat z1, UInt8.ofNat z2] by
                simp only [dec4, h0, h1, h2, h3]
                rw [show k0 * 262144 + k1 * 4096 + k2 * 64 + k3 = X3 from hX3.symm, hz0', hz1', hz2', ofNat_256, ofNat_256, ofNat_256])
              have g0 : (X3 : Int) / 65536 = (z0 : Int) := by omega
              have lz0 : z0 < 256 := by omega
              have g1 : (X3 : Int) / 256 % 256 = (z1 : Int) := by omega
              have lz1 : z1 < 256 := by omega
              have g2 : (X3 : Int) % 256 = (z2 : Int) := by omega
              have lz2 : z2 < 256 := by omega
              have HT := Lib.hid (show unb s.data.toList = (d ++ [UInt8.ofNat z0, UInt8.ofNat z1, UInt8.ofNat z2]) ++ unb r'.data.toList by rw [HD.out, HU.out, HV.out]; simp)
              have bX0 : X0 < 16777216 := by omega
              have bX1 : X1 < 16777216 := by omega
              have bX2 : X2 < 16777216 := by omega
              have bX3 : X3 < 16777216 := by omega
              clear h0 h1 h2 h3 hX0 hX1 hX2 hX3 hz0' hz1' hz2' HU HD
              go_wp2_with fail
              refine wp_loop_rounds 5 ?_
              rw [rounds_succ]
              go_wp2_with fail
              refine (idx_any _ _).mono ?_
              rintro e wx ⟨rfl, rfl⟩
              go_wp2_with fail
              rw [rounds_succ]
              go_wp2_with fail
              refine (idx_any _ _).mono ?_
              rintro e wx ⟨rfl, rfl⟩
              go_wp2_with fail
              rw [rounds_succ]
              go_wp2_with fail
              refine (idx_any _ _).mono ?_
              rintro e wx ⟨rfl, rfl⟩
              go_wp2_with fail
              rw [rounds_succ]
              go_wp2_with fail
              refine (idx_any _ _).mono ?_
              rintro e wx ⟨rfl, rfl⟩
              go_wp2_with fail
              rw [rounds_succ]
              go_wp2_with fail
              refine wp_loop_rounds 4 ?_
              rw [rounds_succ]
              go_wp2_with (at_builtin; go_loud (refine wpList_append_sl rfl (.tmp 42) (.tmp 49) 23 rfl w.heap.size 5 i0 Tryd.underlying23 hi hz0 hz1 hz2 _ (d.length) (d) rfl (hown.alloc _) _ 1 1 [UInt8.ofNat z0] rfl (sl_cell_nat _ _ z0 lz0 (cell_new _ _ _ rfl)) (by omega) (by have := hW.size; simp; omega) ?_); intro v1 w1 hown1 hg1)
              have hW1 := (hW.alloc hW.size _).grown hg1 (by have := hW.size; simp; omega) (fun t ht => (hown.lt t ht).1)
              rw [rounds_succ]
              go_wp2_with (at_builtin; go_loud (refine wpList_append_sl rfl (.tmp 42) (.tmp 49) 23 rfl w.heap.size 5 i0 Tryd.underlying23 hi hz0 hz1 hz2 _ (d.length + 1) (d ++ [UInt8.ofNat z0]) rfl (hown1.alloc _) _ 1 1 [UInt8.ofNat z1] rfl (sl_cell_nat _ _ z1 lz1 (cell_new _ _ _ rfl)) (by omega) (by have := hW1.size; simp; omega) ?_); intro v2 w2 hown2 hg2)
              have hW2 := (hW1.alloc hW1.size _).grown hg2 (by have := hW1.size; simp; omega) (fun t ht => (hown1.lt t ht).1)
              rw [rounds_succ]
              go_wp2_with (at_builtin; go_loud (refine wpList_append_sl rfl (.tmp 42) (.tmp 49) 23 rfl w.heap.size 5 i0 Tryd.underlying23 hi hz0 hz1 hz2 _ (d.length + 1 + 1) (d ++ [UInt8.ofNat z0] ++ [UInt8.ofNat z1]) rfl (hown2.alloc _) _ 1 1 [UInt8.ofNat z2] rfl (sl_cell_nat _ _ z2 lz2 (cell_new _ _ _ rfl)) (by omega) (by have := hW2.size; simp; omega) ?_); intro v3 w3 hown3 hg3)
              have hW3 := (hW2.alloc hW2.size _).grown hg3 (by have := hW2.size; simp; omega) (fun t ht => (hown2.lt t ht).1)
              rw [rounds_succ]
              go_wp2_with fail
              go_roundw
              case rel => exact ⟨r', d ++ [UInt8.ofNat z0, UInt8.ofNat z1, UInt8.ofNat z2], rfl, by simpa using hown3, HT, by have := HEX.out; simp; omega, hW3⟩
              case measure => have := HEX.out; simp [strLen]; omega
    · have hlt' : (r.size : Int) < 4 := by omega
      have HX := Lib.hid (show unb s.data.toList = d by rw [HD.out, unb_short r (by omega)]; simp)
      clear HD
      obtain ⟨a1, c1, rfl, hS⟩ := Sl.ofOwns hown
      have HOWN : Hid (InB (fun k => w.heap.size ≤ k) a1 d.length) := Lib.hid (.inr (fun b o s e => (hown.lt b (by rw [e]; rfl)).1))
      go_wp2_with fail
      refine (base64_any _ _ _ _ _ hS (by omega)).mono ?_
      rintro e wz ⟨rfl, hbz⟩
      have hWz := hW.trans (hbz.mono hW.size)
      by_cases hq : b64 d = s.toList
      · have HR2 := Lib.hid (show R = some d by rw [HR.out, unb64, HX.out, if_pos (by rw [hq]; exact HSL.out)])
        go_wp2_with fail
        go_ret2
        exact ⟨a1, _, c1, by rw [HR2.out]; rfl, by rw [HR2.out]; exact hS.after hbz, HOWN.out, hWz⟩
      · have HR2 := Lib.hid (show R = none by rw [HR.out, unb64, HX.out, if_neg (by intro hh; exact hq (hh.trans HSL.out.symm))])
        replace hq : (b64 d == s.toList) = false := by simpa using hq
        go_wp2_with fail
        go_ret2
        exact ⟨none, 0, 0, by rw [HR2.out]; rfl, by rw [HR2.out]; exact sl_nil _, .inl rfl, hWz⟩
end Go.Proofs.YtkbblhioncecmaaDoor

/- field: the document's example; FieldGets: the walk. -/
import Derived.Test.YtddgkoheihlbdaaFldSame
import Derived.Test.YtddgkoheihlbdaaFld7
namespace Go.Proofs.Ytddgkoheihlbdaa
open Go.RowKit

def one2 : L5 := ⟨2, 0, 0, 0, 0⟩
def one3 : L5 := ⟨3, 0, 0, 0, 0⟩
theorem awake_val : (L5.sub one2 one3).val % P25 = 57896044618658097711785492504343953926634992332820282019728792003956564819948 := by decide +kernel

set_option maxRecDepth 100000 in
set_option maxHeartbeats 1000000 in
theorem awakeF_any (w : World) : Calls Try.prog 18 #[] w fun e w' => e = .returned (.bool true) ∧ Below w.heap.size w w' := by
  have hlt2 : one2.lt 4611686018427387904 := ⟨by decide, by decide, by decide, by decide, by decide⟩
  have hlt3 : one3.lt 9223372036854775808 := ⟨by decide, by decide, by decide, by decide, by decide⟩
  have H2 : Hid (∀ w : World, Calls Try.prog 20 #[.int .u64 2] w fun e w' => e = .returned one2.v ∧ Below w.heap.size w w') := Lib.hid (fun w : World => of_any 2 w (by decide))
  have H3 : Hid (∀ w : World, Calls Try.prog 20 #[.int .u64 3] w fun e w' => e = .returned one3.v ∧ Below w.heap.size w w') := Lib.hid (fun w : World => of_any 3 w (by decide))
  have HS := Lib.hid (fun w : World => sub_any one2 one3 w hlt2 hlt3)
  have HB := Lib.hid (fun w : World => bytes_any (one2.sub one3) w (tight_lt (sub_tight hlt2)))
  rw [awake_val] at HB
  have c0 : byteAt 57896044618658097711785492504343953926634992332820282019728792003956564819948 255 0 = 236 := by decide +kernel
  have c1 : byteAt 57896044618658097711785492504343953926634992332820282019728792003956564819948 255 1 = 255 := by decide +kernel
  have c31 : byteAt 57896044618658097711785492504343953926634992332820282019728792003956564819948 255 31 = 127 := by decide +kernel
  have g0 := bArr_get 57896044618658097711785492504343953926634992332820282019728792003956564819948 255 0 (by decide)
  have g1 := bArr_get 57896044618658097711785492504343953926634992332820282019728792003956564819948 255 1 (by decide)
  have g31 := bArr_get 57896044618658097711785492504343953926634992332820282019728792003956564819948 255 31 (by decide)
  rw [c0] at g0
  rw [c1] at g1
  rw [c31] at g31
  obtain ⟨C, hC⟩ : ∃ C, C = bArr 57896044618658097711785492504343953926634992332820282019728792003956564819948 255 := ⟨_, rfl⟩
  have HCS := Lib.hid (show C.size = 32 by rw [hC]; exact bArr_size _ _)
  have HC1 := Lib.hid (show C.all (·.oneCell') = true by rw [hC]; exact bArr_one _ _)
  rw [← hC] at g0 g1 g31 HB
  clear hC c0 c1 c31 hlt2 hlt3
  obtain ⟨V2, hV2⟩ : ∃ V2, V2 = one2.v := ⟨_, rfl⟩
  obtain ⟨V3, hV3⟩ : ∃ V3, V3 = one3.v := ⟨_, rfl⟩
  obtain ⟨VS, hVS⟩ : ∃ VS, VS = (one2.sub one3).v := ⟨_, rfl⟩
  rw [← hV2] at H2 HS
  rw [← hV3] at H3 HS
  rw [← hVS] at HS HB
  clear hV2 hV3 hVS
  go_enter Try.func18, Try.ntmps18
  go_upto_region 1 with fail
  go_step
  refine wpList_enter rfl 20 #[.int .u64 2] (by simp [go_sem]) _ _ (H2.out w) ?_
  intro w1 b1
  refine wpList_enter rfl 20 #[.int .u64 3] (by simp [go_sem, Act.put]) _ _ (H3.out w1) ?_
  intro w2 b2
  refine wpList_enter rfl 35 #[V2, V3] (by simp [go_sem, Act.put]) _ _ (HS.out w2) ?_
  intro w3 b3
  refine wpList_enter rfl 60 #[VS] (by simp [go_sem, Act.put]) _ _ (HB.out w3) ?_
  intro w4 b4
  refine wpList_alloc_box rfl 40 rfl (Array.replicate 32 (Value.int .u8 0)) (by intro w; simp [go_sem]; rfl) ?_
  refine wpList_store_box rfl 40 _ _ rfl (Box.new _ _ _) (by rfl) (by rfl) (by rw [HCS.out]; rfl) (by rw [HCS.out]; kernel_rfl) HC1.out ?_
  intro w5 hY hst
  have hB5 : Below w.heap.size w w5 := by
    have s1 := b1.size
    have s2 := b2.size
    have s3 := b3.size
    have s4 := b4.size
    exact hst.below w.heap.size w (by omega) ((((b1.trans (b2.mono (by omega))).trans (b3.mono (by omega))).trans (b4.mono (by omega))).alloc (by omega) _)
  clear hst b1 b2 b3 b4
  have x0 := hY.cell 0 g0
  have x1 := hY.cell 1 g1
  have x31 := hY.cell 31 g31
  simp only [Act.put, List.setIfInBounds_toArray, List.set_cons_zero, List.set_cons_succ]
  clear hY g0 g1 g31
  generalize w4.heap.size = O at *
  go_wp2_with fail
  go_ret
  exact ⟨rfl, hB5⟩

/-- five cells, each by itself -/
theorem five {w : World} {g : Nat} {T : TypeId} {a b c d e : Value} (h : Box w g T #[a, b, c, d, e]) : w.cell? ⟨g, 0, none⟩ = some a ∧ w.cell? ⟨g, 1, none⟩ = some b ∧ w.cell? ⟨g, 2, none⟩ = some c ∧ w.cell? ⟨g, 3, none⟩ = some d ∧ w.cell? ⟨g, 4, none⟩ = some e :=
  ⟨h.cell 0 rfl, h.cell 1 rfl, h.cell 2 rfl, h.cell 3 rfl, h.cell 4 rfl⟩

theorem zero_lt : L5.zero.lt 9223372036854775808 := ⟨by decide, by decide, by decide, by decide, by decide⟩
theorem same_zero (w : World) : Calls Try.prog 23 #[.agg #[.int .u64 0, .int .u64 0, .int .u64 0, .int .u64 0, .int .u64 0], .agg #[.int .u64 0, .int .u64 0, .int .u64 0, .int .u64 0, .int .u64 0]] w fun e w' => e = .returned (.bool true) ∧ Below w.heap.size w w' := by
  have := same_any L5.zero L5.zero w zero_lt zero_lt
  rw [beq_self_eq_true] at this
  exact this

set_option maxRecDepth 100000 in
set_option maxHeartbeats 1000000 in
theorem FieldGets_walk (a0 : Option Addr) (len0 cap0 : Nat) (z0 : List Int) (a1 : Int) (w : World) (w0 : IsRow .u8 w a0 len0 cap0 z0) (w1 : (Lit.int .u64 a1).wf = true) :
    Calls Try.prog 3 #[.slice a0 len0 cap0, .int .u64 a1] w fun e w' => e = .returned (.bool true) ∧ Below w.heap.size w w' := by
  obtain ⟨l0, s0⟩ := w0.sl
  clear w0
  obtain ⟨n, rfl, hn⟩ : ∃ n : Nat, a1 = n ∧ n < 18446744073709551616 := by
    simp [Lit.wf, IntKind.min, IntKind.max, IntKind.bits, IntKind.signed] at w1
    exact ⟨a1.toNat, by omega, by omega⟩
  clear w1
  by_cases h0 : (100 : Int) < len0
  · go_enter Try.func3, Try.ntmps3
    go_wp2_with fail
    refine (awakeF_any _).mono ?_
    rintro e w1 ⟨rfl, hb⟩
    go_wp2_with fail
    go_ret
    exact ⟨rfl, hb⟩
  · have hcar : car n < 8192 := by unfold car; omega
    have hlow := low_lt n
    have HOF : Hid (∀ w : World, Calls Try.prog 20 #[.int .u64 n] w fun e w' => e = .returned (.agg #[.int .u64 (low n : Nat), .int .u64 (car n : Nat), .int .u64 0, .int .u64 0, .int .u64 0]) ∧ Below w.heap.size w w') := Lib.hid (fun w => of_any n w hn)
    have HRO := Lib.hid (fun w : World => refOf_any n w hn)
    have HSM : Hid (∀ w : World, Calls Try.prog 21 #[.agg #[.int .u64 (low n : Nat), .int .u64 (car n : Nat), .int .u64 0, .int .u64 0, .int .u64 0], .agg (fArr (dig n))] w fun e w' => e = .returned (.bool true) ∧ Below w.heap.size w w') := by
      refine Lib.hid fun w => ?_
      have hv : (L5.mk (low n) (car n) 0 0 0).val = n := by
        have := car_low n
        simp only [L5.val]; omega
      have := sameLaw_any ⟨low n, car n, 0, 0, 0⟩ n w ⟨by simp only; omega, by simp only; omega, by simp only; omega, by simp only; omega, by simp only; omega⟩ (by omega)
      rw [hv, Nat.mod_eq_of_lt (by unfold P25; omega), beq_self_eq_true] at this
      exact this
    clear hn hcar hlow
    generalize low n = lo at *
    generalize car n = ca at *
    generalize fArr (dig n) = D at *
    -- what Get hands back
    have key : ∃ (x : L5) (e : Int), x.tight ∧ (∀ w', Below w.heap.size w w' → Calls Try.prog 19 #[.slice a0 len0 cap0] w' fun q w'' => q = .returned (.tuple #[x.v, .int .i64 e]) ∧ Below w'.heap.size w' w'') ∧
        (len0 < 32 → x = L5.zero ∧ e = 2) ∧ (32 < len0 → x = L5.zero ∧ e = 4) ∧ (len0 = 32 → (leNat l0 < P25 → x = L5.of (leNat l0) ∧ e = 0) ∧ (¬ leNat l0 < P25 → x = L5.zero ∧ e = 6)) := by
      have tz : L5.zero.tight := ⟨by decide, by decide, by decide, by decide, by decide⟩
      rcases Nat.lt_trichotomy len0 32 with h | h | h
      · exact ⟨L5.zero, 2, tz, fun w' _ => get_short a0 len0 cap0 w' h, fun _ => ⟨rfl, rfl⟩, fun h' => by omega, fun h' => by omega⟩
      · subst h
        by_cases hp : leNat l0 < P25
        · refine ⟨L5.of (leNat l0), 0, ?_, fun w' hb => ?_, fun h' => by omega, fun h' => by omega, fun _ => ⟨fun _ => ⟨rfl, rfl⟩, fun h => absurd hp h⟩⟩
          · obtain ⟨h1, h2, h3, h4, h5⟩ := of_lt (leNat l0)
            exact ⟨by omega, by omega, by omega, by omega, by omega⟩
          · have := get_any l0 a0 cap0 w' (s0.after hb)
            simpa [hp] using this
        · refine ⟨L5.zero, 6, tz, fun w' hb => ?_, fun h' => by omega, fun h' => by omega, fun _ => ⟨fun h => absurd h hp, fun _ => ⟨rfl, rfl⟩⟩⟩
          have := get_any l0 a0 cap0 w' (s0.after hb)
          simpa [hp] using this
      · exact ⟨L5.zero, 4, tz, fun w' _ => get_long a0 len0 cap0 w' h, fun h' => by omega, fun _ => ⟨rfl, rfl⟩, fun h' => by omega⟩
    obtain ⟨x, er, hxt, hget, hk1, hk2, hk3⟩ := key
    have HGET := Lib.hid hget
    have HK := Lib.hid (And.intro hk1 (And.intro hk2 hk3))
    have HXT := Lib.hid hxt
    clear hget hk1 hk2 hk3 hxt
    obtain ⟨xa, xb, xc, xd, xe⟩ := x
    go_enter Try.func3, Try.ntmps3
    go_upto_region 3 with fail
    go_step
    refine wpList_value rfl (.slice a0 len0 cap0) (by simp [go_sem]) ?_
    refine wpList_enter rfl 19 #[.slice a0 len0 cap0] (by simp [go_sem, Act.put]) _ _ (HGET.out w (Below.refl _ _)) ?_
    intro w1 hb1
    refine wpList_value rfl (.tuple #[.agg #[.int .u64 (xa : Nat), .int .u64 (xb : Nat), .int .u64 (xc : Nat), .int .u64 (xd : Nat), .int .u64 (xe : Nat)], .int .i64 er]) (by simp [go_sem, Act.put]) ?_
    refine wpList_value rfl (.agg #[.int .u64 (xa : Nat), .int .u64 (xb : Nat), .int .u64 (xc : Nat), .int .u64 (xd : Nat), .int .u64 (xe : Nat)]) (by simp [go_sem, Act.put]) ?_
    refine wpList_value rfl (.int .i64 er) (by simp [go_sem, Act.put]) ?_
    refine wpList_alloc_box rfl 27 rfl #[.int .u64 0, .int .u64 0, .int .u64 0, .int .u64 0, .int .u64 0] (by intro w; simp [go_sem]) ?_
    refine wpList_store_box (cells := #[.int .u64 (xa : Nat), .int .u64 (xb : Nat), .int .u64 (xc : Nat), .int .u64 (xd : Nat), .int .u64 (xe : Nat)]) rfl 27 (.tmp 5) (.tmp 17) rfl (Box.new _ _ _) (by simp [go_sem, Act.put]) (by simp [go_sem, Act.put]) rfl (by kernel_rfl) (gArr_one (L5.at ⟨xa, xb, xc, xd, xe⟩)) ?_
    intro w2 hX2 hst
    have hB2 := hst.below w.heap.size w (by have := hb1.size; omega) (hb1.alloc hb1.size _)
    have hS2 : w1.heap.size + 1 = w2.heap.size := by have := hst.size; simp at this; omega
    have hO2 : w.heap.size ≤ w1.heap.size := hb1.size
    clear hst hb1
    refine wpList_value rfl (.int .i64 er) (by simp [go_sem, Act.put]) ?_
    simp only [Act.put, List.setIfInBounds_toArray, List.set_cons_zero, List.set_cons_succ]
    generalize w1.heap.size = O at *
    go_upto_region 4 with fail
    go_step
    refine wpList_value rfl (.int .u64 n) (by simp [go_sem]) ?_
    refine wpList_enter rfl 20 #[.int .u64 n] (by simp [go_sem, Act.put]) _ _ (HOF.out w2) ?_
    intro w3 hb3
    refine wpList_alloc_box rfl 27 rfl #[.int .u64 0, .int .u64 0, .int .u64 0, .int .u64 0, .int .u64 0] (by intro w; simp [go_sem]) ?_
    refine wpList_store_box (cells := #[.int .u64 (lo : Nat), .int .u64 (ca : Nat), .int .u64 0, .int .u64 0, .int .u64 0]) rfl 27 (.tmp 7) (.tmp 20) rfl (Box.new _ _ _) (by simp [go_sem, Act.put]) (by simp [go_sem, Act.put]) rfl (by kernel_rfl) (gArr_one (L5.at ⟨lo, ca, 0, 0, 0⟩)) ?_
    intro w4 hY4 hst
    have hs3 := hb3.size
    have hX4 := hst.box ((hX2.after hb3).alloc _) (by omega)
    have hB4 := hst.below w.heap.size w (by omega) ((hB2.trans (hb3.mono (by omega))).alloc (by omega) _)
    have hS4 : w3.heap.size + 1 = w4.heap.size := by have := hst.size; simp at this; omega
    have hO4 : O + 1 ≤ w3.heap.size := by omega
    simp only [Act.put, List.setIfInBounds_toArray, List.set_cons_zero, List.set_cons_succ]
    clear hst hb3 hs3 hX2 hB2 hS2
    generalize w3.heap.size = O4 at *
    go_upto_region 5 with fail
    refine wp_region_made w4.heap.size w4 rfl (by kernel_rfl) (Below.refl _ _) ?_
    refine wpQ_load_box rfl 27 _ rfl hY4 (by rfl) (by omega) Try.underlying27 rfl (by kernel_rfl) ?_
    refine wpQ_move rfl _ (.inr rfl) ?_
    refine wpQ_call rfl 22 #[.int .u64 n] (fun w => by simp [go_sem, Act.put]) _ (Nat.le_refl _) HRO.out ?_
    refine wpQ_call rfl 21 #[.agg #[.int .u64 (lo : Nat), .int .u64 (ca : Nat), .int .u64 0, .int .u64 0, .int .u64 0], .agg D] (fun w => by simp [go_sem, Act.put]) _ (Nat.le_refl _) HSM.out ?_
    refine wpQ_run rfl (.bool false) (fun w _ => by simp [go_sem, Act.put]) ?_
    intro w5 hb5
    simp only [Act.put, List.setIfInBounds_toArray, List.set_cons_zero, List.set_cons_succ]
    have hX5 := hX4.after hb5
    have hB5 := hB4.trans (hb5.mono (by omega))
    have hs5 := hb5.size
    clear hb5 hX4 hY4 hB4
    have s5 := s0.after hB5
    rcases Nat.lt_trichotomy len0 32 with h | h | h
    · obtain ⟨hx, rfl⟩ := HK.out.1 h
      simp only [L5.zero, L5.mk.injEq] at hx
      obtain ⟨rfl, rfl, rfl, rfl, rfl⟩ := hx
      obtain ⟨c0, c1, c2, c3, c4⟩ := five hX5
      clear hX5
      go_wp2_with fail
      refine (same_zero _).mono ?_
      rintro e w6 ⟨rfl, hb6⟩
      have hB6 := hB5.trans (hb6.mono hB5.size)
      go_wp2_with fail
      refine (awakeF_any _).mono ?_
      rintro e w7 ⟨rfl, hb7⟩
      have hB7 := hB6.trans (hb7.mono hB6.size)
      clear hB5 hB6 hb6 hb7
      go_wp2_with fail
      go_ret
      exact ⟨rfl, hB7⟩
    · subst h
      have hlen : l0.length = 32 := s0.1.symm
      have HRAW := Lib.hid (refRaw_any l0 a0 cap0 w5 s5)
      have hY1 := Lib.hid (fArr_one (dig (leNat l0 % P25)))
      have hYs := Lib.hid (fArr_size (dig (leNat l0 % P25)))
      obtain ⟨Y, hYe⟩ : ∃ Y, Y = fArr (dig (leNat l0 % P25)) := ⟨_, rfl⟩
      rw [← hYe] at HRAW hY1 hYs
      have HYE := Lib.hid hYe
      clear hYe
      obtain ⟨r, hr⟩ : ∃ r, r = (leNat l0 % P25 == leNat l0) := ⟨_, rfl⟩
      rw [← hr] at HRAW
      have HR := Lib.hid hr
      clear hr
      have HL := Lib.hid hlen
      clear hlen
      go_upto_region 11 with fail
      go_step
      refine wpList_value rfl (.slice a0 32 cap0) (by simp [go_sem]) ?_
      refine wpList_enter rfl 24 #[.slice a0 32 cap0] (by simp [go_sem, Act.put]) _ _ HRAW.out ?_
      intro w6 hb6
      refine wpList_value rfl (.tuple #[.agg Y, .bool r]) (by simp [go_sem, Act.put]) ?_
      refine wpList_value rfl (.agg Y) (by simp [go_sem, Act.put]) ?_
      refine wpList_value rfl (.bool r) (by simp [go_sem, Act.put]) ?_
      refine wpList_alloc_box rfl 34 rfl (Array.replicate 16 (Value.int .u64 0)) (by intro w; simp [go_sem]; rfl) ?_
      refine wpList_store_box (cells := Y) rfl 34 (.tmp 8) (.tmp 55) rfl (Box.new _ _ _) (by simp [go_sem, Act.put]) (by simp [go_sem, Act.put]) (by rw [hYs.out]; rfl) (by rw [hYs.out]; kernel_rfl) hY1.out ?_
      intro w7 hY7 hst
      have hs6 := hb6.size
      have hX7 := hst.box ((hX5.after hb6).alloc _) (by omega)
      have hB7 := hst.below w.heap.size w (by omega) ((hB5.trans (hb6.mono (by omega))).alloc (by omega) _)
      have hS7 : w6.heap.size + 1 = w7.heap.size := by have := hst.size; simp at this; omega
      clear hst hb6 hX5 hB5 s5
      refine wpList_value rfl (.bool r) (by simp [go_sem, Act.put]) ?_
      simp only [Act.put, List.setIfInBounds_toArray, List.set_cons_zero, List.set_cons_succ]
      have hO6 : O + 1 ≤ w6.heap.size := by omega
      clear hs6 hS4 hs5
      generalize w6.heap.size = O6 at *
      by_cases hp : leNat l0 < P25
      · obtain ⟨hx, rfl⟩ := (HK.out.2.2 rfl).1 hp
        obtain rfl : r = true := by rw [HR.out, Nat.mod_eq_of_lt hp]; simp
        obtain ⟨b, o, rfl, hcell⟩ : ∃ b o, a0 = some ⟨b, o, none⟩ ∧ ∀ i, i < 32 → w.cell? ⟨b, o + i, none⟩ = some (.int .u8 ((l0.getD i 0).toNat : Int)) := by
          obtain ⟨h1, h2, h3, h5, h4⟩ := s0
          rcases h4 with h4 | h4
          · omega
          · exact h4
        have hbw := cell_lt (hcell 0 (by omega))
        have hc0 := hcell 0 (by omega)
        rw [Nat.add_zero] at hc0
        have hval : (L5.mk xa xb xc xd xe).val = leNat l0 := by
          rw [hx, of_val]; exact Nat.mod_eq_of_lt (by unfold P25 at hp; omega)
        have HSL : Hid (∀ w : World, Calls Try.prog 21 #[.agg #[.int .u64 (xa : Nat), .int .u64 (xb : Nat), .int .u64 (xc : Nat), .int .u64 (xd : Nat), .int .u64 (xe : Nat)], .agg Y] w fun e w' => e = .returned (.bool true) ∧ Below w.heap.size w w') := by
          refine Lib.hid fun w => ?_
          have := sameLaw_any (L5.mk xa xb xc xd xe) (leNat l0) w (tight_lt HXT.out) (by unfold P25 at hp; omega)
          rw [hval, Nat.mod_eq_of_lt hp, beq_self_eq_true] at this
          rw [HYE.out, Nat.mod_eq_of_lt hp]
          exact this
        have hod : leNat l0 % 2 = (l0.getD 0 0).toNat % 2 := by
          have := leNat_byte l0 0
          rw [Nat.pow_zero, Nat.div_one] at this
          omega
        obtain ⟨c, hc⟩ : ∃ c, c = (l0.getD 0 0).toNat := ⟨_, rfl⟩
        rw [← hc] at hc0 hod
        have hcl : c < 256 := by rw [hc]; exact (l0.getD 0 0).toNat_lt
        obtain ⟨q, hq⟩ : ∃ q, q = c % 2 := ⟨_, rfl⟩
        have m1 : (c : Int).tmod 2 = (q : Int) := by rw [Int.tmod_eq_emod_of_nonneg (by omega)]; omega
        have m2 : IntKind.u8.wrap (q : Int) = (q : Int) := by rw [IntKind.wrap_u8]; omega
        have m3 : ((q : Int) == 1) = (q == 1) := by rw [Bool.eq_iff_iff]; simp; omega
        have HOD : Hid (∀ w : World, Calls Try.prog 25 #[.agg #[.int .u64 (xa : Nat), .int .u64 (xb : Nat), .int .u64 (xc : Nat), .int .u64 (xd : Nat), .int .u64 (xe : Nat)]] w fun e w' => e = .returned (.bool (q == 1)) ∧ Below w.heap.size w w') := by
          refine Lib.hid fun w => ?_
          have := odd_any (L5.mk xa xb xc xd xe) w (tight_lt HXT.out)
          rw [hval, Nat.mod_eq_of_lt hp, hod, ← hq] at this
          exact this
        have HAW := Lib.hid awakeF_any
        have HCELL := Lib.hid (fun (w' : World) (h : Below w7.heap.size w7 w') => (h.cell (p := ⟨b, o, none⟩) (by have := hB7.size; simp; omega)).trans ((hB7.cell (p := ⟨b, o, none⟩) hbw).trans hc0))
        have hcap := s0.2.1
        clear hc0 hcell hx hval hod hc hq
        rw [show (leNat l0 % P25 == leNat l0) = true by rw [← HR.out]] at *
        generalize (q == 1) = od at *
        go_upto_region 14 with fail
        refine wp_region_made w7.heap.size w7 rfl (by kernel_rfl) (Below.refl _ _) ?_
        refine wpQ_move rfl _ (.inr rfl) ?_
        simp only [Act.put, List.setIfInBounds_toArray, List.set_cons_zero, List.set_cons_succ]
        refine wpQ_run rfl (.bool true) (fun w _ => by simp [go_sem]) ?_
        simp only [Act.put, List.setIfInBounds_toArray, List.set_cons_zero, List.set_cons_succ]
        refine wpQ_move rfl _ (.inr rfl) ?_
        simp only [Act.put, List.setIfInBounds_toArray, List.set_cons_zero, List.set_cons_succ]
        refine wpQ_load_box rfl 27 _ rfl hX7 (by rfl) (by omega) Try.underlying27 rfl (by kernel_rfl) ?_
        simp only [Act.put, List.setIfInBounds_toArray, List.set_cons_zero, List.set_cons_succ]
        refine wpQ_load_box rfl 34 _ rfl hY7 (by rfl) (by omega) Try.underlying34 rfl (by rw [hYs.out]; kernel_rfl) ?_
        simp only [Act.put, List.setIfInBounds_toArray, List.set_cons_zero, List.set_cons_succ]
        refine wpQ_call rfl 21 #[.agg #[.int .u64 (xa : Nat), .int .u64 (xb : Nat), .int .u64 (xc : Nat), .int .u64 (xd : Nat), .int .u64 (xe : Nat)], .agg Y] (fun w => by simp [go_sem]) _ (Nat.le_refl _) HSL.out ?_
        simp only [Act.put, List.setIfInBounds_toArray, List.set_cons_zero, List.set_cons_succ]
        refine wpQ_run rfl (.bool true) (fun w _ => by simp [go_sem]) ?_
        simp only [Act.put, List.setIfInBounds_toArray, List.set_cons_zero, List.set_cons_succ]
        refine wpQ_run rfl (.bool true) (fun w _ => by simp [go_sem]) ?_
        simp only [Act.put, List.setIfInBounds_toArray, List.set_cons_zero, List.set_cons_succ]
        refine wpQ_load_box rfl 27 _ rfl hX7 (by rfl) (by omega) Try.underlying27 rfl (by kernel_rfl) ?_
        simp only [Act.put, List.setIfInBounds_toArray, List.set_cons_zero, List.set_cons_succ]
        refine wpQ_call rfl 25 #[.agg #[.int .u64 (xa : Nat), .int .u64 (xb : Nat), .int .u64 (xc : Nat), .int .u64 (xd : Nat), .int .u64 (xe : Nat)]] (fun w => by simp [go_sem]) _ (Nat.le_refl _) HOD.out ?_
        simp only [Act.put, List.setIfInBounds_toArray, List.set_cons_zero, List.set_cons_succ]
        refine wpQ_run rfl (.slice (some ⟨b, o, none⟩) 32 cap0) (fun w _ => by simp [go_sem]) ?_
        simp only [Act.put, List.setIfInBounds_toArray, List.set_cons_zero, List.set_cons_succ]
        refine wpQ_run rfl (.pointer (some ⟨b, o, none⟩)) (fun w _ => by simp [go_sem]) ?_
        simp only [Act.put, List.setIfInBounds_toArray, List.set_cons_zero, List.set_cons_succ]
        refine wpQ_run rfl (.int .u8 c) (fun w h => by simp [go_sem, HCELL.out w h]) ?_
        simp only [Act.put, List.setIfInBounds_toArray, List.set_cons_zero, List.set_cons_succ]
        refine wpQ_run rfl (.int .u8 q) (fun w _ => by simp [go_sem, m1]) ?_
        simp only [Act.put, List.setIfInBounds_toArray, List.set_cons_zero, List.set_cons_succ]
        refine wpQ_run rfl (.bool od) (fun w _ => by simp [go_sem, m3]) ?_
        simp only [Act.put, List.setIfInBounds_toArray, List.set_cons_zero, List.set_cons_succ]
        refine wpQ_run rfl (.bool true) (fun w _ => by simp [go_sem]) ?_
        simp only [Act.put, List.setIfInBounds_toArray, List.set_cons_zero, List.set_cons_succ]
        refine wpQ_run rfl (.bool true) (fun w _ => by simp [go_sem]) ?_
        simp only [Act.put, List.setIfInBounds_toArray, List.set_cons_zero, List.set_cons_succ]
        refine wpQ_run rfl (.bool true) (fun w _ => by simp [go_sem]) ?_
        simp only [Act.put, List.setIfInBounds_toArray, List.set_cons_zero, List.set_cons_succ]
        refine wpQ_call rfl 18 #[] (fun w => by simp [go_sem]) _ (Nat.le_refl _) HAW.out ?_
        simp only [Act.put, List.setIfInBounds_toArray, List.set_cons_zero, List.set_cons_succ]
        refine wpQ_run rfl (.bool true) (fun w _ => by simp [go_sem]) ?_
        simp only [Act.put, List.setIfInBounds_toArray, List.set_cons_zero, List.set_cons_succ]
        refine wpQ_run rfl (.bool true) (fun w _ => by simp [go_sem]) ?_
        simp only [Act.put, List.setIfInBounds_toArray, List.set_cons_zero, List.set_cons_succ]
        intro w8 hb8
        have hB8 := hB7.trans (hb8.mono hB7.size)
        clear hb8 hX7 hY7 hB7
        go_wp2_with fail
        go_ret
        exact ⟨rfl, hB8⟩
      · obtain ⟨hx, rfl⟩ := (HK.out.2.2 rfl).2 hp
        obtain rfl : r = false := by
          rw [HR.out]
          have : leNat l0 % P25 < P25 := Nat.mod_lt _ (by unfold P25; omega)
          simp; omega
        simp only [L5.zero, L5.mk.injEq] at hx
        obtain ⟨rfl, rfl, rfl, rfl, rfl⟩ := hx
        obtain ⟨c0, c1, c2, c3, c4⟩ := five hX7
        clear hX7 hY7
        go_wp2_with fail
        refine (same_zero _).mono ?_
        rintro e w8 ⟨rfl, hb8⟩
        have hB8 := hB7.trans (hb8.mono hB7.size)
        go_wp2_with fail
        refine (awakeF_any _).mono ?_
        rintro e w9 ⟨rfl, hb9⟩
        have hB9 := hB8.trans (hb9.mono hB8.size)
        clear hB7 hB8 hb8 hb9
        go_wp2_with fail
        go_ret
        exact ⟨rfl, hB9⟩
    · obtain ⟨hx, rfl⟩ := HK.out.2.1 h
      simp only [L5.zero, L5.mk.injEq] at hx
      obtain ⟨rfl, rfl, rfl, rfl, rfl⟩ := hx
      obtain ⟨c0, c1, c2, c3, c4⟩ := five hX5
      clear hX5
      go_wp2_with fail
      refine (same_zero _).mono ?_
      rintro e w6 ⟨rfl, hb6⟩
      have hB6 := hB5.trans (hb6.mono hB5.size)
      go_wp2_with fail
      refine (awakeF_any _).mono ?_
      rintro e w7 ⟨rfl, hb7⟩
      have hB7 := hB6.trans (hb7.mono hB6.size)
      clear hB5 hB6 hb6 hb7
      go_wp2_with fail
      go_ret
      exact ⟨rfl, hB7⟩
end Go.Proofs.Ytddgkoheihlbdaa

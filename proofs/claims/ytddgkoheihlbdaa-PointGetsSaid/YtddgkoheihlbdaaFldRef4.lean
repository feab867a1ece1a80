/- field: the document's Bytes: what it computes. -/
import Derived.Test.YtddgkoheihlbdaaFldRef3
import Derived.Test.YtddgkoheihlbdaaSl3
import Derived.Deep.RegionHeld3
namespace Go.Proofs.Ytddgkoheihlbdaa
open Go.RowKit

/-- the k lowest bytes of n -/
def leBytes (n k : Nat) : List UInt8 := (List.range k).map fun j => UInt8.ofNat (n / 256 ^ j % 256)
theorem leBytes_two (n k : Nat) : leBytes n (2 * (k + 1)) = leBytes n (2 * k) ++ [UInt8.ofNat (dig n k % 256), UInt8.ofNat (dig n k / 256)] := by
  have e1 : dig n k % 256 = n / 256 ^ (2 * k) % 256 := by
    rw [Nat.pow_mul]; show n / (65536 : Nat) ^ k % 65536 % 256 = n / (65536 : Nat) ^ k % 256; omega
  have e2 : dig n k / 256 = n / 256 ^ (2 * k + 1) % 256 := by
    rw [Nat.pow_succ, ← Nat.div_div_eq_div_mul, Nat.pow_mul]; show n / (65536 : Nat) ^ k % 65536 / 256 = n / (65536 : Nat) ^ k / 256 % 256; omega
  rw [e1, e2, show 2 * (k + 1) = 2 * k + 1 + 1 by omega]
  simp [leBytes, List.range_succ]
theorem leBytes_len (n k : Nat) : (leBytes n k).length = k := by simp [leBytes]

/-- a slice that reads as a list comes back, all old memory as before -/
def RetSl (l : List UInt8) (w : World) (e : Ending) (w' : World) : Prop := ∃ a cap, e = .returned (.slice a l.length cap) ∧ Sl w' a l.length cap l ∧ Below w.heap.size w w'

set_option maxRecDepth 100000 in
set_option maxHeartbeats 1000000 in
theorem refBytes_any (n : Nat) (w : World) :
    Calls Try.prog 61 #[.agg (fArr (dig n))] w (RetSl (leBytes n 32) w) := by
  obtain ⟨C0, hC0⟩ : ∃ C0, C0 = fArr (dig n) := ⟨_, rfl⟩
  obtain ⟨i0, hi, hz0, hz1, hz2⟩ := info_parts infoU8
  rw [← hC0]
  have HC0 := Lib.hid hC0
  clear hC0
  have hdl := dig_lt n
  have hx0 := Box.new w 34 C0
  have hb0 : Below w.heap.size w (w.alloc (.cells C0 34)) := (Below.refl _ _).alloc (Nat.le_refl _) _
  have hs0 : (w.alloc (.cells C0 34)).heap.size = w.heap.size + 1 := by simp
  obtain ⟨W0, hW0⟩ : ∃ W0, W0 = w.alloc (.cells C0 34) := ⟨_, rfl⟩
  rw [← hW0] at hx0 hb0 hs0
  have hown0 : (W0.alloc (.cells #[] 5)).ownsRow (w.heap.size + 1) 5 1 (.slice (some ⟨w.heap.size + 1, 0, none⟩) 0 0) 0 (Lib.byteCells []) := by
    have := World.ownsRow_lit (base := w.heap.size + 1) (size := 1) (e := 5) W0 #[] 0 (by omega) (Nat.zero_le _) rfl
    rw [hs0] at this
    exact this
  have hB0 : Below (w.heap.size + 1) W0 (W0.alloc (.cells #[] 5)) := (Below.refl _ _).alloc (by omega) _
  have HW0 := Lib.hid hW0
  have HDL := Lib.hid hdl
  have HS0 := Lib.hid hs0
  clear hW0 hdl hs0
  go_enter Try.func61, Try.ntmps61
  go_wp2_with fail
  rw [← HW0.out]
  go_loopw [3, 4] (fun out i wr => ∃ k : Nat, k ≤ 16 ∧ i = .int .i64 k ∧ wr.ownsRow (w.heap.size + 1) 5 1 out (2 * k) (Lib.byteCells (leBytes n (2 * k))) ∧ Below (w.heap.size + 1) W0 wr) (fun _ i _ => 16 - (intOf i).toNat)
  case atStart => exact ⟨0, Nat.zero_le _, rfl, hown0, hB0⟩
  case round =>
    obtain ⟨wa, rfl⟩ : ∃ wa : World, wa = wr := ⟨_, rfl⟩
    obtain ⟨k, hk, rfl, hown, hB⟩ := hrel
    clear hown0 hB0
    by_cases hlt : k < 16
    · have HE := Lib.hid (leBytes_two n k)
      have hl := HDL.out k
      have hC := fArr_get (dig n) k hlt
      rw [← HC0.out] at hC
      obtain ⟨x, hx⟩ : ∃ x, x = dig n k := ⟨_, rfl⟩
      rw [← hx] at hl hC HE
      clear hx
      have e1 : (x : Int) % 256 = ((UInt8.ofNat (x % 256)).toNat : Int) := by simp
      have e2 : (x : Int) / 256 = ((UInt8.ofNat (x / 256)).toNat : Int) := by simp; omega
      have l1 := (UInt8.ofNat (x % 256)).toNat_lt
      have l2 := (UInt8.ofNat (x / 256)).toNat_lt
      obtain ⟨c, hc⟩ : ∃ c, c = UInt8.ofNat (x % 256) := ⟨_, rfl⟩
      obtain ⟨d, hd⟩ : ∃ d, d = UInt8.ofNat (x / 256) := ⟨_, rfl⟩
      rw [← hc] at e1 l1 HE
      rw [← hd] at e2 l2 HE
      have e3 : IntKind.u8.wrap (c.toNat : Int) = (c.toNat : Int) := by rw [IntKind.wrap_u8]; omega
      have e4 : IntKind.u8.wrap (d.toNat : Int) = (d.toNat : Int) := by rw [IntKind.wrap_u8]; omega
      have e5 : IntKind.u64.wrap (d.toNat : Int) = (d.toNat : Int) := by rw [IntKind.wrap_u64]; omega
      have b5 : (0 : Int) ≤ (k : Int) := by omega
      have b6 : (k : Int) < 16 := by omega
      have b7 : IntKind.i64.wrap (k : Int) = (k : Int) := by rw [IntKind.wrap_i64]; omega
      have e1' : (x : Int).tmod 256 = (c.toNat : Int) := by rw [Int.tmod_eq_emod_of_nonneg (by omega)]; exact e1
      have e2' : (x : Int).tdiv 256 = (d.toNat : Int) := by rw [Int.tdiv_eq_ediv_of_nonneg (by omega)]; exact e2
      clear hc hd
      have hcell : ∀ w', Below (w.heap.size + 1) W0 w' → w'.cell? ⟨w.heap.size, k, none⟩ = some (.int .u64 x) := fun w' h => (hx0.below h (by omega)).cell k hC
      go_upto_region 5 with fail
      refine wp_region_held_drew (S := fun w' => Below (w.heap.size + 1) W0 w') rfl hB.drew (fun _ => ?_)
      refine wpH_take 0 rfl (by kernel_rfl) (by kernel_rfl) (by kernel_rfl) rfl (fun _ _ _ _ h => h) (u3) (fun w' h => by simp [go_sem]) hB.drew ?_
      refine wpH_take 1 rfl (by kernel_rfl) (by kernel_rfl) (by kernel_rfl) rfl (fun _ _ _ _ h => h) (.int .i64 k) (fun w' h => by simp [go_sem, Act.put]) hB.drew ?_
      refine wpH_take 2 rfl (by kernel_rfl) (by kernel_rfl) (by kernel_rfl) rfl (fun _ _ _ _ h => h) (.pointer (some ⟨w.heap.size, k, none⟩)) (fun w' h => by simp [go_sem, Act.put, b5, b6]) hB.drew ?_
      refine wpH_take 3 rfl (by kernel_rfl) (by kernel_rfl) (by kernel_rfl) rfl (fun _ _ _ _ h => h) (.int .u64 x) (fun w' h => by simp [go_sem, Act.put, hcell w' h]) hB.drew ?_
      refine wpH_take 4 rfl (by kernel_rfl) (by kernel_rfl) (by kernel_rfl) rfl (fun _ _ _ _ h => h) (.int .u64 (c.toNat : Int)) (fun w' h => by simp [go_sem, Act.put, e1']) hB.drew ?_
      refine wpH_take 5 rfl (by kernel_rfl) (by kernel_rfl) (by kernel_rfl) rfl (fun _ _ _ _ h => h) (.int .u8 (c.toNat : Int)) (fun w' h => by simp [go_sem, Act.put, e3]) hB.drew ?_
      refine wpH_take 6 rfl (by kernel_rfl) (by kernel_rfl) (by kernel_rfl) rfl (fun _ _ _ _ h => h) (.int .i64 k) (fun w' h => by simp [go_sem, Act.put]) hB.drew ?_
      refine wpH_take 7 rfl (by kernel_rfl) (by kernel_rfl) (by kernel_rfl) rfl (fun _ _ _ _ h => h) (.pointer (some ⟨w.heap.size, k, none⟩)) (fun w' h => by simp [go_sem, Act.put, b5, b6]) hB.drew ?_
      refine wpH_take 8 rfl (by kernel_rfl) (by kernel_rfl) (by kernel_rfl) rfl (fun _ _ _ _ h => h) (.int .u64 x) (fun w' h => by simp [go_sem, Act.put, hcell w' h]) hB.drew ?_
      refine wpH_take 9 rfl (by kernel_rfl) (by kernel_rfl) (by kernel_rfl) rfl (fun _ _ _ _ h => h) (.int .u64 (d.toNat : Int)) (fun w' h => by simp [go_sem, Act.put, e2', e5]) hB.drew ?_
      refine wpH_take 10 rfl (by kernel_rfl) (by kernel_rfl) (by kernel_rfl) rfl (fun _ _ _ _ h => h) (.int .u8 (d.toNat : Int)) (fun w' h => by simp [go_sem, Act.put, e4]) hB.drew ?_
      have hBn : Below (w.heap.size + 1) W0 (wa.drew.alloc (.cells #[.int .u8 (c.toNat : Int), .int .u8 (d.toNat : Int)] 5)) := hB.drew.alloc (by have := hB.size; have := HS0.out; simp; omega) _
      refine wpH_run 11 rfl (by kernel_rfl) rfl (.slice (some ⟨wa.heap.size, 0, none⟩) 2 2) (wa.drew.alloc (.cells #[.int .u8 (c.toNat : Int), .int .u8 (d.toNat : Int)] 5)) (by simp [go_sem, Act.put]) hBn ?_
      have hct := cellTwo wa.drew (.int .u8 (c.toNat : Int)) (.int .u8 (d.toNat : Int)) wa.heap.size rfl
      refine wpH_append_sl 12 rfl (by kernel_rfl) rfl (.tmp 10) (.tmp 21) 22 rfl (w.heap.size + 1) 5 i0 Try.underlying22 hi hz0 hz1 hz2 u3 (2 * k) (leBytes n (2 * k)) (by simp [go_sem, Act.put]) (hown.drew.alloc _) (some ⟨wa.heap.size, 0, none⟩) 2 2 [c, d] (by simp [go_sem, Act.put]) (slTwo _ _ _ _ hct.1 hct.2) (by omega) (by have := hB.size; have := HS0.out; simp; omega) ?_
      intro v1 w1 hown1 hg1
      have hB1 : Below (w.heap.size + 1) W0 w1 := hBn.grown hg1 (by have := hB.size; have := HS0.out; simp; omega) (fun j hj => (hown.lt j hj).1)
      refine ⟨hB1, ?_⟩
      refine wpH_take 13 rfl (by kernel_rfl) (by kernel_rfl) (by kernel_rfl) rfl (fun _ _ _ _ h => h) v1 (fun w' h => by simp [go_sem, Act.put]) hB1 ?_
      refine wpAnyH_done (by kernel_rfl) ?_ _
      simp only [Act.put, List.setIfInBounds_toArray, List.set_cons_zero, List.set_cons_succ]
      rw [← HE.out] at hown1
      clear hBn hct hg1 hown hcell hB
      go_wp2_with fail
      refine ⟨⟨k + 1, by omega, by go_num, hown1, hB1⟩, by simp [intOf]; omega⟩
    · obtain rfl : k = 16 := by omega
      obtain ⟨a1, c1, rfl, hS⟩ := Sl.ofOwns hown
      have hBw : Below w.heap.size w wa := hb0.trans (hB.mono (by omega))
      clear hx0 hb0
      go_wp2_with fail
      go_ret
      exact ⟨a1, c1, by rw [leBytes_len]; rfl, by rw [leBytes_len]; exact hS, hBw⟩
end Go.Proofs.Ytddgkoheihlbdaa

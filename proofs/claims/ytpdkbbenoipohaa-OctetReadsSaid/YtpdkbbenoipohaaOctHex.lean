/- octet.Hex, octet.Unhex: what they compute. -/
import Derived.Test.YtpdkbbenoipohaaBld
import Derived.Test.YtpdkbbenoipohaaSl
import Derived.Deep.QuietTactic
import Derived.BigQuiet
import Derived.WalkLawsBesides
namespace Go.Proofs.Ytpdkbbenoipohaa
open Go.RowKit

def hexB : ByteArray := ⟨#[48, 49, 50, 51, 52, 53, 54, 55, 56, 57, 97, 98, 99, 100, 101, 102]⟩
def hxd (k : Nat) : UInt8 := if h : k < 16 then hexB[k]'h else 0
theorem hxd_eq (k : Nat) (h : k < 16) : hexB[k]'h = hxd k := by simp [hxd, h]
def hexL (l : List UInt8) : List UInt8 := l.flatMap fun c => [hxd (c.toNat / 16), hxd (c.toNat % 16)]
theorem hexL_snoc (l : List UInt8) (c : UInt8) : hexL (l ++ [c]) = hexL l ++ [hxd (c.toNat / 16), hxd (c.toNat % 16)] := by simp [hexL]
theorem hexL_len (l : List UInt8) : (hexL l).length = 2 * l.length := by induction l <;> simp_all [hexL]; omega
theorem take_snoc (l : List UInt8) (k : Nat) (h : k < l.length) : l.take (k + 1) = l.take k ++ [l.getD k 0] := by
  rw [List.take_succ_eq_append_getElem h]; simp [List.getD_eq_getElem?_getD, h]
theorem byteCells_snoc' (d : List UInt8) (c : UInt8) : Lib.byteCells d ++ [Value.int IntKind.u8 (c.toNat : Int)] = Lib.byteCells (d ++ [c]) := by simp [Lib.byteCells]

/-- a hexadecimal digit's value -/
def hval (n : Nat) : Option Nat := if 48 ≤ n ∧ n ≤ 57 then some (n - 48) else if 97 ≤ n ∧ n ≤ 102 then some (n - 87) else if 65 ≤ n ∧ n ≤ 70 then some (n - 55) else none
def hvalI (c : UInt8) : Int := match hval c.toNat with | some v => v | none => -1
theorem hval_lt (n v : Nat) (h : hval n = some v) : v < 16 := by
  unfold hval at h
  split at h
  · simp at h; omega
  · split at h
    · simp at h; omega
    · split at h
      · simp at h; omega
      · cases h
theorem hvalI_big : ∀ n : Fin 256, 65 ≤ n.val → n.val ≤ 70 → Lib.indexByte hexB.data.toList ((n.val + 32).toUInt8) = hvalI (UInt8.ofNat n.val) := by decide +kernel
theorem hvalI_small : ∀ n : Fin 256, ¬ (65 ≤ n.val ∧ n.val ≤ 70) → Lib.indexByte hexB.data.toList (n.val.toUInt8) = hvalI (UInt8.ofNat n.val) := by decide +kernel

set_option maxHeartbeats 400000 in
theorem digit_any (c : UInt8) (w : World) : Calls Try.prog 19 #[.int .u8 (c.toNat : Int)] w fun e w' => e = .returned (.int .i64 (hvalI c)) ∧ w' = w := by
  have hc := c.toNat_lt
  have hb := hvalI_big ⟨c.toNat, hc⟩
  have hs := hvalI_small ⟨c.toNat, hc⟩
  simp only [UInt8.ofNat_toNat] at hb hs
  have HB := Lib.hid hb
  have HS := Lib.hid hs
  clear hb hs
  by_cases h1 : (65 : Int) ≤ (c.toNat : Int)
  · by_cases h2 : (c.toNat : Int) ≤ 70
    · go_enter Try.func19, Try.ntmps19
      go_wp2_with fail
      refine (Try.strings_IndexByte _ _ _).mono ?_
      rintro e w1 ⟨rfl, hw⟩
      go_wp2_with fail
      go_ret
      refine ⟨?_, rfl⟩
      rw [← HB.out (by omega) (by omega)]
      rfl
    · replace h2 : (70 : Int) < (c.toNat : Int) := by omega
      go_enter Try.func19, Try.ntmps19
      go_wp2_with fail
      refine (Try.strings_IndexByte _ _ _).mono ?_
      rintro e w1 ⟨rfl, hw⟩
      go_wp2_with fail
      go_ret
      refine ⟨?_, rfl⟩
      rw [← HS.out (by omega)]
      rfl
  · replace h1 : (c.toNat : Int) < 65 := by omega
    go_enter Try.func19, Try.ntmps19
    go_wp2_with fail
    refine (Try.strings_IndexByte _ _ _).mono ?_
    rintro e w1 ⟨rfl, hw⟩
    go_wp2_with fail
    go_ret
    refine ⟨?_, rfl⟩
    rw [← HS.out (by omega)]
    rfl

set_option maxHeartbeats 1000000 in
theorem hex_any (a : Option Addr) (len cap : Nat) (l : List UInt8) (w : World) (hs : Sl w a len cap l) (hl : l.length ≤ 1000000) :
    Calls Try.prog 9 #[.slice a len cap] w fun e w' => e = .returned (.string ⟨(hexL l).toArray⟩) ∧ Below w.heap.size w w' := by
  have hlt0 := hs.lt
  obtain ⟨hlen, hlc, hcm, hnil, hc⟩ := hs
  have HL := Lib.hid hlen
  have HC := Lib.hid hc
  have HN := Lib.hid hlt0
  have hl' : len ≤ 1000000 := by omega
  clear hlen hc hnil hlt0
  go_enter Try.func9, Try.ntmps9
  go_wp2_with fail
  go_loopw [8] (fun i wr => ∃ k : Nat, k ≤ len ∧ i = .int .i64 k ∧ Lib.IsBuilder 37 5 w.heap.size w.heap.size (Lib.byteCells (hexL (l.take k))) wr ∧ Below w.heap.size w wr) (fun i _ => len - (intOf i).toNat)
  case atStart => exact ⟨0, Nat.zero_le _, rfl, Lib.fresh_isBuilder _ _ _, (Below.refl _ _).alloc (Nat.le_refl _) _⟩
  case round =>
    obtain ⟨k, hk, rfl, hB, hW⟩ := hrel
    by_cases hlt : k < len
    · obtain ⟨b, o, rfl, hcc⟩ : ∃ b o, a = some ⟨b, o, none⟩ ∧ ∀ i, i < len → w.cell? ⟨b, o + i, none⟩ = some (.int .u8 ((l.getD i 0).toNat : Int)) := by
        rcases HC.out with hc | hc
        · omega
        · exact hc
      have hbw := HN.out b o (by omega) rfl
      obtain ⟨c, hcE⟩ : ∃ c, c = l.getD k 0 := ⟨_, rfl⟩
      have c0 : wr.cell? ⟨b, o + k, none⟩ = some (.int .u8 (c.toNat : Int)) := by rw [hW.cell hbw, hcE]; exact hcc k hlt
      have hcl := c.toNat_lt
      obtain ⟨k0, h0⟩ : ∃ k0 : Nat, k0 = c.toNat / 16 := ⟨_, rfl⟩
      obtain ⟨k1, h1⟩ : ∃ k1 : Nat, k1 = c.toNat % 16 := ⟨_, rfl⟩
      have f0 : (c.toNat : Int) / 16 = (k0 : Int) := by omega
      have f1 : bits .and .u8 (c.toNat : Int) 15 = (k1 : Int) := by rw [u8_and15 (x := (c.toNat : Int)) (by omega) (by omega)]; omega
      have b0 : k0 < 16 := by omega
      have b1 : k1 < 16 := by omega
      have hstep : Lib.byteCells (hexL (l.take (k + 1))) = Lib.byteCells (hexL (l.take k)) ++ [.int .u8 ((hxd k0).toNat : Int)] ++ [.int .u8 ((hxd k1).toNat : Int)] := by
        rw [take_snoc l k (by have := HL.out; omega), hexL_snoc, ← hcE, byteCells_snoc', byteCells_snoc', h0, h1]; simp
      have hll : (Lib.byteCells (hexL (l.take k))).length ≤ 2000000 := by rw [byteCells_length, hexL_len]; simp; omega
      have HE := Lib.hid hstep
      clear hstep hcE hcc h0 h1
      go_wp2_with fail
      refine (bldByte _ _ _ _ _ hB (by omega) hW.size).mono ?_
      rintro e w1 ⟨rfl, hB1, hb1⟩
      have e0 := hxd_eq k0 b0
      unfold hexB at e0
      rw [e0] at hB1
      clear e0
      go_wp2_with fail
      refine (bldByte _ _ _ _ _ hB1 (by simp; omega) (hW.trans hb1).size).mono ?_
      rintro e w2 ⟨rfl, hB2, hb2⟩
      have e1 := hxd_eq k1 b1
      unfold hexB at e1
      rw [e1, ← HE.out] at hB2
      clear e1
      go_wp2_with fail
      go_roundw
      case rel => exact ⟨k + 1, by omega, by go_num, hB2, (hW.trans hb1).trans hb2⟩
      case measure => simp [intOf]; omega
    · obtain rfl : k = len := by omega
      have hall : l.take k = l := List.take_of_length_le (by have := HL.out; omega)
      rw [hall] at hB
      clear hall
      go_wp2_with fail
      refine (bldOut _ _ _ _ hB hW.size).mono ?_
      rintro e w1 ⟨rfl, hb1⟩
      go_wp2_with fail
      go_ret
      exact ⟨rfl, hW.trans hb1⟩

/-- the bytes of hexadecimal digits -/
def unhex : List UInt8 → Option (List UInt8)
  | [] => some []
  | [_] => none
  | a :: b :: t => match hval a.toNat, hval b.toNat with
    | some x, some y => (unhex t).map (UInt8.ofNat (16 * x + y) :: ·)
    | _, _ => none
theorem unhex_odd (l : List UInt8) (h : l.length % 2 = 1) : unhex l = none := by
  induction l using unhex.induct with
  | case1 => simp at h
  | case2 => rfl
  | case3 a b t x y hx hy ih =>
    have := ih (by simp at h; omega)
    simp [unhex, hx, hy, this]
  | case4 a b t h1 => simp only [unhex]

/-- the error of what is none: ErrForm -/
def errForm (o : Option (List UInt8)) : Int := if o.isSome then 0 else 3

/-- what a function that reads bytes hands back: the slice, and a number -/
def Gave (o : Option (List UInt8)) (v : Value) (B : Nat) (w : World) (e : Ending) (w' : World) : Prop :=
  ∃ a n c, e = .returned (.tuple #[.slice a n c, v]) ∧ Sl w' a n c (o.getD []) ∧ Below B w w'

def slLen : Value → Nat
  | .slice _ n _ => n
  | _ => 0
def strLen : Value → Nat
  | .string s => s.size
  | _ => 0
theorem sl_nil (w : World) : Sl w none 0 0 [] := ⟨rfl, Nat.le_refl _, Nat.zero_le _, fun _ => rfl, .inl rfl⟩
theorem sl_cell (w : World) (g : Nat) (c : UInt8) (h : w.cell? ⟨g, 0, none⟩ = some (.int .u8 (c.toNat : Int))) : Sl w (some ⟨g, 0, none⟩) 1 1 [c] := by
  refine ⟨rfl, Nat.le_refl _, by unfold maxLen; omega, (fun h => by cases h), .inr ⟨g, 0, rfl, fun i hi => ?_⟩⟩
  obtain rfl : i = 0 := by omega
  simpa using h
theorem sl_cell_nat (w : World) (g z : Nat) (hz : z < 256) (h : w.cell? ⟨g, 0, none⟩ = some (.int .u8 (z : Int))) : Sl w (some ⟨g, 0, none⟩) 1 1 [UInt8.ofNat z] := by
  refine sl_cell w g _ ?_
  rw [h]
  have : (UInt8.ofNat z).toNat = z := by simp; omega
  rw [this]
theorem cell_new (w : World) (v : Value) (g : Nat) (hg : g = w.heap.size) : (w.alloc (.cells #[v] 5)).cell? ⟨g, 0, none⟩ = some v := by
  subst hg
  rw [World.cell?_alloc_mark]; rfl
theorem sl_two (w : World) (g : Nat) (c d : UInt8) (h : w.cell? ⟨g, 0, none⟩ = some (.int .u8 (c.toNat : Int))) (h' : w.cell? ⟨g, 1, none⟩ = some (.int .u8 (d.toNat : Int))) : Sl w (some ⟨g, 0, none⟩) 2 2 [c, d] := by
  refine ⟨rfl, Nat.le_refl _, by unfold maxLen; omega, (fun h => by cases h), .inr ⟨g, 0, rfl, fun i hi => ?_⟩⟩
  match i, hi with
  | 0, _ => simpa using h
  | 1, _ => simpa using h'
theorem cell_two_of (w : World) (u v : Value) (g : Nat) (hg : g = w.heap.size) : (w.alloc (.cells #[u, v] 5)).cell? ⟨g, 0, none⟩ = some u ∧ (w.alloc (.cells #[u, v] 5)).cell? ⟨g, 1, none⟩ = some v := by
  subst hg
  constructor <;> (rw [World.cell?_alloc_mark]; rfl)
theorem i64_join (x y : Nat) (hx : x < 16) (hy : y < 16) : bits .or .i64 ((x : Int) * 16) (y : Int) = ((16 * x + y : Nat) : Int) := by
  rw [bits_join .i64 32 (by decide) (fun n h0 h1 => by rw [IntKind.wrap_i64]; omega) 4 _ _ (by omega) (by omega) (by omega) (by omega) (by omega) (by omega)]
  omega
end Go.Proofs.Ytpdkbbenoipohaa

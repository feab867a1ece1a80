/- Notation: the program's printers: quotes, bytes. -/
import Derived.Test.YtkbblhioncecmaaDoorNtQ
namespace Go.Proofs.YtkbblhioncecmaaDoor
open Go.RowKit
set_option linter.unusedVariables false
set_option linter.unusedSimpArgs false

theorem bc_snoc (l : List UInt8) (c : UInt8) : Lib.byteCells l ++ [.int .u8 (c.toNat : Int)] = Lib.byteCells (l ++ [c]) := by simp [Lib.byteCells]
theorem bc_len (l : List UInt8) : (Lib.byteCells l).length = l.length := by simp [Lib.byteCells]
theorem byteC (B b : Nat) (l : List UInt8) (c : UInt8) (w : World) (h : Lib.IsBuilder 61 5 B b (Lib.byteCells l) w) (hlen : l.length + 1 ≤ 140737488355328) (hBw : B ≤ w.heap.size) :
    Calls Tryd.prog 56 #[.pointer (some ⟨b, 0, none⟩), .int .u8 (c.toNat : Int)] w fun e w' => e = .returned .nilIface ∧ Lib.IsBuilder 61 5 B b (Lib.byteCells (l ++ [c])) w' ∧ Below B w w' := by
  have := bldByte B b (Lib.byteCells l) c.toNat w h (by rw [bc_len]; exact hlen) hBw
  rwa [bc_snoc] at this
theorem quote_snoc (l : List UInt8) (k : Nat) (h : k < l.length) : (l.take (k + 1)).flatMap quoteC = (l.take k).flatMap quoteC ++ quoteC (l[k]'h) := by
  rw [List.take_add_one, List.flatMap_append, List.getElem?_eq_getElem h]
  simp
theorem quote_len (l : List UInt8) : (l.flatMap quoteC).length ≤ 2 * l.length := by
  induction l with
  | nil => simp
  | cons c r ih =>
    rw [List.flatMap_cons, List.length_append, List.length_cons]
    have : (quoteC c).length ≤ 2 := by unfold quoteC; split <;> simp
    omega
def RetW (B b : Nat) (l : List UInt8) (w : World) (e : Ending) (w' : World) : Prop := e = .returned (.tuple #[]) ∧ Lib.IsBuilder 61 5 B b (Lib.byteCells l) w' ∧ Below B w w'
set_option maxHeartbeats 4000000 in
set_option maxRecDepth 100000 in
theorem quote_any (B b : Nat) (acc : List UInt8) (a : Option Addr) (n c : Nat) (l : List UInt8) (w : World) (h : Lib.IsBuilder 61 5 B b (Lib.byteCells acc) w) (hs : ∀ w', Below B w w' → Sl w' a n c l) (hla : acc.length ≤ 1000000000) (hll : n ≤ 1000000000) (hBw : B ≤ w.heap.size) :
    Calls Tryd.prog 83 #[.pointer (some ⟨b, 0, none⟩), .slice a n c] w (RetW B b (acc ++ quoteL l) w) := by
  have HS := Lib.hid hs
  have HB := Lib.hid h
  have HL := Lib.hid (hs w (Below.refl _ _)).1
  have HBW := Lib.hid hBw
  clear hs h
  go_enter Tryd.func83, Tryd.ntmps83
  go_wp2_with fail
  refine (byteC B b acc 34 w HB.out (by omega) hBw).mono ?_
  rintro e w1 ⟨rfl, h1, b1⟩
  have H1 := Lib.hid h1
  clear h1
  go_wp2_with fail
  go_loopw [10] (fun i wr => ∃ k : Nat, k ≤ n ∧ i = .int .i64 k ∧ Lib.IsBuilder 61 5 B b (Lib.byteCells (acc ++ [34] ++ (l.take k).flatMap quoteC)) wr ∧ Below B w wr) (fun i _ => n - (intOf i).toNat)
  case atStart => exact ⟨0, Nat.zero_le _, rfl, by simpa using H1.out, b1⟩
  case round =>
    clear H1 b1
    obtain ⟨k, hk, rfl, hb, bl⟩ := hrel
    have HR := Lib.hid hb
    have BL := Lib.hid bl
    have HSZ := Lib.hid (Nat.le_trans hBw bl.size)
    clear hb bl
    have HLK : Hid ((acc ++ [34] ++ (l.take k).flatMap quoteC).length ≤ 3000000001) := Lib.hid (by
      have := quote_len (l.take k)
      have := HL.out
      simp only [List.length_append, List.length_take, List.length_cons, List.length_nil] at *
      omega)
    by_cases hlt : k < n
    case neg =>
      have hki : ¬ (k : Int) < n := by omega
      have HT : Hid ((l.take k).flatMap quoteC = l.flatMap quoteC) := Lib.hid (by rw [List.take_of_length_le (by have := HL.out; omega)])
      go_wp2_with fail
      refine (byteC B b _ 34 _ HR.out (by have := HLK.out; omega) HSZ.out).mono ?_
      rintro e w2 ⟨rfl, h2, b2⟩
      rw [HT.out] at h2
      have H2 : Lib.IsBuilder 61 5 B b (Lib.byteCells (acc ++ quoteL l)) w2 := by
        unfold quoteL
        rw [← List.append_assoc, ← List.append_assoc]
        exact h2
      have B2 := BL.out.trans b2
      clear h2 b2 HR
      go_wp2_with fail
      exact bodyPost_ret (results_none rfl _ _ _) rfl ⟨rfl, H2, B2⟩
    case pos =>
      have hki : (k : Int) < n := by omega
      have hk0 : (0 : Int) ≤ k := by omega
      have hkl : k < l.length := by have := HL.out; omega
      have HQS := Lib.hid (quote_snoc l k hkl)
      obtain ⟨ab, ao, rfl, hcell⟩ : ∃ b o, a = some ⟨b, o, none⟩ ∧ wr.cell? ⟨b, o + k, none⟩ = some (.int .u8 ((l[k]'hkl).toNat : Int)) := by
        rcases (HS.out wr BL.out).2.2.2.2 with h | ⟨b, o, h1, h2⟩
        · omega
        · refine ⟨b, o, h1, ?_⟩
          have := h2 k hlt
          rwa [List.getD, List.getElem?_eq_getElem hkl] at this
      generalize (l[k]'hkl) = x at *
      by_cases hx : x = 34 ∨ x = 92
      · have HQ : Hid (quoteC x = [92] ++ [x]) := Lib.hid (by unfold quoteC; rw [if_pos hx]; rfl)
        rcases hx with rfl | rfl
        · go_wp2_with fail
          refine (byteC B b _ 92 _ HR.out (by have := HLK.out; omega) HSZ.out).mono ?_
          rintro e w2 ⟨rfl, h2, b2⟩
          have H2 := Lib.hid h2
          have B2 := Lib.hid (BL.out.trans b2)
          have HZ2 := Lib.hid (Nat.le_trans hBw B2.out.size)
          clear h2 b2 HR
          go_wp2_with fail
          refine (byteC B b _ 34 _ H2.out (by have := HLK.out; simp only [List.length_append, List.length_cons, List.length_nil] at *; omega) HZ2.out).mono ?_
          rintro e w3 ⟨rfl, h3, b3⟩
          have H3 : Hid (Lib.IsBuilder 61 5 B b (Lib.byteCells (acc ++ [34] ++ (l.take (k + 1)).flatMap quoteC)) w3) := Lib.hid (by
            rw [HQS.out, HQ.out]
            rw [List.append_assoc] at h3
            rw [← List.append_assoc] at h3 ⊢
            simpa [List.append_assoc] using h3)
          have B3 := Lib.hid (B2.out.trans b3)
          clear h3 b3 H2
          go_wp2_with fail
          go_roundw
          case rel => exact ⟨k + 1, by omega, by go_num, H3.out, B3.out⟩
          case measure => simp [intOf] <;> omega
        · go_wp2_with fail
          refine (byteC B b _ 92 _ HR.out (by have := HLK.out; omega) HSZ.out).mono ?_
          rintro e w2 ⟨rfl, h2, b2⟩
          have H2 := Lib.hid h2
          have B2 := Lib.hid (BL.out.trans b2)
          have HZ2 := Lib.hid (Nat.le_trans hBw B2.out.size)
          clear h2 b2 HR
          go_wp2_with fail
          refine (byteC B b _ 92 _ H2.out (by have := HLK.out; simp only [List.length_append, List.length_cons, List.length_nil] at *; omega) HZ2.out).mono ?_
          rintro e w3 ⟨rfl, h3, b3⟩
          have H3 : Hid (Lib.IsBuilder 61 5 B b (Lib.byteCells (acc ++ [34] ++ (l.take (k + 1)).flatMap quoteC)) w3) := Lib.hid (by
            rw [HQS.out, HQ.out]
            rw [List.append_assoc] at h3
            rw [← List.append_assoc] at h3 ⊢
            simpa [List.append_assoc] using h3)
          have B3 := Lib.hid (B2.out.trans b3)
          clear h3 b3 H2
          go_wp2_with fail
          go_roundw
          case rel => exact ⟨k + 1, by omega, by go_num, H3.out, B3.out⟩
          case measure => simp [intOf] <;> omega
      · have HQ : Hid (quoteC x = [x]) := Lib.hid (by unfold quoteC; rw [if_neg hx])
        have hx1 : ((x.toNat : Int) == 34) = false := by
          have : x ≠ 34 := fun e => hx (.inl e)
          have : x.toNat ≠ 34 := fun e => this (UInt8.toNat_inj.1 e)
          simp; omega
        have hx2 : ((x.toNat : Int) == 92) = false := by
          have : x ≠ 92 := fun e => hx (.inr e)
          have : x.toNat ≠ 92 := fun e => this (UInt8.toNat_inj.1 e)
          simp; omega
        have hx3 : ¬ (x.toNat : Int) = 34 := by simpa using hx1
        have hx4 : ¬ (x.toNat : Int) = 92 := by simpa using hx2
        clear hx
        go_wp2_with fail
        refine (byteC B b _ x _ HR.out (by have := HLK.out; omega) HSZ.out).mono ?_
        rintro e w2 ⟨rfl, h2, b2⟩
        have H2 : Hid (Lib.IsBuilder 61 5 B b (Lib.byteCells (acc ++ [34] ++ (l.take (k + 1)).flatMap quoteC)) w2) := Lib.hid (by
          rw [HQS.out, HQ.out, ← List.append_assoc]
          exact h2)
        have B2 := Lib.hid (BL.out.trans b2)
        clear h2 b2 HR
        go_wp2_with fail
        go_roundw
        case rel => exact ⟨k + 1, by omega, by go_num, H2.out, B2.out⟩
        case measure => simp [intOf] <;> omega

end Go.Proofs.YtkbblhioncecmaaDoor

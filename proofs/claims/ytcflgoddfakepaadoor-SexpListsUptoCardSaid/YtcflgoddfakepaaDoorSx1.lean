/- How many values a tree holds; the document's nodes. -/
import Derived.Test.YtcflgoddfakepaaDoorSx
namespace Go.Proofs.YtcflgoddfakepaaDoor
open Go.RowKit

mutual
def Sx.nodes : Sx → Nat
  | .mk _ _ _ _ ks => 1 + Sx.nodesL ks
def Sx.nodesL : List Sx → Nat
  | [] => 0
  | k :: r => k.nodes + Sx.nodesL r
end
theorem Sx.nodesL_append (a b : List Sx) : Sx.nodesL (a ++ b) = Sx.nodesL a + Sx.nodesL b := by
  induction a with
  | nil => simp [Sx.nodesL]
  | cons k a ih => simp [Sx.nodesL, ih]; omega
theorem Sx.nodesL_snoc (ks : List Sx) (k : Nat) (h : k < ks.length) : Sx.nodesL (ks.take (k + 1)) = Sx.nodesL (ks.take k) + ks[k].nodes := by
  rw [List.take_succ_eq_append_getElem h, Sx.nodesL_append]
  simp [Sx.nodesL]

theorem wrap_two (a b : Int) : wrap64 (wrap64 a + wrap64 b) = wrap64 (a + b) := by unfold wrap64; omega
theorem wrap_of (a : Int) (h : -9223372036854775808 ≤ a ∧ a < 9223372036854775808) : wrap64 a = a := by unfold wrap64; omega

/-- a value within a row is loaded -/
theorem wpList_load_sv {ops : Array Oper} {rest : List Oper} {o : Oper} {a : Act} {w : World} {Q : Exit → Act → World → Prop} (hgd : o.guard = none) (x : Operand) (ho : o.op = .load 25 x)
    (b k : Nat) (hx : a.eval x = .pointer (some ⟨b, k, none⟩)) (v : SV) (hc : w.rangeAt b k v.cells.toList) (h : wpList Tryd.prog ops Q rest (a.put o.dst v.val) w) : wpList Tryd.prog ops Q (o :: rest) a w :=
  wpList_load_mid hgd 25 x ho b k hx _ _ hc Tryd.underlying25 rfl (by kernel_rfl) h

set_option maxHeartbeats 1000000 in
set_option maxRecDepth 100000 in
theorem nodes_any (s : Sx) : ∀ (v : SV) (w : World), Rd w v s → Calls Tryd.prog 22 #[v.val] w fun e w' => e = .returned (.int .i64 (wrap64 (s.nodes : Int))) ∧ Below w.heap.size w w' := by
  induction s using Sx.ind with
  | h l hh hi da ks ih =>
  intro v w hr
  obtain ⟨hvl, hvh, _, _, hn, hnc, hcm, K, hrow, hk⟩ := hr.parts
  obtain ⟨vl, vh, a1, n1, c1, a2, n2, c2, a3, n3, c3⟩ := v
  dsimp only at hn hnc hcm hrow hk
  replace hn : n3 = ks.length := hn
  replace hk : ∀ i (hi : i < ks.length), RdI (fun _ => True) w (K i) ks[i] := hk
  have IH := Lib.hid ih
  have HK := Lib.hid hk
  have HR := Lib.hid hrow
  clear ih hk hrow hr hvl hvh
  subst hn
  have hb0 : Below w.heap.size w (w.alloc (.cells #[.bool vl, .bool vh, .slice a1 n1 c1, .slice a2 n2 c2, .slice a3 ks.length c3] 25)) := (Below.refl _ _).alloc (Nat.le_refl _) _
  have hx0 := Box.new w 25 #[.bool vl, .bool vh, .slice a1 n1 c1, .slice a2 n2 c2, .slice a3 ks.length c3]
  unfold maxLen at hcm
  show Calls _ _ #[.agg #[.bool vl, .bool vh, .slice a1 n1 c1, .slice a2 n2 c2, .slice a3 ks.length c3]] _ _
  go_enter Tryd.func22, Tryd.ntmps22
  go_wp2_with fail
  go_loopw [3, 4, 8] (fun s i k wr => ∃ n : Nat, n ≤ ks.length ∧ k = .int .i64 n ∧ s = .int .i64 (wrap64 (1 + (Sx.nodesL (ks.take n) : Int))) ∧ Below w.heap.size w wr ∧ Box wr w.heap.size 25 #[.bool vl, .bool vh, .slice a1 n1 c1, .slice a2 n2 c2, .slice a3 ks.length c3]) (fun _ _ k _ => ks.length - (intOf k).toNat)
  case atStart => exact ⟨0, Nat.zero_le _, rfl, by simp [Sx.nodesL, wrap_of], hb0, hx0⟩
  case round =>
    obtain ⟨n, hnl, rfl, rfl, hb, hx⟩ := hrel
    have c4 := hx.cell 4 rfl
    by_cases hlt : n < ks.length
    · obtain ⟨b, o, rfl, hld⟩ := (HR.out.after hb).range hlt
      have HL := Lib.hid hld
      clear hld
      have hrd := (HK.out n hlt).after hb
      have HRd := Lib.hid hrd
      clear hrd
      go_wp2_with (refine wpList_load_sv rfl _ rfl b _ rfl _ HL.out ?_)
      refine (IH.out _ (List.getElem_mem hlt) _ _ HRd.out).mono ?_
      rintro e w1 ⟨rfl, hb1⟩
      have HB := hb.trans (hb1.mono hb.size)
      have HX := hx.after hb1
      have HS := Lib.hid (Sx.nodesL_snoc ks n hlt)
      go_wp2_with fail
      go_roundw
      case rel => exact ⟨n + 1, by omega, by go_num, by rw [HS.out]; exact congrArg _ (by rw [wrap_two]; congr 1; simp; omega), HB, HX⟩
      case measure => simp [intOf]; omega
    · go_wp2_with fail
      go_ret
      have : n = ks.length := by omega
      subst this
      exact ⟨by simp [Sx.nodes], hb⟩
end Go.Proofs.YtcflgoddfakepaaDoor

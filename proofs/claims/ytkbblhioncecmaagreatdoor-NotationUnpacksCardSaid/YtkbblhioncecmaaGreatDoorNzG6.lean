/- The program's reader: value: what it computes. The program's Get: what it computes. The program's Get, of few bytes. The program's Clone: what it computes. strings.Builder: what its writing methods do to a builder that the call itself has made. octet.Hex, octet.Unhex: what they compute. octet.Unhex: what it computes. octet.Base64: what it computes. Base64: plain lists. What the bitwise text computes, and that both ways of reading bring back what was written. octet.Unbase64: what it computes. the document's Hex, Value, Unhex: what they compute. the document's bit, Base64, sign: what they compute. the document's sign and Unbase64; octet.Unbase64: what they compute. the document's Unbase64: what it computes. -/
import Derived.Test.YtkbblhioncecmaaGreatDoorNzG5
import Derived.Test.YtkbblhioncecmaaGreatDoorRows
import Derived.Test.YtkbblhioncecmaaGreatDoorShelf
import Derived.WalkKit
import Derived.Handy
import Derived.Lib.Hide
import Derived.Lib.Strings
import Derived.Lib.Builder
import Derived.Lib.AppendStr
import Derived.Laws.Externs
import Derived.Deep.QuietTactic
import Derived.BigQuiet
import Derived.WalkLawsBesides
import Derived.Lib.IndexBytes
import Derived.Deep.RegionLaw
namespace Go.Proofs.YtkbblhioncecmaaGreatDoor
open Go.RowKit
set_option linter.unusedSimpArgs false
set_option linter.unusedVariables false

theorem next_any (g q : Nat) (hq : g ≤ q) (a : Option Addr) (n c : Nat) (l : List UInt8) (p m : Nat) (ao : Option Addr) (d co : Nat) (L : Nat → Lev) (w : World) (hqw : q < w.heap.size) (hX : Box w g 88 (RdC a n c p m (.slice ao d co))) (hS : Stt w q (.slice ao d co) L d) (hs : Sl w a n c l)
    (hi : InB (fun k => ¬ k = g) a n) (hn : n ≤ 100000) (hp : p ≤ n) (hm : m ≤ 512) (hd : d ≤ 16) :
    Calls Tryz.prog 68 #[.pointer (some ⟨g, 0, none⟩)] w (NextP g q a n c l p m L d w) := by
  rcases Nat.lt_or_ge p n with hpn | hpn
  case inr => exact next_short g q hq a n c l p m ao d co L w hqw hX hS hs hi hn hp hm hd hpn
  by_cases h40 : l.getD p 0 = 40
  · exact next_opens g q hq a n c l p m ao d co L w hqw hX hS hs hi hn hp hm hd hpn h40
  by_cases hst : starts (l.getD p 0)
  · exact next_atom g q hq a n c l p m ao d co L w hqw hX hS hs hi hn hp hm hd hpn ⟨hst, h40⟩
  by_cases h41 : l.getD p 0 = 41 ∧ d ≠ 0
  · obtain ⟨h41, hd0⟩ := h41
    obtain ⟨d', rfl⟩ : ∃ d', d = d' + 1 := ⟨d - 1, by omega⟩
    exact next_close g q hq a n c l p m ao d' co L w hqw hX hS hs hi hn hp hm hd hpn h41
  · exact next_bad g q hq a n c l p m ao d co L w hqw hX hS hs hi hn hp hm hd hpn ⟨hst, fun h => by
      rcases Nat.eq_zero_or_pos d with h0 | h0
      · exact h0
      · exact absurd ⟨h, by omega⟩ h41⟩

/-- where the reader stands -/
def atOf (w : World) (g : Nat) : Nat := match w.cell? ⟨g, 1, none⟩ with | some (.int _ z) => z.toNat | _ => 0
theorem atOf_eq {w : World} {g : Nat} {a : Option Addr} {n c p m : Nat} {vo : Value} (h : Box w g 88 (RdC a n c p m vo)) : atOf w g = p := by
  unfold atOf
  rw [h.cell 1 rfl]
  simp
/-- the state while a value is added -/
structure VS (w u : World) (g : Nat) (cs : Array Value) (vo : Value) (L : Nat → Lev) (d y : Nat) (v : SV) (s : Sx) : Prop where
  R : Box u g 88 cs
  S : Stt u w.heap.size vo L (d + 1)
  Y : Box u y 26 v.cells
  X : Box u w.heap.size 26 #[.bool false, .bool false, .slice none 0 0, .slice none 0 0, .slice none 0 0]
  D : RdI (okT w.heap.size vo L (d + 1)) u v s
  B : Below g w u
  gw : g ≤ w.heap.size
theorem VS.after {w u u' : World} {g : Nat} {cs : Array Value} {vo : Value} {L : Nat → Lev} {d y : Nat} {v : SV} {s : Sx} (h : VS w u g cs vo L d y v s) (hb : Below u.heap.size u u') : VS w u' g cs vo L d y v s :=
  ⟨h.R.after hb, h.S.after hb, h.Y.after hb, h.X.after hb, h.D.after hb, h.B.trans (hb.mono (Nat.le_of_lt h.R.lt)), h.gw⟩
theorem VS.kids {w u : World} {g : Nat} {cs : Array Value} {b o co : Nat} {L : Nat → Lev} {d y : Nat} {v : SV} {s : Sx} (h : VS w u g cs (.slice (some ⟨b, o, none⟩) (d + 1) co) L d y v s) : u.cell? ⟨b, o + d * 5 + 4, none⟩ = some (.slice (L d).ta (L d).ks.length (L d).tc) :=
  (h.S.own.setKids d (by omega) none 0 0).1
/-- behind add -/
structure VF (w u : World) (g : Nat) (cs : Array Value) (vo : Value) (L : Nat → Lev) (d : Nat) : Prop where
  R : Box u g 88 cs
  S : Stt u w.heap.size vo L d
  X : Box u w.heap.size 26 #[.bool false, .bool false, .slice none 0 0, .slice none 0 0, .slice none 0 0]
  B : Below g w u
/-- value: a fault, or what is read -/
def ValueP (g : Nat) (a : Option Addr) (n c : Nat) (l : List UInt8) (w : World) (e : Ending) (w' : World) : Prop :=
  Below g w w' ∧ ∃ r : RV, Mach l [] 0 0 r ∧ ((r.e ≠ 0 ∧ e = FaultE r.p r.e) ∨ (r.e = 0 ∧ ∃ (v : SV) (m : Nat) (vo : Value), e = .returned v.val ∧ RdI (fun k => g < k) w' v r.v ∧ Box w' g 88 (RdC a n c r.p m vo)))

set_option maxHeartbeats 16000000 in
set_option maxRecDepth 100000 in
theorem valueR_any (g : Nat) (a : Option Addr) (n c : Nat) (l : List UInt8) (w : World) (hX : Box w g 88 (RdC a n c 0 0 (.slice none 0 0))) (hs : Sl w a n c l) (hi : InB (fun k => k < g) a n) (hn : n ≤ 100000) :
    Calls Tryz.prog 43 #[.pointer (some ⟨g, 0, none⟩)] w (ValueP g a n c l w) := by
  have HS := Lib.hid hs
  have HI := Lib.hid hi
  have hgw := hX.lt
  have B0 : Below w.heap.size w (w.alloc (.cells #[.bool false, .bool false, .slice none 0 0, .slice none 0 0, .slice none 0 0] 26)) := (Below.refl _ _).alloc (Nat.le_refl _) _
  have X0 := Box.new w 26 #[.bool false, .bool false, .slice none 0 0, .slice none 0 0, .slice none 0 0]
  have R0 := hX.after B0
  have HSB : Hid (InB (fun k => k < w.heap.size) a n) := Lib.hid hs.inB
  have S0 : Stt (w.alloc (.cells #[.bool false, .bool false, .slice none 0 0, .slice none 0 0, .slice none 0 0] 26)) w.heap.size (.slice none 0 0) (fun _ => Lev.new) 0 := Stt.none _ _ _
  clear hs hi hX
  go_enter Tryz.func43, Tryz.ntmps43
  go_upto_region 1 with fail
  change Code.wp _ _ _ _ (w.alloc (.cells #[.bool false, .bool false, .slice none 0 0, .slice none 0 0, .slice none 0 0] 26))
  generalize (w.alloc (.cells #[.bool false, .bool false, .slice none 0 0, .slice none 0 0, .slice none 0 0] 26)) = u0 at *
  have B0g : Below g w u0 := B0.mono (Nat.le_of_lt hgw)
  go_loopw [] (fun wr => ∃ (p m d : Nat) (ao : Option Addr) (co : Nat) (L : Nat → Lev), p ≤ n ∧ m ≤ 512 ∧ d ≤ 16 ∧ Hid (∀ r, Mach l (stk L d) p m r → Mach l [] 0 0 r) ∧ Hid (∀ i, i < d → (L i).ks.length ≤ p) ∧ Box wr g 88 (RdC a n c p m (.slice ao d co)) ∧ Stt wr w.heap.size (.slice ao d co) L d ∧ Box wr w.heap.size 26 #[.bool false, .bool false, .slice none 0 0, .slice none 0 0, .slice none 0 0] ∧ Below g w wr) (fun wr => n + 1 - atOf wr g)
  case atStart => exact ⟨0, 0, 0, none, 0, fun _ => Lev.new, Nat.zero_le _, Nat.zero_le _, Nat.zero_le _, Lib.hid (fun r h => h), Lib.hid (fun i hi => by omega), R0, S0, X0, B0g⟩
  case round =>
    obtain ⟨p, m, d, ao, co, L, hp, hm, hd, HTO, HKL, hR, hS, hX, hB⟩ := hrel
    clear S0 X0 R0 B0 B0g
    have hsl : Sl wr a n c l := (HS.out.inB.both HI.out).elim (fun h => HS.out.keep (.inl h)) (fun h => HS.out.keep (.inr fun b o s e => hB.block b (h b o s e).2))
    have HSL := Lib.hid hsl
    have hqw := hX.lt
    have CA := Lib.hid (next_any g w.heap.size (Nat.le_of_lt hgw) a n c l p m ao d co L wr hqw hR hS hsl (HI.out.mono fun k h => by omega) hn hp hm hd)
    have HAT := Lib.hid (atOf_eq hR)
    have HX := Lib.hid hX
    clear hsl hR hS hX
    go_wp2_with fail
    refine CA.out.mono ?_
    rintro e w1 ⟨b1, ⟨r, hr, rfl, hm1⟩ | ⟨ao1, co1, rfl, hp1, hm1, hd1, R1, S1, hto⟩ | ⟨v, s, p1, m1, d1, ao1, co1, rfl, hp1, hp2, hm1, hd1, R1, S1, rd1, hto⟩⟩
    · unfold FaultE
      exact ⟨rfl, hB.trans (b1.below (Nat.le_trans (Nat.le_of_lt hgw) (Nat.le_of_lt hqw)) (fun k hk => by omega)), r, HTO.out r hm1, .inl ⟨hr, rfl⟩⟩
    · have Y1 := Box.new w1 26 #[.bool false, .bool false, .slice none 0 0, .slice none 0 0, .slice none 0 0]
      have X1 := b1.box HX.out (by omega)
      have B1 := hB.trans (b1.below (Nat.le_trans (Nat.le_of_lt hgw) (Nat.le_of_lt hqw)) (fun k hk => by omega))
      have hto' := HTO.out
      have HTO2 : Hid (∀ r, Mach l (stk (updL L d Lev.new) (d + 1)) (p + 1) (m + 1) r → Mach l [] 0 0 r) := Lib.hid fun r h => HTO.out r (hto r h)
      have hz1 : w.heap.size < w1.heap.size := X1.lt
      clear b1 hto hto' CA HTO HSL HX
      go_wp2_with (refine wpList_store_box (cells := #[.bool false, .bool false, .slice none 0 0, .slice none 0 0, .slice none 0 0]) rfl 26 _ _ rfl Y1 (by rfl) (by rfl) rfl (by kernel_rfl) (by simp [Value.oneCell']) ?_; intro z9 X9 st9)
      have b19 : Below w1.heap.size w1 z9 := st9.below w1.heap.size w1 (Nat.le_refl _) ((Below.refl _ _).alloc (Nat.le_refl _) _)
      have R9 := R1.after b19
      have e9 := atOf_eq R9
      have S9 := S1.after b19
      have X9' := X1.after b19
      have B9 := B1.trans (b19.mono (by omega))
      clear Y1 X1 B1 R1 S1 st9 X9 b19
      go_roundw
      case rel => exact ⟨p + 1, m + 1, d + 1, ao1, co1, _, by omega, hm1, hd1, HTO2, Lib.hid (fun i hi => by
        by_cases hid : i = d
        · subst hid; rw [updL_same]; exact Nat.zero_le _
        · rw [updL_other L _ hid]; have := HKL.out i (by omega); omega), R9, S9, X9', B9⟩
      case measure => rw [HAT.out, e9]; omega
    · obtain ⟨vl, vh, a1, n1, c1, a2, n2, c2, a3, n3, c3⟩ := v
      unfold SV.val
      have Y1 := Box.new w1 26 #[.bool vl, .bool vh, .slice a1 n1 c1, .slice a2 n2 c2, .slice a3 n3 c3]
      have X1 := b1.box HX.out (by omega)
      have B1 := hB.trans (b1.below (Nat.le_trans (Nat.le_of_lt hgw) (Nat.le_of_lt hqw)) (fun k hk => by omega))
      have HTO2 : Hid (∀ r, Del l (stk L d1) s p1 m1 r → Mach l [] 0 0 r) := Lib.hid fun r h => HTO.out r (hto r h)
      have hz1 : w.heap.size < w1.heap.size := X1.lt
      have HP := Lib.hid hp1
      have hd16 : d1 ≤ 16 := Nat.le_trans hd1 hd
      have HDD := Lib.hid hd1
      clear hd1
      clear b1 hto CA HTO HSL HX
      go_upto_region 4 with fail
      have b19 : Below w1.heap.size w1 (w1.alloc (.cells #[.bool vl, .bool vh, .slice a1 n1 c1, .slice a2 n2 c2, .slice a3 n3 c3] 26)) := (Below.refl _ _).alloc (Nat.le_refl _) _
      change Code.wp _ _ _ _ (w1.alloc (.cells #[.bool vl, .bool vh, .slice a1 n1 c1, .slice a2 n2 c2, .slice a3 n3 c3] 26))
      generalize (w1.alloc (.cells #[.bool vl, .bool vh, .slice a1 n1 c1, .slice a2 n2 c2, .slice a3 n3 c3] 26)) = z9 at *
      have R9 := R1.after b19
      have S9 := S1.after b19
      have XX9 := X1.after b19
      have D9 := rd1.after b19
      have B9 := B1.trans (b19.mono (by omega))
      have hy9 : w.heap.size < w1.heap.size := hz1
      clear X1 B1 R1 S1 rd1 b19
      generalize w1.heap.size = y at *
      have x3 : z9.cell? ⟨g, 3, none⟩ = some (.slice ao1 d1 co1) := R9.cell 3 rfl
      have HR9 := Lib.hid R9
      have HS9 := Lib.hid S9
      have HX9 := Lib.hid XX9
      have HD9 := Lib.hid D9
      have HY9 := Lib.hid Y1
      clear R9 S9 XX9 D9 Y1
      rcases Nat.eq_zero_or_pos d1 with hd0 | hd0
      · subst hd0
        go_wp2_with first | (refine wpList_load_box rfl 26 _ rfl HY9.out (by rfl) Tryz.underlying26 rfl (by kernel_rfl) ?_) | (refine wpList_store_box (cells := #[.bool vl, .bool vh, .slice a1 n1 c1, .slice a2 n2 c2, .slice a3 n3 c3]) rfl 26 _ _ rfl HX9.out (by rfl) (by rfl) rfl (by kernel_rfl) (by simp [Value.oneCell']) ?_; intro z10 X10 st10)
        have b10 : But (fun k => k = w.heap.size) z9 z10 := But.ofStored st10 (st10.below 0 z9 (Nat.zero_le _) (Below.refl _ _))
        have B10 : Below g w z10 := b10.after B9 (Nat.le_of_lt HR9.out.lt) (fun k hk => by omega)
        exact bodyPost_ret (v := .agg #[.bool vl, .bool vh, .slice a1 n1 c1, .slice a2 n2 c2, .slice a3 n3 c3]) (box_result rfl _ _ (by rfl) X10 Tryz.underlying26 rfl (by kernel_rfl)) rfl ⟨B10, ⟨s, p1, m1, 0⟩, HTO2.out _ rfl, .inr ⟨rfl, ⟨vl, vh, a1, n1, c1, a2, n2, c2, a3, n3, c3⟩, m1, _, rfl, (HD9.out.but b10 (fun k hk e => by have := hk.1; omega)).mono (fun k hk => by have := hk.1; omega), b10.box HR9.out (by omega)⟩⟩
      · obtain ⟨d2, rfl⟩ : ∃ d2, d1 = d2 + 1 := ⟨d1 - 1, by omega⟩
        obtain ⟨bo, oo, rfl, hoc, hom⟩ := OwnG.at_ HS9.out.own (by omega)
        have hne0 : ¬ (d2 : Int) + 1 = 0 := by omega
        have hkl : (L d2).ks.length ≤ 100000 := by have := HKL.out d2 (by have := HDD.out; omega); omega
        have hw1 : IntKind.i64.wrap (d2 : Int) = (d2 : Int) := by rw [IntKind.wrap_i64]; omega
        go_upto_region 2 with fail
        go_quiet (fail)
        go_upto_region 3 with fail
        have hKS : Keeps (fun w' => VS w w' g (RdC a n c p1 m1 (.slice (some ⟨bo, oo, none⟩) (d2 + 1) co1)) (.slice (some ⟨bo, oo, none⟩) (d2 + 1) co1) L d2 y ⟨vl, vh, a1, n1, c1, a2, n2, c2, a3, n3, c3⟩ s) := fun w1 w2 h b => h.after b
        have VS0 : VS w (z9.drewN nq) g (RdC a n c p1 m1 (.slice (some ⟨bo, oo, none⟩) (d2 + 1) co1)) (.slice (some ⟨bo, oo, none⟩) (d2 + 1) co1) L d2 y ⟨vl, vh, a1, n1, c1, a2, n2, c2, a3, n3, c3⟩ s := ⟨HR9.out.drewN nq, HS9.out.keep (Nat.le_refl _) (fun _ _ _ => rfl), HY9.out.drewN nq, HX9.out.drewN nq, HD9.out.keep (fun _ _ => rfl), B9.trans ⟨rfl, rfl, rfl, Nat.le_refl _, fun _ _ => rfl⟩, by omega⟩
        generalize z9.drewN nq = z8 at *
        refine wp_region_W (w := z8) [7, 9, 12] (fun w' => VS w w' g (RdC a n c p1 m1 (.slice (some ⟨bo, oo, none⟩) (d2 + 1) co1)) (.slice (some ⟨bo, oo, none⟩) (d2 + 1) co1) L d2 y ⟨vl, vh, a1, n1, c1, a2, n2, c2, a3, n3, c3⟩ s) rfl (VS0.after (Below.refl _ _).drew) ?_
        refine wpW_val 0 hKS rfl (by kernel_rfl) (by kernel_rfl) (by kernel_rfl) (by kernel_rfl) rfl (fun _ _ _ _ h => h) (.pointer (some ⟨bo, oo + d2 * 5, none⟩)) (fun w' h => by simp [go_sem]) ?_
        simp only [Act.put, List.setIfInBounds_toArray, List.set_cons_zero, List.set_cons_succ]
        refine wpW_val 1 hKS rfl (by kernel_rfl) (by kernel_rfl) (by kernel_rfl) (by kernel_rfl) rfl (fun _ _ _ _ h => h) (.pointer (some ⟨bo, oo + d2 * 5, none⟩)) (fun w' h => by simp [go_sem]) ?_
        simp only [Act.put, List.setIfInBounds_toArray, List.set_cons_zero, List.set_cons_succ]
        refine wpW_val 2 hKS rfl (by kernel_rfl) (by kernel_rfl) (by kernel_rfl) (by kernel_rfl) rfl (fun _ _ _ _ h => h) (.pointer (some ⟨bo, oo + d2 * 5 + 4, none⟩)) (fun w' h => by simp [go_sem]) ?_
        simp only [Act.put, List.setIfInBounds_toArray, List.set_cons_zero, List.set_cons_succ]
        refine wpW_val 3 hKS rfl (by kernel_rfl) (by kernel_rfl) (by kernel_rfl) (by kernel_rfl) rfl (fun _ _ _ _ h => h) (.slice (L d2).ta (L d2).ks.length (L d2).tc) (fun w' h => by simp [go_sem, h.kids]) ?_
        simp only [Act.put, List.setIfInBounds_toArray, List.set_cons_zero, List.set_cons_succ]
        refine wpW_val 4 hKS rfl (by kernel_rfl) (by kernel_rfl) (by kernel_rfl) (by kernel_rfl) rfl (fun _ _ _ _ h => h) (.agg #[.bool vl, .bool vh, .slice a1 n1 c1, .slice a2 n2 c2, .slice a3 n3 c3]) (fun w' h => run_load_box rfl h.Y (by rfl) Tryz.underlying26 rfl (by kernel_rfl)) ?_
        simp only [Act.put, List.setIfInBounds_toArray, List.set_cons_zero, List.set_cons_succ]
        refine wpW_free 5 hKS rfl (by kernel_rfl) (by kernel_rfl) (by kernel_rfl) (by kernel_rfl) rfl (fun _ _ _ _ h => h) (.int .i64 (L d2).ks.length) (fun w' => by simp [go_sem]) ?_
        simp only [Act.put, List.setIfInBounds_toArray, List.set_cons_zero, List.set_cons_succ]
        refine wpW_one 6 rfl (by kernel_rfl) (by kernel_rfl) rfl ?_
        intro w5 b5 s5
        refine wp_of_run (.slice (some ⟨w5.heap.size, 0, none⟩) 1 1) (w5.alloc (.cells SV.nil.cells 26)) (by simp [go_sem]; rfl) ?_
        refine ⟨hKS _ _ s5 ((Below.refl _ _).alloc (Nat.le_refl _) _), ?_⟩
        simp only [Act.put, List.setIfInBounds_toArray, List.set_cons_zero, List.set_cons_succ]
        refine wpW_write 7 rfl (by kernel_rfl) (by kernel_rfl) rfl ?_
        intro w6 b6 s6
        have hsrc := src_box SV.nil ((Box.new w5 26 SV.nil.cells).after b6)
        refine wp_append_K _ _ rfl rfl (s6.S.kid d2 (by omega)) rfl hsrc (by omega) s6.X.lt ?_
        intro v7 w7 ho7 hg7 hw7
        rw [newsK_snoc] at ho7
        obtain ⟨ta7, tc7, rfl, _⟩ := ho7.row
        obtain ⟨b7, o7, rfl, hle7, hmx7⟩ := ho7.at_ (by omega)
        simp only [Act.put, List.setIfInBounds_toArray, List.set_cons_zero, List.set_cons_succ]
        refine wpU_val 8 keeps_true rfl (by kernel_rfl) (by kernel_rfl) (by kernel_rfl) rfl (fun _ _ _ _ h => h) (.pointer (some ⟨b7, o7 + (L d2).ks.length * 5, none⟩)) (fun w' h => by simp [go_sem]; intro hh; omega) ?_
        simp only [Act.put, List.setIfInBounds_toArray, List.set_cons_zero, List.set_cons_succ]
        refine wpU_val 10 keeps_true rfl (by kernel_rfl) (by kernel_rfl) (by kernel_rfl) rfl (fun _ _ _ _ h => h) (.pointer (some ⟨bo, oo + d2 * 5, none⟩)) (fun w' h => by simp [go_sem]) ?_
        simp only [Act.put, List.setIfInBounds_toArray, List.set_cons_zero, List.set_cons_succ]
        refine wpU_val 11 keeps_true rfl (by kernel_rfl) (by kernel_rfl) (by kernel_rfl) rfl (fun _ _ _ _ h => h) (.pointer (some ⟨bo, oo + d2 * 5 + 4, none⟩)) (fun w' h => by simp [go_sem]) ?_
        simp only [Act.put, List.setIfInBounds_toArray, List.set_cons_zero, List.set_cons_succ]
        obtain ⟨LN, hLN⟩ : ∃ LN : Lev, LN = ⟨(L d2).ks ++ [s], some ⟨b7, o7, none⟩, tc7, fun i => if i = (L d2).ks.length then ⟨vl, vh, a1, n1, c1, a2, n2, c2, a3, n3, c3⟩ else (L d2).K i⟩ := ⟨_, rfl⟩
        have FIN : ∀ w10, But (fun k => k = bo ∨ (L d2).val.ownBlock = some k) w6 w10 → Stt w10 w.heap.size (.slice (some ⟨bo, oo, none⟩) (d2 + 1) co1) (updL L d2 LN) (d2 + 1) → VF w w10 g (RdC a n c p1 m1 (.slice (some ⟨bo, oo, none⟩) (d2 + 1) co1)) (.slice (some ⟨bo, oo, none⟩) (d2 + 1) co1) (updL L d2 LN) (d2 + 1) := fun w10 B10 S10 =>
          have hno : ∀ k, k ≤ w.heap.size → ¬ (k = bo ∨ (L d2).val.ownBlock = some k) := fun k hk e => by
            rcases e with e | e
            · have := s6.S.own.lt bo (by simp [Value.ownBlock]); omega
            · have := (s6.S.kid d2 (by omega)).lt k e; omega
          ⟨B10.box s6.R (hno g (Nat.le_of_lt hgw)), S10, B10.box s6.X (hno _ (Nat.le_refl _)), B10.after s6.B (Nat.le_of_lt s6.R.lt) (fun k hk => by
            rcases Nat.lt_or_ge w.heap.size k with h | h
            · omega
            · exact absurd hk (hno k h))⟩
        refine wpU_two 9 12 rfl rfl (by kernel_rfl) rfl rfl ?_ ?_
        · intro w8 b8 _
          obtain ⟨hth, _⟩ := (ho7.after b8).setElem (L d2).ks.length (by omega) ⟨vl, vh, a1, n1, c1, a2, n2, c2, a3, n3, c3⟩
          refine wp_store_elem 26 _ _ rfl b7 (o7 + (L d2).ks.length * 5) ⟨vl, vh, a1, n1, c1, a2, n2, c2, a3, n3, c3⟩ rfl rfl hth (by kernel_rfl) ?_
          refine ⟨trivial, ?_⟩
          simp only [Act.put, List.setIfInBounds_toArray, List.set_cons_zero, List.set_cons_succ]
          refine wpU_one 12 rfl (by kernel_rfl) rfl ?_
          intro w9 b9 _
          obtain ⟨⟨_, hc9⟩, hf9, _, _⟩ := add_end s6.S s6.D hg7 hw7 ho7 b8 b9 (Below.refl _ _)
          refine wp_store_slice 24 _ _ rfl rfl rfl hc9 hf9 (fun w => by simp [go_sem]) ?_
          refine ⟨trivial, ?_⟩
          simp only [Act.put, List.setIfInBounds_toArray, List.set_cons_zero, List.set_cons_succ]
          refine wpU_done (by kernel_rfl) ?_
          intro w10 b10 _
          obtain ⟨_, _, B10, S10⟩ := add_end s6.S s6.D hg7 hw7 ho7 b8 b9 b10
          have HF := Lib.hid (FIN w10 B10 (by rw [hLN]; exact S10))
          have HLN : Hid (LN.ks = (L d2).ks ++ [s]) := Lib.hid (by rw [hLN])
          clear hKS b5 s5 b6 s6 hsrc ho7 hg7 hw7 hle7 hmx7 b8 hth b9 hc9 hf9 b10 B10 S10 FIN VS0 hLN
          have e9 := atOf_eq HF.out.R
          go_wp2_with fail
          go_roundw
          case rel => exact ⟨p1, m1, d2 + 1, _, co1, updL L d2 LN, hp2, hm1, hd16, Lib.hid (fun r h => HTO2.out r (by rw [stk_upd, HLN.out] at h; exact h)), Lib.hid (fun i hi => by
            have hpp := HP.out
            by_cases hid : i = d2
            · subst hid; rw [updL_same, HLN.out]; have := HKL.out i (by have := HDD.out; omega); simp; omega
            · rw [updL_other L _ hid]; have := HKL.out i (by have := HDD.out; omega); omega), HF.out.R, HF.out.S, HF.out.X, HF.out.B⟩
          case measure => rw [HAT.out, e9]; have := HP.out; omega
        · intro w8 b8 _
          obtain ⟨⟨_, hc9⟩, hf9, _⟩ := add_end' s6.S s6.D hg7 hw7 ho7 b8 (Below.refl _ _) (Below.refl _ _)
          refine wp_store_slice 24 _ _ rfl rfl rfl hc9 hf9 (fun w => by simp [go_sem]) ?_
          refine ⟨trivial, ?_⟩
          simp only [Act.put, List.setIfInBounds_toArray, List.set_cons_zero, List.set_cons_succ]
          refine wpU_one 9 rfl (by kernel_rfl) rfl ?_
          intro w9 b9 _
          obtain ⟨_, _, hth, _⟩ := add_end' s6.S s6.D hg7 hw7 ho7 b8 b9 (Below.refl _ _)
          refine wp_store_elem 26 _ _ rfl b7 (o7 + (L d2).ks.length * 5) ⟨vl, vh, a1, n1, c1, a2, n2, c2, a3, n3, c3⟩ rfl rfl hth (by kernel_rfl) ?_
          refine ⟨trivial, ?_⟩
          simp only [Act.put, List.setIfInBounds_toArray, List.set_cons_zero, List.set_cons_succ]
          refine wpU_done (by kernel_rfl) ?_
          intro w10 b10 _
          obtain ⟨_, _, _, B10, S10⟩ := add_end' s6.S s6.D hg7 hw7 ho7 b8 b9 b10
          have HF := Lib.hid (FIN w10 B10 (by rw [hLN]; exact S10))
          have HLN : Hid (LN.ks = (L d2).ks ++ [s]) := Lib.hid (by rw [hLN])
          clear hKS b5 s5 b6 s6 hsrc ho7 hg7 hw7 hle7 hmx7 b8 hth b9 hc9 hf9 b10 B10 S10 FIN VS0 hLN
          have e9 := atOf_eq HF.out.R
          go_wp2_with fail
          go_roundw
          case rel => exact ⟨p1, m1, d2 + 1, _, co1, updL L d2 LN, hp2, hm1, hd16, Lib.hid (fun r h => HTO2.out r (by rw [stk_upd, HLN.out] at h; exact h)), Lib.hid (fun i hi => by
            have hpp := HP.out
            by_cases hid : i = d2
            · subst hid; rw [updL_same, HLN.out]; have := HKL.out i (by have := HDD.out; omega); simp; omega
            · rw [updL_other L _ hid]; have := HKL.out i (by have := HDD.out; omega); omega), HF.out.R, HF.out.S, HF.out.X, HF.out.B⟩
          case measure => rw [HAT.out, e9]; have := HP.out; omega

end Go.Proofs.YtkbblhioncecmaaGreatDoor
namespace Go.Proofs.YtkbblhioncecmaaGreatDoor
open Go.RowKit
set_option linter.unusedSimpArgs false
set_option linter.unusedVariables false

set_option maxHeartbeats 4000000 in
set_option maxRecDepth 100000 in
theorem get1_idle (V A E : Nat) (w : World) :
    CallsD Tryz.prog 42 #[.pointer (some ⟨V, 0, none⟩), .pointer (some ⟨A, 0, none⟩), .pointer (some ⟨E, 0, none⟩)] .returning w fun e u' w' => e = .returned (.tuple #[]) ∧ u' = .returning ∧ w' = w := by
  refine callsD_of_wpS Tryz.func42 rfl fun c₀ cs hu => ?_
  apply wpS_seq
  apply wpS_region
  simp [wpOpsS, go_sem, recoverD, hu, Tryz.ntmps42, Exit.thenS]
  refine wpS_of_wp ?_
  go_wp2_with fail
  cases c₀
  simp_all [bodyPostS, results, Tryz.results42]

set_option maxHeartbeats 4000000 in
set_option maxRecDepth 100000 in
theorem get1_fault (V A E p x : Nat) (older : List PanicEntry) (w : World) (vc : Array Value) (hV : Box w V 26 vc) (hvc : vc.size = 5) (z1 z2 : Int) (hA : Box w A 3 #[.int .i64 z1]) (hE : Box w E 27 #[.int .i64 z2]) (hVA : V ≠ A) (hVE : V ≠ E) (hAE : A ≠ E) :
    CallsD Tryz.prog 42 #[.pointer (some ⟨V, 0, none⟩), .pointer (some ⟨A, 0, none⟩), .pointer (some ⟨E, 0, none⟩)] (.panicking ({ v := .iface 85 (.agg #[.int .i64 p, .int .i64 x]), recovered := false } :: older)) w fun e u' w' =>
      e = .returned (.tuple #[]) ∧ u' = .panicking ({ v := .iface 85 (.agg #[.int .i64 p, .int .i64 x]), recovered := true } :: older) ∧ Box w' V 26 #[.bool false, .bool false, .slice none 0 0, .slice none 0 0, .slice none 0 0] ∧ Box w' A 3 #[.int .i64 p] ∧ Box w' E 27 #[.int .i64 x] ∧ But (fun k => k = V ∨ k = A ∨ k = E) w w' := by
  refine callsD_of_wpS Tryz.func42 rfl fun c₀ cs hu => ?_
  have HV := Lib.hid hV
  have HA := Lib.hid hA
  have HE := Lib.hid hE
  have hta : ∀ w, (Instr.typeAssert (.iface 85 (.agg #[.int .i64 p, .int .i64 x])) 20 85 true).run Tryz.prog w = .ok (.tuple #[.agg #[.int .i64 p, .int .i64 x], .bool true]) w := fun _ => by kernel_rfl
  apply wpS_seq
  apply wpS_region
  simp [wpOpsS, go_sem, recoverD, hu, Tryz.ntmps42, Exit.thenS]
  refine wpS_of_wp ?_
  have hVw := hV.lt
  have hAw := hA.lt
  have hEw := hE.lt
  have Y0 := Box.new w 85 #[.int .i64 0, .int .i64 0]
  clear hV hA hE
  change Code.wp _ _ _ { tmps := #[.pointer (some ⟨V, 0, none⟩), .pointer (some ⟨A, 0, none⟩), .pointer (some ⟨E, 0, none⟩), undef, undef, undef, .iface 85 (.agg #[.int .i64 p, .int .i64 x]), undef, undef, undef, undef, undef, undef, undef, undef, undef, undef], defers := [] } w
  go_upto_region 6 with fail
  go_upto_region 7 with (refine wpList_store_box (cells := #[.int .i64 p, .int .i64 x]) rfl 85 _ _ rfl Y0 (by rfl) (by rfl) rfl (by kernel_rfl) (by simp [Value.oneCell']) ?_; intro u9 X9 st9)
  have HB1 : Hid (But (fun _ => False) w u9) := Lib.hid (But.ofBelow (st9.below w.heap.size w (Nat.le_refl _) ((Below.refl _ _).alloc (Nat.le_refl _) _)))
  have HV1 := Lib.hid (HB1.out.box HV.out (fun h => h))
  have HA1 := Lib.hid (HB1.out.box HA.out (fun h => h))
  have HE1 := Lib.hid (HB1.out.box HE.out (fun h => h))
  replace HV := HV1
  replace HA := HA1
  replace HE := HE1
  clear st9 Y0 HV1 HA1 HE1
  obtain ⟨F, hF⟩ : ∃ F, F = w.heap.size := ⟨_, rfl⟩
  have hVF : V ≠ F := by omega
  have hAF : A ≠ F := by omega
  have hEF : E ≠ F := by omega
  have YF := X9
  rw [← hF] at YF ⊢
  clear X9
  have hKS : Keeps (fun w' => Box w' F 85 #[.int .i64 p, .int .i64 x]) := fun w w' h b => h.after b
  refine wp_region_U (w := u9) (fun w' => Box w' F 85 #[.int .i64 p, .int .i64 x]) rfl YF.drew ?_
  refine wpU_val 0 hKS rfl (by kernel_rfl) (by kernel_rfl) (by kernel_rfl) rfl (fun _ _ _ _ h => h) (.agg #[.bool false, .bool false, .slice none 0 0, .slice none 0 0, .slice none 0 0]) (fun w' h => by simp [go_sem]) ?_
  simp only [Act.put, List.setIfInBounds_toArray, List.set_cons_zero, List.set_cons_succ]
  refine wpU_val 1 hKS rfl (by kernel_rfl) (by kernel_rfl) (by kernel_rfl) rfl (fun _ _ _ _ h => h) (.pointer (some ⟨F, 0, none⟩)) (fun w' h => by simp [go_sem]) ?_
  simp only [Act.put, List.setIfInBounds_toArray, List.set_cons_zero, List.set_cons_succ]
  refine wpU_val 2 hKS rfl (by kernel_rfl) (by kernel_rfl) (by kernel_rfl) rfl (fun _ _ _ _ h => h) (.int .i64 p) (fun w' h => by simp [go_sem, h.cell 0 rfl]) ?_
  simp only [Act.put, List.setIfInBounds_toArray, List.set_cons_zero, List.set_cons_succ]
  refine wpU_val 3 hKS rfl (by kernel_rfl) (by kernel_rfl) (by kernel_rfl) rfl (fun _ _ _ _ h => h) (.pointer (some ⟨F, 1, none⟩)) (fun w' h => by simp [go_sem]) ?_
  simp only [Act.put, List.setIfInBounds_toArray, List.set_cons_zero, List.set_cons_succ]
  refine wpU_val 4 hKS rfl (by kernel_rfl) (by kernel_rfl) (by kernel_rfl) rfl (fun _ _ _ _ h => h) (.int .i64 x) (fun w' h => by simp [go_sem, h.cell 1 rfl]) ?_
  simp only [Act.put, List.setIfInBounds_toArray, List.set_cons_zero, List.set_cons_succ]
  refine wpU_store_box (cells := #[.bool false, .bool false, .slice none 0 0, .slice none 0 0, .slice none 0 0]) 5 rfl (by kernel_rfl) rfl 26 _ _ rfl HV.out.drew (by rfl) (by rfl) (by simpa using hvc) (by kernel_rfl) (by simp [Value.oneCell']) ?_
  intro w2 w3 b2 s2 V3 st3
  have b23 : But (fun k => k = V) w2 w3 := But.ofStored st3 (st3.below 0 w2 (Nat.zero_le _) (Below.refl _ _))
  refine ⟨b23.box s2 hVF.symm, ?_⟩
  simp only [Act.put, List.setIfInBounds_toArray, List.set_cons_zero, List.set_cons_succ]
  have A3 := b23.box (HA.out.drew.after b2) hVA.symm
  have E3 := b23.box (HE.out.drew.after b2) hVE.symm
  refine wpU_store_cell 6 rfl (by kernel_rfl) rfl 3 _ _ rfl A3 0 (k := .i64) (n := (p : Int)) rfl rfl (show 0 < 1 by decide) (fun w => by simp [go_sem]) ?_
  intro w4 w5 b4 s4 A5 st5
  have b45 : But (fun k => k = A) w4 w5 := But.ofStored st5 (st5.below 0 w4 (Nat.zero_le _) (Below.refl _ _))
  refine ⟨b45.box s4 hAF.symm, ?_⟩
  simp only [Act.put, List.setIfInBounds_toArray, List.set_cons_zero, List.set_cons_succ]
  have E5 := b45.box (E3.after b4) hAE.symm
  have V5 := b45.box (V3.after b4) hVA
  refine wpU_store_cell 7 rfl (by kernel_rfl) rfl 27 _ _ rfl E5 0 (k := .i64) (n := (x : Int)) rfl rfl (show 0 < 1 by decide) (fun w => by simp [go_sem]) ?_
  intro w6 w7 b6 s6 E7 st7
  have b67 : But (fun k => k = E) w6 w7 := But.ofStored st7 (st7.below 0 w6 (Nat.zero_le _) (Below.refl _ _))
  refine ⟨b67.box s6 hEF.symm, ?_⟩
  simp only [Act.put, List.setIfInBounds_toArray, List.set_cons_zero, List.set_cons_succ]
  have A7 := b67.box (A5.after b6) hAE
  have V7 := b67.box (V5.after b6) hVE
  refine wpU_done (by kernel_rfl) ?_
  intro w8 b8 s8
  have V8 := V7.after b8
  have A8 : Box w8 A 3 #[.int .i64 p] := A7.after b8
  have E8 : Box w8 E 27 #[.int .i64 x] := E7.after b8
  have ev : ∀ u v : World, Below u.heap.size u v → But (fun _ => False) u v := fun u v h => But.ofBelow h
  have B8 : But (fun k => k = V ∨ k = A ∨ k = E) w w8 := ((((((HB1.out.mono (fun k hk => hk.elim)).trans (ev _ _ ((Below.refl _ _).drew.trans b2)) (fun k hk => hk.elim)).trans b23 (fun k hk => .inl (.inl hk))).trans (ev _ _ b4) (fun k hk => hk.elim)).trans b45 (fun k hk => .inl (.inr (.inl hk)))).trans (ev _ _ b6) (fun k hk => hk.elim)).trans (b67.trans (ev _ _ b8) (fun k hk => hk.elim)) (fun k hk => .inl (.inr (.inr hk)))
  clear hKS s2 s4 s6 s8 A3 E3 A5 E5 V3 V5 V7 A7 E7 b2 b4 b6 b8 b23 b45 b67 ev st3 st5 st7 HV HA HE YF
  go_wp2_with fail
  cases c₀
  simp_all [bodyPostS, results, Tryz.results42]

end Go.Proofs.YtkbblhioncecmaaGreatDoor
namespace Go.Proofs.YtkbblhioncecmaaGreatDoor
open Go.RowKit
set_option linter.unusedSimpArgs false
set_option linter.unusedVariables false

/-- what a frame that leaves does asks for its results' slots alone -/
theorem leaves_put {P : Program} {fn : Func} {R : Ending → World → Prop} {t t' : Array Value} (h : results fn t' = results fn t) : ∀ (ds : List Deferred) (u : FrameMode) (w : World), Leaves P fn t' R ds u w → Leaves P fn t R ds u w
  | [], .returning, w => by unfold Leaves; rw [h]; exact id
  | [], .panicking c, w => id
  | [], .run, w => id
  | d :: ds, u, w => fun ⟨h1, fv, cap, f, args, h2, h3, h4⟩ => ⟨h1, fv, cap, f, args, h2, h3, h4.mono fun e u' w' he => by
      cases e with
      | returned v => exact leaves_put h ds _ _ he
      | panicked c => exact leaves_put h ds _ _ he
      | outgrown => exact he⟩

end Go.Proofs.YtkbblhioncecmaaGreatDoor
namespace Go.Proofs.YtkbblhioncecmaaGreatDoor
open Go.RowKit
set_option linter.unusedSimpArgs false
set_option linter.unusedVariables false

/-- the bytes of a slice may be written -/
def There1 (w : World) (a : Option Addr) (n : Nat) : Prop := n = 0 ∨ ∃ b o, a = some ⟨b, o, none⟩ ∧ w.there b o n
theorem There1.keep {w w' : World} {a : Option Addr} {n : Nat} (h : There1 w a n) {ok : Nat → Prop} (hi : InB ok a n) (hk : ∀ k, ok k → w'.heap[k]? = w.heap[k]?) : There1 w' a n := by
  rcases h with h | ⟨b, o, rfl, h⟩
  · exact .inl h
  · rcases hi with hi | hi
    · exact .inl hi
    · refine .inr ⟨b, o, rfl, fun j hj => ?_⟩
      have hb := hk b (hi b o none rfl)
      rw [World.cell?_of_block (a := ⟨b, o + j, none⟩) hb, World.frozen?_of_block (a := ⟨b, o + j, none⟩) hb]
      exact h j hj
/-- the bytes of a value itself may be written -/
def Wr1 (w : World) (v : SV) : Prop := There1 w v.a1 v.n1 ∧ There1 w v.a2 v.n2
theorem Wr1.keep {w w' : World} {v : SV} {s : Sx} (h : Wr1 w v) {ok : Nat → Prop} (hr : RdI ok w v s) (hk : ∀ k, ok k → w'.heap[k]? = w.heap[k]?) : Wr1 w' v :=
  ⟨h.1.keep hr.inb.1 hk, h.2.keep hr.inb.2.1 hk⟩
/-- a clone: of new memory alone, which may be written -/
structure CL (w : World) (B : Nat) (v : SV) (s : Sx) : Prop where
  rd : RdI (fun k => B ≤ k) w v s
  self : Wr1 w v
  row : v.n3 = 0 ∨ ∃ b o, v.a3 = some ⟨b, o, none⟩ ∧ w.there b o (v.n3 * 5)
  kids : ∃ K, RowAt w v.a3 v.n3 v.c3 K ∧ ∀ i, i < v.n3 → Wr1 w (K i) ∧ InB (fun k => B ≤ k) (K i).a1 (K i).n1 ∧ InB (fun k => B ≤ k) (K i).a2 (K i).n2
theorem OwnB.there1 {w : World} {B : Nat} {l : List UInt8} {a : Option Addr} {n c : Nat} (h : OwnB w B (.slice a n c) l) (hn : n = l.length) : There1 w a n := by
  rcases h.2 with ⟨h1, h2⟩ | ⟨g, o, cap, h1, h2, h3, h4, h5, h6, h7⟩
  · exact .inl (by omega)
  · cases h1
    refine .inr ⟨g, o, rfl, fun j hj => h6 j (by omega)⟩

/-- the local value while its kids are cloned: B: below it nothing changes; k of them are -/
structure CLk (w u : World) (vl vh : Bool) (hi da : List UInt8) (ks : List Sx) (k : Nat) (v : SV) (K : Nat → SV) : Prop where
  l : v.l = vl ∧ v.h = vh
  X : Box u w.heap.size 26 v.cells
  R : Box u (w.heap.size + 1) 26 #[.bool false, .bool false, .slice none 0 0, .slice none 0 0, .slice none 0 0]
  h : OwnB u (w.heap.size + 2) (.slice v.a1 v.n1 v.c1) hi ∧ v.n1 = hi.length
  d : OwnB u (w.heap.size + 2) (.slice v.a2 v.n2 v.c2) da ∧ v.n2 = da.length
  row : OwnG u (w.heap.size + 2) 5 (.slice v.a3 v.n3 v.c3) v.n3 (newsK K v.n3)
  n : v.n3 = ks.length
  s1 : ∀ k, (Value.slice v.a1 v.n1 v.c1).ownBlock = some k → (Value.slice v.a3 v.n3 v.c3).ownBlock ≠ some k
  s2 : ∀ k, (Value.slice v.a2 v.n2 v.c2).ownBlock = some k → (Value.slice v.a3 v.n3 v.c3).ownBlock ≠ some k
  old : ∀ i (hi : i < ks.length), k ≤ i → Rd w (K i) ks[i]
  new : ∀ i (hi : i < ks.length), i < k → RdI (fun b => w.heap.size + 2 ≤ b ∧ (Value.slice v.a3 v.n3 v.c3).ownBlock ≠ some b) u (K i) ks[i] ∧ Wr1 u (K i)
  B : Below w.heap.size w u
theorem CLk.after {w u u' : World} {vl vh : Bool} {hi da : List UInt8} {ks : List Sx} {k : Nat} {v : SV} {K : Nat → SV} (h : CLk w u vl vh hi da ks k v K) (hb : Below u.heap.size u u') : CLk w u' vl vh hi da ks k v K :=
  ⟨h.l, h.X.after hb, h.R.after hb, ⟨h.h.1.after hb, h.h.2⟩, ⟨h.d.1.after hb, h.d.2⟩, h.row.after hb, h.n, h.s1, h.s2, h.old, fun i hi hk => ⟨(h.new i hi hk).1.after hb, (h.new i hi hk).2.keep (h.new i hi hk).1.there (fun b hb' => hb.block b hb'.2)⟩, h.B.trans (hb.mono h.B.size)⟩
/-- the k-th of them is replaced by its clone -/
theorem CLk.next {w u : World} {vl vh : Bool} {hi da : List UInt8} {ks : List Sx} {k : Nat} {v : SV} {K : Nat → SV} {b o : Nat} (h : CLk w u vl vh hi da ks k v K) (ha : v.a3 = some ⟨b, o, none⟩) (hk : k < ks.length) {z : SV} {E : Nat} (hz : RdI (fun x => E ≤ x) u z ks[k]) (hw : Wr1 u z) (hE : ∀ x, (Value.slice v.a3 v.n3 v.c3).ownBlock = some x → x < E) (hE2 : w.heap.size + 2 ≤ E) :
    u.there b (o + k * 5) 5 ∧ CLk w (u.setCells b (o + k * 5) z.cells.toList) vl vh hi da ks (k + 1) v (fun j => if j = k then z else K j) := by
  have hrow := h.row
  rw [ha] at hrow
  obtain ⟨hth, ho⟩ := hrow.setElem k (by rw [h.n]; exact hk) z
  have hbo : (Value.slice v.a3 v.n3 v.c3).ownBlock = some b := by rw [ha]; simp [Value.ownBlock]
  have hbl := h.row.lt b hbo
  have hbut := but_cells u b (o + k * 5) z.cells.toList
  have hEb := hE b hbo
  refine ⟨hth, ⟨h.l, hbut.box h.X (by omega), hbut.box h.R (by omega), ⟨h.h.1.but hbut (fun x e hx => h.s1 x e (by rw [hx]; exact hbo)), h.h.2⟩, ⟨h.d.1.but hbut (fun x e hx => h.s2 x e (by rw [hx]; exact hbo)), h.d.2⟩, by rw [ha]; exact ho, h.n, h.s1, h.s2, fun i hi hki => ?_, fun i hi hik => ?_, hbut.after h.B h.B.size (fun x hx => by omega)⟩⟩
  · rw [if_neg (by omega)]
    exact h.old i hi (by omega)
  · by_cases hik' : i = k
    · subst hik'
      rw [if_pos rfl]
      refine ⟨(hz.but hbut (fun x hx e => by omega)).mono (fun x hx => ⟨by omega, fun e => by have := hE x e; omega⟩), hw.keep hz.there (fun x hx => hbut.block x hx.2 (fun e => by have := hx.1; omega))⟩
    · rw [if_neg hik']
      have h1 := h.new i hi (by omega)
      refine ⟨h1.1.but hbut (fun x hx e => hx.2 (by rw [e]; exact hbo)), h1.2.keep h1.1.there (fun x hx => hbut.block x hx.2 (fun e => hx.1.2 (by rw [e]; exact hbo)))⟩
/-- all of them are cloned -/
theorem CLk.done {w u : World} {vl vh : Bool} {hi da : List UInt8} {ks : List Sx} {v : SV} {K : Nat → SV} (h : CLk w u vl vh hi da ks ks.length v K) {u' : World} (hb : But (fun k => k = w.heap.size + 1) u u') : CL u' w.heap.size v (.mk vl vh hi da ks) := by
  obtain ⟨a', c', e', hrow, hinb⟩ := h.row.row
  cases e'
  have hd := h.d.1.but hb (fun k e hk => by have := (h.d.1.own k e).1; omega)
  have hh := h.h.1.but hb (fun k e hk => by have := (h.h.1.own k e).1; omega)
  have hr := h.row.but hb (fun k e hk => by have := (h.row.lt k e).1; omega)
  have pb : ∀ {l : List UInt8} {a : Option Addr} {n c : Nat}, OwnB u' (w.heap.size + 2) (.slice a n c) l → n = l.length → Sl u' a n c l ∧ InB (fun k => w.heap.size ≤ k) a n ∧ There1 u' a n := fun ho hn => by
    obtain ⟨a0, n0, c0, e0, s0, i0⟩ := ho.parts
    cases e0
    exact ⟨s0, i0.mono (fun k hk => by omega), ho.there1 hn⟩
  obtain ⟨s1, i1, t1⟩ := pb hh h.h.2
  obtain ⟨s2, i2, t2⟩ := pb hd h.d.2
  obtain ⟨a3', c3', e3, hrow', hinb'⟩ := hr.row
  cases e3
  have hkid : ∀ i (hi : i < ks.length), RdI (fun b => w.heap.size ≤ b) u' (K i) ks[i] := fun i hi => ((h.new i hi hi).1.but hb (fun x hx e => by omega)).mono (fun x hx => by omega)
  obtain ⟨hl1, hl2⟩ := h.l
  refine ⟨?_, ⟨t1, t2⟩, ?_, K, hrow', fun i hi => ?_⟩
  · subst hl1 hl2
    exact .mk v hi da ks K s1 i1 s2 i2 hrow' (hinb'.mono (fun k hk => by omega)) h.n hkid
  · rcases hr.2 with ⟨e1, e2⟩ | ⟨g, o, cap, e1, e2, e3, e4, e5, e6, e7⟩
    · exact .inl e2
    · injection e1 with e1a e1b e1c
      exact .inr ⟨g, o, e1a, fun j hj => e6 j (by have := Nat.mul_le_mul_right 5 e4; omega)⟩
  · have hi' : i < ks.length := by rw [← h.n]; exact hi
    have h1 := h.new i hi' hi'
    exact ⟨h1.2.keep h1.1.there (fun x hx => hb.block x hx.2 (fun e => by omega)), (hkid i hi').inb.1, (hkid i hi').inb.2.1⟩

end Go.Proofs.YtkbblhioncecmaaGreatDoor
namespace Go.Proofs.YtkbblhioncecmaaGreatDoor
open Go.RowKit

theorem bldInfo5 : (Tryz.prog.info? 5).map (fun i => (i.zero, i.size, i.bytes)) = some (some (.int .u8 0), 1, 1) := by kernel_rfl
theorem bldSize : (Tryz.prog.info? 52).map (·.size) = some 2 := by kernel_rfl
theorem bldLies : liesAt Tryz.prog Tryz.prog.depth 52 (2 / Tryz.prog.cellsOf 52) 0 52 1 = true := by kernel_rfl

set_option maxHeartbeats 1000000 in
set_option maxRecDepth 100000 in
theorem copyCheck_used (b : Nat) (w : World) (h0 : w.cell? ⟨b, 0, none⟩ = some (.pointer (some ⟨b, 0, none⟩))) :
    Calls Tryz.prog 59 #[.pointer (some ⟨b, 0, none⟩)] w fun e w' => e = .returned (.tuple #[]) ∧ w = w' := by
  obtain ⟨j, hj, _⟩ := Option.map_eq_some_iff.1 bldSize
  go_enter Tryz.func59, Tryz.ntmps59
  go_wp2
  rw [Lib.run_neq_ptr_same w _ Tryz.underlying50 hj]
  go_wp2
  go_end0
  exact ⟨rfl, rfl⟩

set_option maxHeartbeats 1000000 in
set_option maxRecDepth 100000 in
theorem copyCheck_fresh (b : Nat) (w : World) (h0 : w.cell? ⟨b, 0, none⟩ = some (.pointer none)) (hsh : w.shape? b = some (52, 2)) (hfz : w.frozen? ⟨b, 0, none⟩ = false) :
    Calls Tryz.prog 59 #[.pointer (some ⟨b, 0, none⟩)] w fun e w' => e = .returned (.tuple #[]) ∧ w.setCell ⟨b, 0, none⟩ (.pointer (some ⟨b, 0, none⟩)) = w' := by
  obtain ⟨j, hj, hjs⟩ := Option.map_eq_some_iff.1 bldSize
  go_enter Tryz.func59, Tryz.ntmps59
  go_wp2
  rw [Lib.run_to_unsafe w ⟨b, 0, none⟩ Tryz.underlying50 Tryz.underlying115 hj (by rw [hjs]; decide) hsh (Nat.zero_lt_succ 1)]
  simp only [Result.andThen]
  rw [Oper.upon_value]
  go_wp2
  rw [run_callFunc_extern Tryz.func77 (by kernel_rfl) (by kernel_rfl) (by kernel_rfl) (e := Extern.AbiNoEscape.same) (by kernel_rfl)]
  rw [Lib.run_noEscape]
  simp only [Result.andThen]
  rw [Oper.upon_value]
  go_wp2
  rw [Lib.run_from_unsafe w ⟨b, 0, none⟩ Tryz.underlying115 Tryz.underlying50 hj hsh bldLies]
  simp only [Result.andThen]
  rw [Oper.upon_value]
  go_wp2
  go_end0
  exact ⟨rfl, rfl⟩

theorem copyCheck (B b : Nat) (bs : List Value) (w : World) (h : Lib.IsBuilder 52 5 B b bs w) :
    Calls Tryz.prog 59 #[.pointer (some ⟨b, 0, none⟩)] w fun e w' => e = .returned (.tuple #[]) ∧ (Lib.BuilderAt 52 5 B b (.pointer (some ⟨b, 0, none⟩)) bs w' ∧ Below B w w') := by
  rcases h with h | h
  · refine (copyCheck_fresh b w h.cell0 h.shape h.frozen0).mono ?_
    rintro e w' ⟨rfl, rfl⟩
    exact ⟨rfl, h.used _, (Below.refl B w).setCell (p := ⟨b, 0, none⟩) h.1 _⟩
  · refine (copyCheck_used b w h.cell0).mono ?_
    rintro e w' ⟨rfl, rfl⟩
    exact ⟨rfl, h, Below.refl B _⟩

set_option maxHeartbeats 2000000 in
set_option maxRecDepth 100000 in
theorem bldByte (B b : Nat) (bs : List Value) (c : Int) (w : World) (h : Lib.IsBuilder 52 5 B b bs w) (hlen : bs.length + 1 ≤ 140737488355328) (hBw : B ≤ w.heap.size) :
    Calls Tryz.prog 38 #[.pointer (some ⟨b, 0, none⟩), .int .u8 c] w fun e w' => e = .returned .nilIface ∧ Lib.IsBuilder 52 5 B b (bs ++ [.int .u8 c]) w' ∧ Below B w w' := by
  obtain ⟨i0, hi, hz0, hz1, hz2⟩ := info_parts bldInfo5
  go_enter Tryz.func38, Tryz.ntmps38
  go_wp2_with (go_at_call 59; refine (copyCheck B b bs _ h).mono ?_)
  rintro e w1 ⟨rfl, h1, hb1⟩
  obtain ⟨hB, v, hbk, hown, hne⟩ := h1
  have c0 : w1.cell? ⟨b, 0, none⟩ = some (.pointer (some ⟨b, 0, none⟩)) := by rw [Lib.cell_of_heap hbk]; rfl
  have c1 : w1.cell? ⟨b, 1, none⟩ = some v := by rw [Lib.cell_of_heap hbk]; rfl
  go_wp2_with (at_builtin; refine wpList_append_own _ rfl _ _ 23 rfl B 5 i0 (.int .u8 0) 1 1 Tryz.underlying23 hi hz0 hz1 hz2 rfl (by decide) _ _ _ rfl (hown.alloc _) ⟨w1.heap.size, 0, none⟩ 1 1 [.int .u8 c] rfl rfl ?c1 ?c2 ?c3 ?c4 ?c5 ?_)
  case c1 =>
    intro j u hj
    match j, hj with
    | 0, hj => simp at hj; subst hj; simp [Addr.add]
  case c2 => intro u hu; simp at hu; subst hu; rfl
  case c3 => unfold maxLen; omega
  case c4 => omega
  case c5 => have := hb1.size; simp; omega
  intro v' w2 hown' hgrow _
  have hlt : b < w1.heap.size := by
    rcases Nat.lt_or_ge b w1.heap.size with h' | h'
    · exact h'
    · simp [Array.getElem?_eq_none h'] at hbk
  have hb2 : w2.heap[b]? = some (.cells #[.pointer (some ⟨b, 0, none⟩), v] 52 (0, 0)) := by
    rw [hgrow.block b (by simp; omega) (fun e => hne e.symm), Lib.alloc_old w1 _ b hlt]
    exact hbk
  have d0 : w2.cell? ⟨b, 0, none⟩ = some (.pointer (some ⟨b, 0, none⟩)) := by rw [Lib.cell_of_heap hb2]; rfl
  have d1 : w2.cell? ⟨b, 1, none⟩ = some v := by rw [Lib.cell_of_heap hb2]; rfl
  have f1 : w2.frozen? ⟨b, 1, none⟩ = false := Lib.frozen_of_heap hb2 1
  obtain ⟨g, cap, rfl⟩ : ∃ g cap, v' = .slice (some ⟨g, 0, none⟩) (bs.length + 1) cap := by
    rcases hown'.2 with ⟨_, h0⟩ | ⟨g, cap, cur, hv, _⟩
    · omega
    · exact ⟨g, cap, hv⟩
  go_wp2
  go_ret
  refine ⟨rfl, .inr ?_, ?_⟩
  · exact Lib.BuilderAt.put (T := 52) (e := 5) hB hb2 (bs' := bs ++ [.int .u8 c]) (by simpa using hown') (by decide)
  · exact ((hb1.alloc (by have := hb1.size; omega) _).grown hgrow (by have := hb1.size; simp; omega) (fun k hk => (hown.lt k hk).1)).setCell (p := ⟨b, 1, none⟩) hB _

set_option maxHeartbeats 2000000 in
set_option maxRecDepth 100000 in
theorem bldString (B b : Nat) (bs : List Value) (s : ByteArray) (w : World) (h : Lib.IsBuilder 52 5 B b bs w) (hlen : bs.length + s.size ≤ 140737488355328) (hBw : B ≤ w.heap.size) :
    Calls Tryz.prog 65 #[.pointer (some ⟨b, 0, none⟩), .string s] w fun e w' => e = .returned (.tuple #[.int .i64 s.size, .nilIface]) ∧ Lib.IsBuilder 52 5 B b (bs ++ Lib.strCells s) w' ∧ Below B w w' := by
  obtain ⟨i0, hi, hz0, hz1, hz2⟩ := info_parts bldInfo5
  go_enter Tryz.func65, Tryz.ntmps65
  go_wp2_with (go_at_call 59; refine (copyCheck B b bs _ h).mono ?_)
  rintro e w1 ⟨rfl, h1, hb1⟩
  obtain ⟨hB, v, hbk, hown, hne⟩ := h1
  have c0 : w1.cell? ⟨b, 0, none⟩ = some (.pointer (some ⟨b, 0, none⟩)) := by rw [Lib.cell_of_heap hbk]; rfl
  have c1 : w1.cell? ⟨b, 1, none⟩ = some v := by rw [Lib.cell_of_heap hbk]; rfl
  go_wp2_with (at_builtin; refine Lib.wpList_append_own_string _ rfl _ _ 23 9 rfl B 5 i0 Tryz.underlying23 Tryz.underlying9 hi hz0 hz1 hz2 _ _ _ rfl hown s rfl ?c3 ?c4 ?c5 ?_)
  case c3 => unfold maxLen; omega
  case c4 => omega
  case c5 => have := hb1.size; omega
  intro v' w2 hown' hgrow _
  have hlt : b < w1.heap.size := by
    rcases Nat.lt_or_ge b w1.heap.size with h' | h'
    · exact h'
    · simp [Array.getElem?_eq_none h'] at hbk
  have hb2 : w2.heap[b]? = some (.cells #[.pointer (some ⟨b, 0, none⟩), v] 52 (0, 0)) := by
    rw [hgrow.block b hlt (fun e => hne e.symm)]
    exact hbk
  have d0 : w2.cell? ⟨b, 0, none⟩ = some (.pointer (some ⟨b, 0, none⟩)) := by rw [Lib.cell_of_heap hb2]; rfl
  have d1 : w2.cell? ⟨b, 1, none⟩ = some v := by rw [Lib.cell_of_heap hb2]; rfl
  have f1 : w2.frozen? ⟨b, 1, none⟩ = false := Lib.frozen_of_heap hb2 1
  obtain ⟨ao, n', cap, rfl⟩ : ∃ ao n' cap, v' = .slice ao n' cap := by
    rcases hown'.2 with ⟨hv, _⟩ | ⟨g, cap, cur, hv, _⟩
    · exact ⟨_, _, _, hv⟩
    · exact ⟨_, _, _, hv⟩
  go_wp2
  go_ret2
  refine ⟨rfl, .inr ?_, ?_⟩
  · exact Lib.BuilderAt.put (T := 52) (e := 5) hB hb2 (bs' := bs ++ Lib.strCells s) (by simpa [Lib.strCells_length] using hown') (by decide)
  · exact (hb1.grown hgrow (by have := hb1.size; omega) (fun k hk => (hown.lt k hk).1)).setCell (p := ⟨b, 1, none⟩) hB _

theorem bldOut (B b : Nat) (l : List UInt8) (w : World) (h : Lib.IsBuilder 52 5 B b (Lib.byteCells l) w) (hBw : B ≤ w.heap.size) :
    Calls Tryz.prog 20 #[.pointer (some ⟨b, 0, none⟩)] w fun e w' => e = .returned (.string ⟨l.toArray⟩) ∧ Below B w w' :=
  Tryz.Builder_String_any B b l w h hBw
end Go.Proofs.YtkbblhioncecmaaGreatDoor
namespace Go.Proofs.YtkbblhioncecmaaGreatDoor
open Go.RowKit

def hexB : ByteArray := ⟨#[48, 49, 50, 51, 52, 53, 54, 55, 56, 57, 97, 98, 99, 100, 101, 102]⟩
def hxd (k : Nat) : UInt8 := if h : k < 16 then hexB[k]'h else 0
theorem hxd_eq (k : Nat) (h : k < 16) : hexB[k]'h = hxd k := by simp [hxd, h]
def hexL (l : List UInt8) : List UInt8 := l.flatMap fun c => [hxd (c.toNat / 16), hxd (c.toNat % 16)]
theorem hexL_snoc (l : List UInt8) (c : UInt8) : hexL (l ++ [c]) = hexL l ++ [hxd (c.toNat / 16), hxd (c.toNat % 16)] := by simp [hexL]
theorem hexL_len (l : List UInt8) : (hexL l).length = 2 * l.length := by induction l <;> simp_all [hexL]; omega
theorem take_snoc (l : List UInt8) (k : Nat) (h : k < l.length) : l.take (k + 1) = l.take k ++ [l.getD k 0] := by
  rw [List.take_succ_eq_append_getElem h]; simp [List.getD_eq_getElem?_getD, h]
theorem byteCells_snoc' (d : List UInt8) (c : UInt8) : Lib.byteCells d ++ [Value.int IntKind.u8 (c.toNat : Int)] = Lib.byteCells (d ++ [c]) := by simp [Lib.byteCells]

/-- a hexadecimal digit's value -/
def hval (n : Nat) : Option Nat := if 48 ≤ n ∧ n ≤ 57 then some (n - 48) else if 97 ≤ n ∧ n ≤ 102 then some (n - 87) else if 65 ≤ n ∧ n ≤ 70 then some (n - 55) else none
def hvalI (c : UInt8) : Int := match hval c.toNat with | some v => v | none => -1
theorem hval_lt (n v : Nat) (h : hval n = some v) : v < 16 := by
  unfold hval at h
  split at h
  · simp at h; omega
  · split at h
    · simp at h; omega
    · split at h
      · simp at h; omega
      · cases h
theorem hvalI_big : ∀ n : Fin 256, 65 ≤ n.val → n.val ≤ 70 → Lib.indexByte hexB.data.toList ((n.val + 32).toUInt8) = hvalI (UInt8.ofNat n.val) := by decide +kernel
theorem hvalI_small : ∀ n : Fin 256, ¬ (65 ≤ n.val ∧ n.val ≤ 70) → Lib.indexByte hexB.data.toList (n.val.toUInt8) = hvalI (UInt8.ofNat n.val) := by decide +kernel

set_option maxHeartbeats 400000 in
set_option maxRecDepth 100000 in
theorem digit_any (c : UInt8) (w : World) : Calls Tryz.prog 75 #[.int .u8 (c.toNat : Int)] w fun e w' => e = .returned (.int .i64 (hvalI c)) ∧ w' = w := by
  have hc := c.toNat_lt
  have hb := hvalI_big ⟨c.toNat, hc⟩
  have hs := hvalI_small ⟨c.toNat, hc⟩
  simp only [UInt8.ofNat_toNat] at hb hs
  have HB := Lib.hid hb
  have HS := Lib.hid hs
  clear hb hs
  by_cases h1 : (65 : Int) ≤ (c.toNat : Int)
  · by_cases h2 : (c.toNat : Int) ≤ 70
    · go_enter Tryz.func75, Tryz.ntmps75
      go_wp2_with fail
      refine (Tryz.strings_IndexByte _ _ _).mono ?_
      rintro e w1 ⟨rfl, hw⟩
      go_wp2_with fail
      go_ret
      refine ⟨?_, rfl⟩
      rw [← HB.out (by omega) (by omega)]
      rfl
    · replace h2 : (70 : Int) < (c.toNat : Int) := by omega
      go_enter Tryz.func75, Tryz.ntmps75
      go_wp2_with fail
      refine (Tryz.strings_IndexByte _ _ _).mono ?_
      rintro e w1 ⟨rfl, hw⟩
      go_wp2_with fail
      go_ret
      refine ⟨?_, rfl⟩
      rw [← HS.out (by omega)]
      rfl
  · replace h1 : (c.toNat : Int) < 65 := by omega
    go_enter Tryz.func75, Tryz.ntmps75
    go_wp2_with fail
    refine (Tryz.strings_IndexByte _ _ _).mono ?_
    rintro e w1 ⟨rfl, hw⟩
    go_wp2_with fail
    go_ret
    refine ⟨?_, rfl⟩
    rw [← HS.out (by omega)]
    rfl

set_option maxHeartbeats 1000000 in
set_option maxRecDepth 100000 in
theorem hex_any (a : Option Addr) (len cap : Nat) (l : List UInt8) (w : World) (hs : Sl w a len cap l) (hl : l.length ≤ 1000000) :
    Calls Tryz.prog 66 #[.slice a len cap] w fun e w' => e = .returned (.string ⟨(hexL l).toArray⟩) ∧ Below w.heap.size w w' := by
  have hlt0 := hs.lt
  obtain ⟨hlen, hlc, hcm, hnil, hc⟩ := hs
  have HL := Lib.hid hlen
  have HC := Lib.hid hc
  have HN := Lib.hid hlt0
  have hl' : len ≤ 1000000 := by omega
  clear hlen hc hnil hlt0
  go_enter Tryz.func66, Tryz.ntmps66
  go_wp2_with fail
  go_loopw [8] (fun i wr => ∃ k : Nat, k ≤ len ∧ i = .int .i64 k ∧ Lib.IsBuilder 52 5 w.heap.size w.heap.size (Lib.byteCells (hexL (l.take k))) wr ∧ Below w.heap.size w wr) (fun i _ => len - (intOf i).toNat)
  case atStart => exact ⟨0, Nat.zero_le _, rfl, Lib.fresh_isBuilder _ _ _, (Below.refl _ _).alloc (Nat.le_refl _) _⟩
  case round =>
    obtain ⟨k, hk, rfl, hB, hW⟩ := hrel
    by_cases hlt : k < len
    · obtain ⟨b, o, rfl, hcc⟩ : ∃ b o, a = some ⟨b, o, none⟩ ∧ ∀ i, i < len → w.cell? ⟨b, o + i, none⟩ = some (.int .u8 ((l.getD i 0).toNat : Int)) := by
        rcases HC.out with hc | hc
        · omega
        · exact hc
      have hbw := HN.out b o (by omega) rfl
      obtain ⟨c, hcE⟩ : ∃ c, c = l.getD k 0 := ⟨_, rfl⟩
      have c0 : wr.cell? ⟨b, o + k, none⟩ = some (.int .u8 (c.toNat : Int)) := by rw [hW.cell hbw, hcE]; exact hcc k hlt
      have hcl := c.toNat_lt
      obtain ⟨k0, h0⟩ : ∃ k0 : Nat, k0 = c.toNat / 16 := ⟨_, rfl⟩
      obtain ⟨k1, h1⟩ : ∃ k1 : Nat, k1 = c.toNat % 16 := ⟨_, rfl⟩
      have f0 : (c.toNat : Int) / 16 = (k0 : Int) := by omega
      have f1 : bits .and .u8 (c.toNat : Int) 15 = (k1 : Int) := by rw [u8_and15 (x := (c.toNat : Int)) (by omega) (by omega)]; omega
      have b0 : k0 < 16 := by omega
      have b1 : k1 < 16 := by omega
      have hstep : Lib.byteCells (hexL (l.take (k + 1))) = Lib.byteCells (hexL (l.take k)) ++ [.int .u8 ((hxd k0).toNat : Int)] ++ [.int .u8 ((hxd k1).toNat : Int)] := by
        rw [take_snoc l k (by have := HL.out; omega), hexL_snoc, ← hcE, byteCells_snoc', byteCells_snoc', h0, h1]; simp
      have hll : (Lib.byteCells (hexL (l.take k))).length ≤ 2000000 := by rw [byteCells_length, hexL_len]; simp; omega
      have HE := Lib.hid hstep
      clear hstep hcE hcc h0 h1
      go_wp2_with fail
      refine (bldByte _ _ _ _ _ hB (by omega) hW.size).mono ?_
      rintro e w1 ⟨rfl, hB1, hb1⟩
      have e0 := hxd_eq k0 b0
      unfold hexB at e0
      rw [e0] at hB1
      clear e0
      go_wp2_with fail
      refine (bldByte _ _ _ _ _ hB1 (by simp; omega) (hW.trans hb1).size).mono ?_
      rintro e w2 ⟨rfl, hB2, hb2⟩
      have e1 := hxd_eq k1 b1
      unfold hexB at e1
      rw [e1, ← HE.out] at hB2
      clear e1
      go_wp2_with fail
      go_roundw
      case rel => exact ⟨k + 1, by omega, by go_num, hB2, (hW.trans hb1).trans hb2⟩
      case measure => simp [intOf]; omega
    · obtain rfl : k = len := by omega
      have hall : l.take k = l := List.take_of_length_le (by have := HL.out; omega)
      rw [hall] at hB
      clear hall
      go_wp2_with fail
      refine (bldOut _ _ _ _ hB hW.size).mono ?_
      rintro e w1 ⟨rfl, hb1⟩
      go_wp2_with fail
      go_ret
      exact ⟨rfl, hW.trans hb1⟩

/-- the bytes of hexadecimal digits -/
def unhex : List UInt8 → Option (List UInt8)
  | [] => some []
  | [_] => none
  | a :: b :: t => match hval a.toNat, hval b.toNat with
    | some x, some y => (unhex t).map (UInt8.ofNat (16 * x + y) :: ·)
    | _, _ => none
theorem unhex_odd (l : List UInt8) (h : l.length % 2 = 1) : unhex l = none := by
  induction l using unhex.induct with
  | case1 => simp at h
  | case2 => rfl
  | case3 a b t x y hx hy ih =>
    have := ih (by simp at h; omega)
    simp [unhex, hx, hy, this]
  | case4 a b t h1 => simp only [unhex]

/-- the error of what is none: ErrForm -/
def errForm (o : Option (List UInt8)) : Int := if o.isSome then 0 else 3

def slLen : Value → Nat
  | .slice _ n _ => n
  | _ => 0
def strLen : Value → Nat
  | .string s => s.size
  | _ => 0
theorem sl_nil (w : World) : Sl w none 0 0 [] := ⟨rfl, Nat.le_refl _, Nat.zero_le _, fun _ => rfl, .inl rfl⟩
theorem sl_cell (w : World) (g : Nat) (c : UInt8) (h : w.cell? ⟨g, 0, none⟩ = some (.int .u8 (c.toNat : Int))) : Sl w (some ⟨g, 0, none⟩) 1 1 [c] := by
  refine ⟨rfl, Nat.le_refl _, by unfold maxLen; omega, (fun h => by cases h), .inr ⟨g, 0, rfl, fun i hi => ?_⟩⟩
  obtain rfl : i = 0 := by omega
  simpa using h
theorem sl_cell_nat (w : World) (g z : Nat) (hz : z < 256) (h : w.cell? ⟨g, 0, none⟩ = some (.int .u8 (z : Int))) : Sl w (some ⟨g, 0, none⟩) 1 1 [UInt8.ofNat z] := by
  refine sl_cell w g _ ?_
  rw [h]
  have : (UInt8.ofNat z).toNat = z := by simp; omega
  rw [this]
theorem cell_new (w : World) (v : Value) (g : Nat) (hg : g = w.heap.size) : (w.alloc (.cells #[v] 5)).cell? ⟨g, 0, none⟩ = some v := by
  subst hg
  rw [World.cell?_alloc_mark]; rfl
theorem i64_join (x y : Nat) (hx : x < 16) (hy : y < 16) : bits .or .i64 ((x : Int) * 16) (y : Int) = ((16 * x + y : Nat) : Int) := by
  rw [bits_join .i64 32 (by decide) (fun n h0 h1 => by rw [IntKind.wrap_i64]; omega) 4 _ _ (by omega) (by omega) (by omega) (by omega) (by omega) (by omega)]
  omega
end Go.Proofs.YtkbblhioncecmaaGreatDoor
namespace Go.Proofs.YtkbblhioncecmaaGreatDoor
open Go.RowKit

theorem unhex_drop (s : ByteArray) (k : Nat) (hk : k + 1 < s.size) :
    unhex (s.data.toList.drop k) = match hval (s[k]'(by omega)).toNat, hval (s[k + 1]'hk).toNat with
      | some x, some y => (unhex (s.data.toList.drop (k + 2))).map (UInt8.ofNat (16 * x + y) :: ·)
      | _, _ => none := by
  have h1 : k < s.data.toList.length := by simpa using (by omega : k < s.size)
  have h2 : k + 1 < s.data.toList.length := by simpa using hk
  rw [List.drop_eq_getElem_cons h1, List.drop_eq_getElem_cons h2]
  rfl
theorem hvalI_some (c : UInt8) (v : Nat) (h : hval c.toNat = some v) : hvalI c = (v : Int) := by simp [hvalI, h]
theorem hvalI_none (c : UInt8) (h : hval c.toNat = none) : hvalI c = -1 := by simp [hvalI, h]
end Go.Proofs.YtkbblhioncecmaaGreatDoor
namespace Go.Proofs.YtkbblhioncecmaaGreatDoor
open Go.RowKit

def signs : ByteArray := ⟨#[65, 66, 67, 68, 69, 70, 71, 72, 73, 74, 75, 76, 77, 78, 79, 80, 81, 82, 83, 84, 85, 86, 87, 88, 89, 90, 97, 98, 99, 100, 101, 102, 103, 104, 105, 106, 107, 108, 109, 110, 111, 112, 113, 114, 115, 116, 117, 118, 119, 120, 121, 122, 48, 49, 50, 51, 52, 53, 54, 55, 56, 57, 43, 47]⟩
def sgn (k : Nat) : UInt8 := if h : k < 64 then signs[k]'h else 0
theorem sgn_eq (k : Nat) (h : k < 64) : signs[k]'h = sgn k := by simp [sgn, h]

def quad (n : Nat) : List UInt8 := [sgn (n / 262144 % 64), sgn (n / 4096 % 64), sgn (n / 64 % 64), sgn (n % 64)]
def b64 : List UInt8 → List UInt8
  | [] => []
  | [a] => [sgn (a.toNat * 65536 / 262144 % 64), sgn (a.toNat * 65536 / 4096 % 64), 61, 61]
  | [a, b] => [sgn ((a.toNat * 65536 + b.toNat * 256) / 262144 % 64), sgn ((a.toNat * 65536 + b.toNat * 256) / 4096 % 64), sgn ((a.toNat * 65536 + b.toNat * 256) / 64 % 64), 61]
  | a :: b :: c :: t => quad (a.toNat * 65536 + b.toNat * 256 + c.toNat) ++ b64 t

theorem or_step (X y : Nat) (hX : X < 65536) (hy : y < 256) : bits BinOp.or IntKind.u32 ((X : Int) * 256) (y : Int) = ((X * 256 + y : Nat) : Int) := by
  have e1 : (X : Int) * 256 = ((X * 256 : Nat) : Int) := by omega
  rw [e1, u32_or_nat _ _ (by omega) (by omega)]
  congr 1
  have := Nat.two_pow_add_eq_or_of_lt (i := 8) (b := y) (by omega) X
  rw [show X * 256 = 2 ^ 8 * X by omega, this]
theorem or_first (y : Nat) (hy : y < 256) : bits BinOp.or IntKind.u32 0 (y : Int) = (y : Int) := by
  have := or_step 0 y (by omega) hy
  simpa using this
theorem and63 (X : Nat) (hX : X < 4294967296) : bits BinOp.and IntKind.u32 (X : Int) 63 = ((X % 64 : Nat) : Int) := by
  rw [show (63 : Int) = ((63 : Nat) : Int) from rfl, u32_and_nat _ _ hX (by omega)]
  congr 1
  exact Nat.and_two_pow_sub_one_eq_mod X 6

theorem byteCells_snoc (d : List UInt8) (c : UInt8) : Lib.byteCells d ++ [Value.int IntKind.u8 (c.toNat : Int)] = Lib.byteCells (d ++ [c]) := by simp [Lib.byteCells]
theorem byteCells_fill (d : List UInt8) : Lib.byteCells d ++ Lib.strCells ⟨#[61]⟩ = Lib.byteCells (d ++ [61]) := by simp [Lib.byteCells, Lib.strCells]
theorem b64_len (l : List UInt8) : (b64 l).length ≤ 2 * l.length + 4 := by
  induction l using b64.induct <;> simp [b64, quad] <;> omega

set_option maxHeartbeats 1600000 in
set_option maxRecDepth 100000 in
theorem base64_any (a : Option Addr) (len cap : Nat) (l : List UInt8) (w : World) (hs : Sl w a len cap l) (hl : l.length ≤ 1000000) :
    Calls Tryz.prog 67 #[.slice a len cap] w fun e w' => e = .returned (.string ⟨(b64 l).toArray⟩) ∧ Below w.heap.size w w' := by
  go_enter Tryz.func67, Tryz.ntmps67
  go_wp2
  go_loopw [0] (fun s wr => ∃ (a' : Option Addr) (len' cap' : Nat) (l' d : List UInt8), s = .slice a' len' cap' ∧ Sl wr a' len' cap' l' ∧ (∀ b o, len' ≠ 0 → a' = some ⟨b, o, none⟩ → b < w.heap.size) ∧ d ++ b64 l' = b64 l ∧ Lib.IsBuilder 52 5 w.heap.size w.heap.size (Lib.byteCells d) wr ∧ Below w.heap.size w wr)
    (fun s _ => match s with | .slice _ n _ => n | _ => 0)
  case atStart =>
    have hb : Below w.heap.size w (w.alloc (.cells #[.pointer none, .slice none 0 0] 52)) := (Below.refl _ _).alloc (Nat.le_refl _) _
    exact ⟨a, len, cap, l, [], rfl, hs.below hb hs.lt, hs.lt, rfl, Lib.fresh_isBuilder _ _ _, hb⟩
  case round =>
    obtain ⟨a', len', cap', l', d, rfl, hs', hlow, hd, hB, hW⟩ := hrel
    obtain ⟨hlen, hlc, hcm, hnil, hc⟩ := hs'
    clear hs
    rcases l' with _ | ⟨x, _ | ⟨y, _ | ⟨z, t⟩⟩⟩
    · obtain rfl : len' = 0 := by simpa using hlen
      have HD := Lib.hid hd
      clear hlen hc hlow hd hnil
      go_wp2_with fail
      refine (bldOut _ _ _ _ hB hW.size).mono ?_
      rintro e w1 ⟨rfl, hb1⟩
      go_wp2_with fail
      go_ret
      exact ⟨by rw [← HD.out]; simp [b64], hW.trans hb1⟩
    · obtain rfl : len' = 1 := by simpa using hlen
      obtain ⟨b, o, rfl, hcc⟩ : ∃ b o, a' = some ⟨b, o, none⟩ ∧ ∀ i, i < 1 → wr.cell? ⟨b, o + i, none⟩ = some (.int .u8 (([x].getD i 0).toNat : Int)) := by
        rcases hc with hc | hc
        · omega
        · exact hc
      have c0 := hcc 0 (by omega)
      simp only [Nat.add_zero, List.getD_cons_zero] at c0
      have HS := Lib.hid (Sl.mk' hlen hlc hcm (fun h => by cases h) (.inr ⟨b, o, rfl, hcc⟩))
      have hbw : b < w.heap.size := hlow b o (by omega) rfl
      have hdl : d.length + 4 ≤ 3000000 := by
        have h1 := b64_len l
        rw [← hd] at h1
        simp [b64] at h1
        omega
      have hx := x.toNat_lt
      have HD := Lib.hid hd
      clear hlen hc hcc hlow hd hnil
      have e1 := or_first x.toNat hx
      obtain ⟨X1, hX1⟩ : ∃ X1 : Nat, X1 = x.toNat * 256 := ⟨_, rfl⟩
      obtain ⟨X2, hX2⟩ : ∃ X2 : Nat, X2 = X1 * 256 := ⟨_, rfl⟩
      have e2 : (x.toNat : Int) * 256 = (X1 : Int) := by omega
      have e3 : (X1 : Int) * 256 = (X2 : Int) := by omega
      obtain ⟨k0, h0⟩ : ∃ k : Nat, k = X2 / 262144 % 64 := ⟨_, rfl⟩
      obtain ⟨k1, h1⟩ : ∃ k : Nat, k = X2 / 4096 % 64 := ⟨_, rfl⟩
      have f0 := and63 (X2 / 262144) (by omega)
      rw [← h0] at f0
      have f1 := and63 (X2 / 4096) (by omega)
      rw [← h1] at f1
      have b1 : X1 < 65536 := by omega
      have b2 : X2 < 16777216 := by omega
      have l0 : k0 < 64 := by omega
      have l1 : k1 < 64 := by omega
      have hq : b64 [x] = [sgn k0, sgn k1, 61, 61] := by
        have : x.toNat * 65536 = X2 := by omega
        simp only [b64, this, h0, h1]
      simp only [Int.natCast_ediv] at f0 f1
      simp at f0 f1
      have HQ := Lib.hid hq
      clear hX1 hX2 h0 h1 hq
      go_wp2_with fail
      refine wp_loop_rounds 4 ?_
      rw [rounds_succ]
      go_wp2_with fail
      rw [rounds_succ]
      go_wp2_with fail
      rw [rounds_succ]
      go_wp2_with fail
      rw [rounds_succ]
      go_wp2_with fail
      clear e1 e2 e3
      refine wp_loop_rounds 5 ?_
      rw [rounds_succ]
      go_wp2_with fail
      refine (bldByte _ _ _ _ _ hB (by simp [Lib.byteCells]; omega) hW.size).mono ?_
      rintro e w1 ⟨rfl, hB1, hb1⟩
      replace hB1 : Lib.IsBuilder 52 5 w.heap.size w.heap.size (Lib.byteCells (d ++ [sgn k0])) w1 := by have hh := hB1; have hs := sgn_eq k0 l0; unfold signs at hs; rw [hs, byteCells_snoc] at hh; simpa using hh
      go_wp2_with fail
      rw [rounds_succ]
      go_wp2_with fail
      refine (bldByte _ _ _ _ _ hB1 (by simp [Lib.byteCells]; omega) (hW.trans hb1).size).mono ?_
      rintro e w2 ⟨rfl, hB2, hb2⟩
      replace hB2 : Lib.IsBuilder 52 5 w.heap.size w.heap.size (Lib.byteCells (d ++ [sgn k0, sgn k1])) w2 := by have hh := hB2; have hs := sgn_eq k1 l1; unfold signs at hs; rw [hs, byteCells_snoc] at hh; simpa using hh
      go_wp2_with fail
      rw [rounds_succ]
      go_wp2_with fail
      refine (bldString _ _ _ _ _ hB2 (by simp [Lib.byteCells, ByteArray.size]; omega) ((hW.trans hb1).trans hb2).size).mono ?_
      rintro e w3 ⟨rfl, hB3, hb3⟩
      replace hB3 : Lib.IsBuilder 52 5 w.heap.size w.heap.size (Lib.byteCells (d ++ [sgn k0, sgn k1, 61])) w3 := by have hh := hB3; rw [byteCells_fill] at hh; simpa using hh
      go_wp2_with fail
      rw [rounds_succ]
      go_wp2_with fail
      refine (bldString _ _ _ _ _ hB3 (by simp [Lib.byteCells, ByteArray.size]; omega) (((hW.trans hb1).trans hb2).trans hb3).size).mono ?_
      rintro e w4 ⟨rfl, hB4, hb4⟩
      replace hB4 : Lib.IsBuilder 52 5 w.heap.size w.heap.size (Lib.byteCells (d ++ [sgn k0, sgn k1, 61, 61])) w4 := by have hh := hB4; rw [byteCells_fill] at hh; simpa using hh
      go_wp2_with fail
      rw [rounds_succ]
      go_wp2_with fail
      go_roundw
      case rel =>
        have hb := ((hb1.trans hb2).trans hb3).trans hb4
        have hS := HS.out.drop 1 (by omega)
        refine ⟨_, _, _, [], d ++ [sgn k0, sgn k1, 61, 61], rfl, hS.below hb ?_, ?_, ?_, hB4, hW.trans hb⟩
        · intro b' o' _ e; split at e <;> (simp at e; try omega)
        · intro b' o' _ e; split at e <;> (simp at e; try omega)
        · rw [← HD.out, HQ.out]; simp [b64]
      case measure => simp
    · obtain rfl : len' = 2 := by simpa using hlen
      obtain ⟨b, o, rfl, hcc⟩ : ∃ b o, a' = some ⟨b, o, none⟩ ∧ ∀ i, i < 2 → wr.cell? ⟨b, o + i, none⟩ = some (.int .u8 (([x, y].getD i 0).toNat : Int)) := by
        rcases hc with hc | hc
        · omega
        · exact hc
      have c0 := hcc 0 (by omega)
      have c1 := hcc 1 (by omega)
      simp only [Nat.add_zero, List.getD_cons_zero, List.getD_cons_succ] at c0 c1
      have HS := Lib.hid (Sl.mk' hlen hlc hcm (fun h => by cases h) (.inr ⟨b, o, rfl, hcc⟩))
      have hbw : b < w.heap.size := hlow b o (by omega) rfl
      have hdl : d.length + 4 ≤ 3000000 := by
        have h1 := b64_len l
        rw [← hd] at h1
        simp [b64] at h1
        omega
      have hx := x.toNat_lt
      have hy := y.toNat_lt
      have HD := Lib.hid hd
      clear hlen hc hcc hlow hd hnil
      have e1 := or_first x.toNat hx
      obtain ⟨X1, hX1⟩ : ∃ X1 : Nat, X1 = x.toNat * 256 + y.toNat := ⟨_, rfl⟩
      obtain ⟨X2, hX2⟩ : ∃ X2 : Nat, X2 = X1 * 256 := ⟨_, rfl⟩
      have e2 := or_step x.toNat y.toNat (by omega) hy
      rw [← hX1] at e2
      have e3 : (X1 : Int) * 256 = (X2 : Int) := by omega
      obtain ⟨k0, h0⟩ : ∃ k : Nat, k = X2 / 262144 % 64 := ⟨_, rfl⟩
      obtain ⟨k1, h1⟩ : ∃ k : Nat, k = X2 / 4096 % 64 := ⟨_, rfl⟩
      obtain ⟨k2, h2⟩ : ∃ k : Nat, k = X2 / 64 % 64 := ⟨_, rfl⟩
      have f0 := and63 (X2 / 262144) (by omega)
      rw [← h0] at f0
      have f1 := and63 (X2 / 4096) (by omega)
      rw [← h1] at f1
      have f2 := and63 (X2 / 64) (by omega)
      rw [← h2] at f2
      have b1 : X1 < 65536 := by omega
      have b2 : X2 < 16777216 := by omega
      have l0 : k0 < 64 := by omega
      have l1 : k1 < 64 := by omega
      have l2 : k2 < 64 := by omega
      have hq : b64 [x, y] = [sgn k0, sgn k1, sgn k2, 61] := by
        have : x.toNat * 65536 + y.toNat * 256 = X2 := by omega
        simp only [b64, this, h0, h1, h2]
      simp only [Int.natCast_ediv] at f0 f1 f2
      simp at f0 f1 f2
      have HQ := Lib.hid hq
      clear hX1 hX2 h0 h1 h2 hq
      go_wp2_with fail
      refine wp_loop_rounds 4 ?_
      rw [rounds_succ]
      go_wp2_with fail
      rw [rounds_succ]
      go_wp2_with fail
      rw [rounds_succ]
      go_wp2_with fail
      rw [rounds_succ]
      go_wp2_with fail
      clear e1 e2 e3
      refine wp_loop_rounds 5 ?_
      rw [rounds_succ]
      go_wp2_with fail
      refine (bldByte _ _ _ _ _ hB (by simp [Lib.byteCells]; omega) hW.size).mono ?_
      rintro e w1 ⟨rfl, hB1, hb1⟩
      replace hB1 : Lib.IsBuilder 52 5 w.heap.size w.heap.size (Lib.byteCells (d ++ [sgn k0])) w1 := by have hh := hB1; have hs := sgn_eq k0 l0; unfold signs at hs; rw [hs, byteCells_snoc] at hh; simpa using hh
      go_wp2_with fail
      rw [rounds_succ]
      go_wp2_with fail
      refine (bldByte _ _ _ _ _ hB1 (by simp [Lib.byteCells]; omega) (hW.trans hb1).size).mono ?_
      rintro e w2 ⟨rfl, hB2, hb2⟩
      replace hB2 : Lib.IsBuilder 52 5 w.heap.size w.heap.size (Lib.byteCells (d ++ [sgn k0, sgn k1])) w2 := by have hh := hB2; have hs := sgn_eq k1 l1; unfold signs at hs; rw [hs, byteCells_snoc] at hh; simpa using hh
      go_wp2_with fail
      rw [rounds_succ]
      go_wp2_with fail
      refine (bldByte _ _ _ _ _ hB2 (by simp [Lib.byteCells]; omega) ((hW.trans hb1).trans hb2).size).mono ?_
      rintro e w3 ⟨rfl, hB3, hb3⟩
      replace hB3 : Lib.IsBuilder 52 5 w.heap.size w.heap.size (Lib.byteCells (d ++ [sgn k0, sgn k1, sgn k2])) w3 := by have hh := hB3; have hs := sgn_eq k2 l2; unfold signs at hs; rw [hs, byteCells_snoc] at hh; simpa using hh
      go_wp2_with fail
      rw [rounds_succ]
      go_wp2_with fail
      refine (bldString _ _ _ _ _ hB3 (by simp [Lib.byteCells, ByteArray.size]; omega) (((hW.trans hb1).trans hb2).trans hb3).size).mono ?_
      rintro e w4 ⟨rfl, hB4, hb4⟩
      replace hB4 : Lib.IsBuilder 52 5 w.heap.size w.heap.size (Lib.byteCells (d ++ [sgn k0, sgn k1, sgn k2, 61])) w4 := by have hh := hB4; rw [byteCells_fill] at hh; simpa using hh
      go_wp2_with fail
      rw [rounds_succ]
      go_wp2_with fail
      go_roundw
      case rel =>
        have hb := ((hb1.trans hb2).trans hb3).trans hb4
        have hS := HS.out.drop 2 (by omega)
        refine ⟨_, _, _, [], d ++ [sgn k0, sgn k1, sgn k2, 61], rfl, hS.below hb ?_, ?_, ?_, hB4, hW.trans hb⟩
        · intro b' o' _ e; split at e <;> (simp at e; try omega)
        · intro b' o' _ e; split at e <;> (simp at e; try omega)
        · rw [← HD.out, HQ.out]; simp [b64]
      case measure => simp
    · have hlen' : 3 ≤ len' := by simp at hlen; omega
      obtain ⟨b, o, rfl, hcc⟩ : ∃ b o, a' = some ⟨b, o, none⟩ ∧ ∀ i, i < len' → wr.cell? ⟨b, o + i, none⟩ = some (.int .u8 (((x :: y :: z :: t).getD i 0).toNat : Int)) := by
        rcases hc with hc | hc
        · omega
        · exact hc
      have c0 := hcc 0 (by omega)
      have c1 := hcc 1 (by omega)
      have c2 := hcc 2 (by omega)
      simp only [Nat.add_zero, List.getD_cons_zero, List.getD_cons_succ] at c0 c1 c2
      have HS := Lib.hid (Sl.mk' hlen hlc hcm (fun h => by cases h) (.inr ⟨b, o, rfl, hcc⟩))
      have hbw : b < w.heap.size := hlow b o (by omega) rfl
      have hdl : d.length + 4 ≤ 3000000 := by
        have h1 := b64_len l
        rw [← hd] at h1
        simp [b64, quad] at h1
        omega
      have hm : min (len' : Int) 3 = 3 := by omega
      have hx := x.toNat_lt
      have hy := y.toNat_lt
      have hz := z.toNat_lt
      have HD := Lib.hid hd
      clear hlen hc hcc hlow hd hnil
      have e1 := or_first x.toNat hx
      obtain ⟨X1, hX1⟩ : ∃ X1 : Nat, X1 = x.toNat * 256 + y.toNat := ⟨_, rfl⟩
      obtain ⟨X2, hX2⟩ : ∃ X2 : Nat, X2 = X1 * 256 + z.toNat := ⟨_, rfl⟩
      have e2 := or_step x.toNat y.toNat (by omega) hy
      rw [← hX1] at e2
      have e3 := or_step X1 z.toNat (by omega) hz
      rw [← hX2] at e3
      obtain ⟨k0, h0⟩ : ∃ k : Nat, k = X2 / 262144 % 64 := ⟨_, rfl⟩
      obtain ⟨k1, h1⟩ : ∃ k : Nat, k = X2 / 4096 % 64 := ⟨_, rfl⟩
      obtain ⟨k2, h2⟩ : ∃ k : Nat, k = X2 / 64 % 64 := ⟨_, rfl⟩
      obtain ⟨k3, h3⟩ : ∃ k : Nat, k = X2 % 64 := ⟨_, rfl⟩
      have f0 := and63 (X2 / 262144) (by omega)
      rw [← h0] at f0
      have f1 := and63 (X2 / 4096) (by omega)
      rw [← h1] at f1
      have f2 := and63 (X2 / 64) (by omega)
      rw [← h2] at f2
      have f3 := and63 (X2) (by omega)
      rw [← h3] at f3
      have b1 : X1 < 65536 := by omega
      have b2 : X2 < 16777216 := by omega
      have l0 : k0 < 64 := by omega
      have l1 : k1 < 64 := by omega
      have l2 : k2 < 64 := by omega
      have l3 : k3 < 64 := by omega
      have hq : quad (x.toNat * 65536 + y.toNat * 256 + z.toNat) = [sgn k0, sgn k1, sgn k2, sgn k3] := by
        have : x.toNat * 65536 + y.toNat * 256 + z.toNat = X2 := by omega
        rw [this, quad, h0, h1, h2, h3]
      simp only [Int.natCast_ediv] at f0 f1 f2
      simp at f0 f1 f2 f3
      have HQ := Lib.hid hq
      clear hX1 hX2 h0 h1 h2 h3 hq
      go_wp2_with fail
      refine wp_loop_rounds 4 ?_
      rw [rounds_succ]
      go_wp2_with fail
      rw [rounds_succ]
      go_wp2_with fail
      rw [rounds_succ]
      go_wp2_with fail
      rw [rounds_succ]
      go_wp2_with fail
      clear e1 e2 e3
      refine wp_loop_rounds 5 ?_
      rw [rounds_succ]
      go_wp2_with fail
      refine (bldByte _ _ _ _ _ hB (by simp [Lib.byteCells]; omega) hW.size).mono ?_
      rintro e w1 ⟨rfl, hB1, hb1⟩
      replace hB1 : Lib.IsBuilder 52 5 w.heap.size w.heap.size (Lib.byteCells (d ++ [sgn k0])) w1 := by have hh := hB1; have hs := sgn_eq k0 l0; unfold signs at hs; rw [hs, byteCells_snoc] at hh; simpa using hh
      go_wp2_with fail
      rw [rounds_succ]
      go_wp2_with fail
      refine (bldByte _ _ _ _ _ hB1 (by simp [Lib.byteCells]; omega) (hW.trans hb1).size).mono ?_
      rintro e w2 ⟨rfl, hB2, hb2⟩
      replace hB2 : Lib.IsBuilder 52 5 w.heap.size w.heap.size (Lib.byteCells (d ++ [sgn k0, sgn k1])) w2 := by have hh := hB2; have hs := sgn_eq k1 l1; unfold signs at hs; rw [hs, byteCells_snoc] at hh; simpa using hh
      go_wp2_with fail
      rw [rounds_succ]
      go_wp2_with fail
      refine (bldByte _ _ _ _ _ hB2 (by simp [Lib.byteCells]; omega) ((hW.trans hb1).trans hb2).size).mono ?_
      rintro e w3 ⟨rfl, hB3, hb3⟩
      replace hB3 : Lib.IsBuilder 52 5 w.heap.size w.heap.size (Lib.byteCells (d ++ [sgn k0, sgn k1, sgn k2])) w3 := by have hh := hB3; have hs := sgn_eq k2 l2; unfold signs at hs; rw [hs, byteCells_snoc] at hh; simpa using hh
      go_wp2_with fail
      rw [rounds_succ]
      go_wp2_with fail
      refine (bldByte _ _ _ _ _ hB3 (by simp [Lib.byteCells]; omega) (((hW.trans hb1).trans hb2).trans hb3).size).mono ?_
      rintro e w4 ⟨rfl, hB4, hb4⟩
      replace hB4 : Lib.IsBuilder 52 5 w.heap.size w.heap.size (Lib.byteCells (d ++ [sgn k0, sgn k1, sgn k2, sgn k3])) w4 := by have hh := hB4; have hs := sgn_eq k3 l3; unfold signs at hs; rw [hs, byteCells_snoc] at hh; simpa using hh
      go_wp2_with fail
      rw [rounds_succ]
      go_wp2_with fail
      go_roundw
      case rel =>
        have hb := ((hb1.trans hb2).trans hb3).trans hb4
        have hS := HS.out.drop 3 (by omega)
        refine ⟨_, _, _, t, d ++ [sgn k0, sgn k1, sgn k2, sgn k3], rfl, hS.below hb ?_, ?_, ?_, hB4, hW.trans hb⟩
        · intro b' o' _ e; split at e <;> (simp at e; try omega)
        · intro b' o' _ e; split at e <;> (simp at e; try omega)
        · rw [← HD.out]; simp [b64, HQ.out]
      case measure => simp; omega
end Go.Proofs.YtkbblhioncecmaaGreatDoor
namespace Go.Proofs.YtkbblhioncecmaaGreatDoor
open Go.RowKit

def bitL (l : List UInt8) (i : Nat) : Nat := (l.getD (i / 8) 0).toNat / 2 ^ (7 - i % 8) % 2
def grpK (l : List UInt8) (i : Nat) : Nat → Nat
  | 0 => 0
  | k + 1 => 2 * grpK l i k + bitL l (i + k)
def grp (l : List UInt8) (i : Nat) : Nat := grpK l i 6
theorem bitL_lt (l : List UInt8) (i : Nat) : bitL l i < 2 := Nat.mod_lt _ (by omega)
theorem grpK_lt (l : List UInt8) (i k : Nat) : grpK l i k < 2 ^ k := by
  induction k with
  | zero => simp [grpK]
  | succ k ih => have := bitL_lt l (i + k); simp only [grpK, Nat.pow_succ]; omega
theorem grp_lt (l : List UInt8) (i : Nat) : grp l i < 64 := grpK_lt l i 6

def sgnsTo (l : List UInt8) (j : Nat) : List UInt8 := (List.range j).map fun t => sgn (grp l (6 * t))
def padTo (x : List UInt8) : List UInt8 := x ++ List.replicate ((4 - x.length % 4) % 4) 61
def refB64 (l : List UInt8) : List UInt8 := padTo (sgnsTo l ((8 * l.length + 5) / 6))

theorem sgnsTo_succ (l : List UInt8) (j : Nat) : sgnsTo l (j + 1) = sgnsTo l j ++ [sgn (grp l (6 * j))] := by simp [sgnsTo, List.range_succ]
theorem sgnsTo_len (l : List UInt8) (j : Nat) : (sgnsTo l j).length = j := by simp [sgnsTo]

theorem bitL_three (a b c : UInt8) (t : List UInt8) (i : Nat) : bitL (a :: b :: c :: t) (24 + i) = bitL t i := by
  unfold bitL
  rw [show (24 + i) / 8 = i / 8 + 3 by omega, show (24 + i) % 8 = i % 8 by omega]
  rfl
theorem grp_three (a b c : UInt8) (t : List UInt8) (i : Nat) : grp (a :: b :: c :: t) (24 + i) = grp t i := by
  simp only [grp, grpK, Nat.add_assoc, bitL_three]

theorem bits8 (x : Nat) (h : x < 256) : x = 128 * (x / 128 % 2) + 64 * (x / 64 % 2) + 32 * (x / 32 % 2) + 16 * (x / 16 % 2) + 8 * (x / 8 % 2) + 4 * (x / 4 % 2) + 2 * (x / 2 % 2) + x % 2 := by omega

theorem grp_0 (a : UInt8) (l : List UInt8) : grp (a :: l) 0 = a.toNat / 4 := by
  have := a.toNat_lt
  have := bits8 a.toNat (by omega)
  simp [grp, grpK, bitL]; omega
theorem grp_6 (a b : UInt8) (l : List UInt8) : grp (a :: b :: l) 6 = a.toNat % 4 * 16 + b.toNat / 16 := by
  have := a.toNat_lt
  have := b.toNat_lt
  simp [grp, grpK, bitL]; omega
theorem grp_6' (a : UInt8) : grp [a] 6 = a.toNat % 4 * 16 := by
  have := a.toNat_lt
  simp [grp, grpK, bitL]; omega
theorem grp_12 (a b c : UInt8) (l : List UInt8) : grp (a :: b :: c :: l) 12 = b.toNat % 16 * 4 + c.toNat / 64 := by
  have := b.toNat_lt
  have := c.toNat_lt
  simp [grp, grpK, bitL]; omega
theorem grp_12' (a b : UInt8) : grp [a, b] 12 = b.toNat % 16 * 4 := by
  have := b.toNat_lt
  simp [grp, grpK, bitL]; omega
theorem grp_18 (a b c : UInt8) (l : List UInt8) : grp (a :: b :: c :: l) 18 = c.toNat % 64 := by
  have := c.toNat_lt
  simp [grp, grpK, bitL]; omega

theorem sgnsTo_three (a b c : UInt8) (t : List UInt8) (n : Nat) : sgnsTo (a :: b :: c :: t) (n + 4) = quad (a.toNat * 65536 + b.toNat * 256 + c.toNat) ++ sgnsTo t n := by
  have ha := a.toNat_lt
  have hb := b.toNat_lt
  have hc := c.toNat_lt
  unfold sgnsTo
  rw [List.range_succ_eq_map, List.range_succ_eq_map, List.range_succ_eq_map, List.range_succ_eq_map]
  simp only [List.map_cons, List.map_map]
  rw [show 6 * 0 = 0 from rfl, show 6 * Nat.succ 0 = 6 from rfl, show 6 * Nat.succ (Nat.succ 0) = 12 from rfl, show 6 * Nat.succ (Nat.succ (Nat.succ 0)) = 18 from rfl,
    grp_0, grp_6, grp_12, grp_18]
  unfold quad
  rw [show a.toNat / 4 = (a.toNat * 65536 + b.toNat * 256 + c.toNat) / 262144 % 64 by omega,
    show a.toNat % 4 * 16 + b.toNat / 16 = (a.toNat * 65536 + b.toNat * 256 + c.toNat) / 4096 % 64 by omega,
    show b.toNat % 16 * 4 + c.toNat / 64 = (a.toNat * 65536 + b.toNat * 256 + c.toNat) / 64 % 64 by omega,
    show c.toNat % 64 = (a.toNat * 65536 + b.toNat * 256 + c.toNat) % 64 by omega]
  simp only [List.cons_append, List.nil_append, List.cons.injEq, true_and]
  apply List.map_congr_left
  intro i _
  simp only [Function.comp]
  rw [show 6 * Nat.succ (Nat.succ (Nat.succ (Nat.succ i))) = 24 + 6 * i by omega, grp_three]

theorem refB64_eq (l : List UInt8) : refB64 l = b64 l := by
  induction l using b64.induct with
  | case1 => rfl
  | case2 a =>
    have ha := a.toNat_lt
    have h0 := grp_0 a []
    have h6 := grp_6' a
    simp only [refB64, sgnsTo, List.length_singleton, show (8 * 1 + 5) / 6 = 2 from rfl, show List.range 2 = [0, 1] from rfl, List.map_cons, List.map_nil, Nat.mul_zero, Nat.mul_one, h0, h6, b64, padTo]
    rw [show a.toNat / 4 = a.toNat * 65536 / 262144 % 64 by omega, show a.toNat % 4 * 16 = a.toNat * 65536 / 4096 % 64 by omega]
    rfl
  | case3 a b =>
    have ha := a.toNat_lt
    have hb := b.toNat_lt
    have h0 := grp_0 a [b]
    have h6 := grp_6 a b []
    have h12 := grp_12' a b
    simp only [refB64, sgnsTo, List.length_cons, List.length_nil, show (8 * (0 + 1 + 1) + 5) / 6 = 3 from rfl, show List.range 3 = [0, 1, 2] from rfl, List.map_cons, List.map_nil, Nat.mul_zero, Nat.mul_one, show 6 * 2 = 12 from rfl, h0, h6, h12, b64, padTo]
    rw [show a.toNat / 4 = (a.toNat * 65536 + b.toNat * 256) / 262144 % 64 by omega, show a.toNat % 4 * 16 + b.toNat / 16 = (a.toNat * 65536 + b.toNat * 256) / 4096 % 64 by omega,
      show b.toNat % 16 * 4 = (a.toNat * 65536 + b.toNat * 256) / 64 % 64 by omega]
    rfl
  | case4 a b c t ih =>
    rw [b64, ← ih]
    unfold refB64
    rw [show (8 * (a :: b :: c :: t).length + 5) / 6 = (8 * t.length + 5) / 6 + 4 by simp; omega, sgnsTo_three]
    unfold padTo
    rw [List.append_assoc]
    congr 2
    simp only [List.length_append, show (quad (a.toNat * 65536 + b.toNat * 256 + c.toNat)).length = 4 from rfl]
    congr 1
    omega

/-- a sign's number -/
def sval (n : Nat) : Option Nat := if 65 ≤ n ∧ n ≤ 90 then some (n - 65) else if 97 ≤ n ∧ n ≤ 122 then some (n - 71) else if 48 ≤ n ∧ n ≤ 57 then some (n + 4) else if n = 43 then some 62 else if n = 47 then some 63 else none
theorem sval_lt : ∀ n : Fin 256, ∀ v, sval n.val = some v → v < 64 := by
  intro n v h
  have hn := n.isLt
  unfold sval at h
  repeat' split at h
  all_goals first | (cases h; done) | (injection h with h; omega)
theorem sval_sgn : ∀ k : Fin 64, sval (sgn k.val).toNat = some k.val := by decide
theorem sval_idx : ∀ n : Fin 256, Lib.indexByte signs.data.toList (n.val.toUInt8) = (match sval n.val with | some v => (v : Int) | none => -1) := by decide +kernel

/-- The bytes of four signs, up to the first that is none. -/
def dec4 (a b c d : UInt8) : List UInt8 :=
  match sval a.toNat, sval b.toNat with
  | some x, some y => match sval c.toNat with
    | some z => match sval d.toNat with
      | some u => [UInt8.ofNat ((x * 262144 + y * 4096 + z * 64 + u) / 65536), UInt8.ofNat ((x * 262144 + y * 4096 + z * 64 + u) / 256), UInt8.ofNat (x * 262144 + y * 4096 + z * 64 + u)]
      | none => [UInt8.ofNat ((x * 262144 + y * 4096 + z * 64) / 65536), UInt8.ofNat ((x * 262144 + y * 4096 + z * 64) / 256)]
    | none => [UInt8.ofNat ((x * 262144 + y * 4096) / 65536)]
  | _, _ => []
def unb : List UInt8 → List UInt8
  | a :: b :: c :: d :: t => dec4 a b c d ++ unb t
  | _ => []

theorem ofNat_mod (x : Nat) (a : UInt8) (h : x % 256 = a.toNat) : UInt8.ofNat x = a := by
  apply UInt8.toNat_inj.1
  simpa using h
theorem sv (k : Nat) (h : k < 64) : sval (sgn k).toNat = some k := sval_sgn ⟨k, h⟩

theorem unb_b64 (l : List UInt8) : unb (b64 l) = l := by
  induction l using b64.induct with
  | case1 => rfl
  | case2 a =>
    have ha := a.toNat_lt
    simp only [b64, unb, dec4, sv _ (Nat.mod_lt _ (show 0 < 64 by omega)), show sval (UInt8.toNat 61) = none from rfl, List.append_nil]
    rw [ofNat_mod _ a (by omega)]
  | case3 a b =>
    have ha := a.toNat_lt
    have hb := b.toNat_lt
    simp only [b64, unb, dec4, sv _ (Nat.mod_lt _ (show 0 < 64 by omega)), show sval (UInt8.toNat 61) = none from rfl, List.append_nil]
    rw [ofNat_mod _ a (by omega), ofNat_mod _ b (by omega)]
  | case4 a b c t ih =>
    have ha := a.toNat_lt
    have hb := b.toNat_lt
    have hc := c.toNat_lt
    simp only [b64, quad, List.cons_append, List.nil_append, unb, dec4, sv _ (Nat.mod_lt _ (show 0 < 64 by omega)), ih]
    rw [ofNat_mod _ a (by omega), ofNat_mod _ b (by omega), ofNat_mod _ c (by omega)]

/-- the bits of signs, up to the first that is none -/
def bitsOf : List UInt8 → List Nat
  | [] => []
  | c :: t => match sval c.toNat with
    | some n => [n / 32 % 2, n / 16 % 2, n / 8 % 2, n / 4 % 2, n / 2 % 2, n % 2] ++ bitsOf t
    | none => []
def pack : List Nat → List UInt8
  | a :: b :: c :: d :: e :: f :: g :: h :: t => UInt8.ofNat (128 * a + 64 * b + 32 * c + 16 * d + 8 * e + 4 * f + 2 * g + h) :: pack t
  | _ => []
theorem pk8 (x y : Nat) (a : UInt8) (h1 : x = a.toNat / 4) (h2 : y / 16 = a.toNat % 4) (hy : y < 64) :
    UInt8.ofNat (128 * (x / 32 % 2) + 64 * (x / 16 % 2) + 32 * (x / 8 % 2) + 16 * (x / 4 % 2) + 8 * (x / 2 % 2) + 4 * (x % 2) + 2 * (y / 32 % 2) + y / 16 % 2) = a := by
  have := a.toNat_lt
  apply ofNat_mod
  omega
theorem pk8b (y z : Nat) (b : UInt8) (h1 : y % 16 = b.toNat / 16) (h2 : z / 4 = b.toNat % 16) (hz : z < 64) :
    UInt8.ofNat (128 * (y / 8 % 2) + 64 * (y / 4 % 2) + 32 * (y / 2 % 2) + 16 * (y % 2) + 8 * (z / 32 % 2) + 4 * (z / 16 % 2) + 2 * (z / 8 % 2) + z / 4 % 2) = b := by
  have := b.toNat_lt
  apply ofNat_mod
  omega
theorem pk8c (z u : Nat) (c : UInt8) (h1 : z % 4 = c.toNat / 64) (h2 : u = c.toNat % 64) :
    UInt8.ofNat (128 * (z / 2 % 2) + 64 * (z % 2) + 32 * (u / 32 % 2) + 16 * (u / 16 % 2) + 8 * (u / 8 % 2) + 4 * (u / 4 % 2) + 2 * (u / 2 % 2) + u % 2) = c := by
  have := c.toNat_lt
  apply ofNat_mod
  omega
theorem pack_b64 (l : List UInt8) : pack (bitsOf (b64 l)) = l := by
  induction l using b64.induct with
  | case1 => rfl
  | case2 a =>
    have ha := a.toNat_lt
    simp only [b64, bitsOf, sv _ (Nat.mod_lt _ (show 0 < 64 by omega)), show sval (UInt8.toNat 61) = none from rfl, List.append_nil, List.cons_append, List.nil_append, pack]
    rw [pk8 _ _ a (by omega) (by omega) (by omega)]
  | case3 a b =>
    have ha := a.toNat_lt
    have hb := b.toNat_lt
    simp only [b64, bitsOf, sv _ (Nat.mod_lt _ (show 0 < 64 by omega)), show sval (UInt8.toNat 61) = none from rfl, List.append_nil, List.cons_append, List.nil_append, pack]
    rw [pk8 _ _ a (by omega) (by omega) (by omega), pk8b _ _ b (by omega) (by omega) (by omega)]
  | case4 a b c t ih =>
    have ha := a.toNat_lt
    have hb := b.toNat_lt
    have hc := c.toNat_lt
    simp only [b64, quad, List.cons_append, List.nil_append, bitsOf, sv _ (Nat.mod_lt _ (show 0 < 64 by omega)), pack, ih]
    rw [pk8 _ _ a (by omega) (by omega) (by omega), pk8b _ _ b (by omega) (by omega) (by omega), pk8c _ _ c (by omega) (by omega)]

/-- what Base64 that stands as it is written says -/
def unb64 (s : List UInt8) : Option (List UInt8) := if b64 (unb s) = s then some (unb s) else none
theorem unb64_both (s : List UInt8) : unb64 s = if b64 (pack (bitsOf s)) = s then some (pack (bitsOf s)) else none := by
  unfold unb64
  by_cases h : b64 (unb s) = s
  · have h2 : pack (bitsOf s) = unb s := by
      have := pack_b64 (unb s)
      rwa [h] at this
    rw [h2]
  · by_cases h2 : b64 (pack (bitsOf s)) = s
    · have h3 : unb s = pack (bitsOf s) := by
        have := unb_b64 (pack (bitsOf s))
        rwa [h2] at this
      rw [h3] at h
      exact absurd h2 h
    · rw [if_neg h, if_neg h2]
end Go.Proofs.YtkbblhioncecmaaGreatDoor
namespace Go.Proofs.YtkbblhioncecmaaGreatDoor
open Go.RowKit

def svI (c : UInt8) : Int := match sval c.toNat with | some v => (v : Int) | none => -1
theorem svI_some (c : UInt8) (v : Nat) (h : sval c.toNat = some v) : svI c = (v : Int) := by simp [svI, h]
theorem svI_none (c : UInt8) (h : sval c.toNat = none) : svI c = -1 := by simp [svI, h]
theorem idx_any (c : UInt8) (w : World) : Calls Tryz.prog 54 #[.string signs, .int .u8 (c.toNat : Int)] w fun e w' => e = .returned (.int .i64 (svI c)) ∧ w = w' := by
  refine (Tryz.strings_IndexByte signs (c.toNat : Int) w).mono ?_
  rintro e w' ⟨rfl, rfl⟩
  have h := sval_idx ⟨c.toNat, c.toNat_lt⟩
  refine ⟨?_, rfl⟩
  rw [Int.toNat_natCast, h]
  rfl
theorem u32_first (k m : Nat) (h : k * m < 4294967296) : bits .or .u32 0 ((k : Int) * (m : Int)) = ((k * m : Nat) : Int) := by
  rw [show ((k : Int) * (m : Int)) = ((k * m : Nat) : Int) by simp, show (0 : Int) = ((0 : Nat) : Int) from rfl, u32_or_nat _ _ (by omega) h]
  simp
theorem u32_next (X k m : Nat) (j : Nat) (hX : X % 2 ^ j = 0) (hk : k * m < 2 ^ j) (hX2 : X < 16777216) (hj : j ≤ 24) : bits .or .u32 (X : Int) ((k : Int) * (m : Int)) = ((X + k * m : Nat) : Int) := by
  have h2 : (2 : Int) ^ j ≤ 2 ^ 24 := by
    have := Nat.pow_le_pow_right (n := 2) (by omega) hj
    exact_mod_cast this
  have hk' : (k : Int) * (m : Int) < 2 ^ j := by
    have : ((k * m : Nat) : Int) < ((2 ^ j : Nat) : Int) := by exact_mod_cast hk
    simpa using this
  have hp : (0 : Int) ≤ (k : Int) * (m : Int) := by
    have : (0 : Int) ≤ ((k * m : Nat) : Int) := Int.natCast_nonneg _
    simpa using this
  rw [bits_join .u32 32 (by decide) (fun n h0 h1 => by rw [IntKind.wrap_u32]; omega) j _ _ (by omega) (by exact_mod_cast hX) (by omega) hp hk' (by omega)]
  simp
theorem unb_drop (s : ByteArray) (h : 4 ≤ s.size) : unb s.data.toList = dec4 (s[0]'(by omega)) (s[1]'(by omega)) (s[2]'(by omega)) (s[3]'(by omega)) ++ unb (s.extract 4 s.size).data.toList := by
  have hl : 4 ≤ s.data.toList.length := by simpa using h
  rw [Lib.extract_to_end]
  obtain ⟨l, hE⟩ : ∃ l, l = s.data.toList := ⟨_, rfl⟩
  have g0 : s[0]'(by omega) = s.data.toList[0]'(by omega) := rfl
  have g1 : s[1]'(by omega) = s.data.toList[1]'(by omega) := rfl
  have g2 : s[2]'(by omega) = s.data.toList[2]'(by omega) := rfl
  have g3 : s[3]'(by omega) = s.data.toList[3]'(by omega) := rfl
  rw [g0, g1, g2, g3]
  simp only [← hE]
  rw [← hE] at hl
  match l, hl with
  | a :: b :: c :: d :: t, _ => simp [unb]
theorem unb_short (s : ByteArray) (h : s.size < 4) : unb s.data.toList = [] := by
  have hl : s.data.toList.length < 4 := by simpa using h
  match s.data.toList, hl with
  | [], _ => rfl
  | [_], _ => rfl
  | [_, _], _ => rfl
  | [_, _, _], _ => rfl
theorem ofNat_256 (n : Nat) : UInt8.ofNat (n % 256) = UInt8.ofNat n := by
  apply UInt8.toNat_inj.1; simp

end Go.Proofs.YtkbblhioncecmaaGreatDoor
namespace Go.Proofs.YtkbblhioncecmaaGreatDoor
open Go.RowKit

def isB (o : Option Nat) : Bool := o.isSome
def valOf (o : Option Nat) : Int := match o with | some v => v | none => 0
theorem hval_iv (n : Nat) : ((n < 48 ∨ (58 ≤ n ∧ n ≤ 64) ∨ (71 ≤ n ∧ n ≤ 96) ∨ 103 ≤ n) → hval n = none) ∧ (48 ≤ n ∧ n ≤ 57 → hval n = some (n - 48)) ∧ (97 ≤ n ∧ n ≤ 102 → hval n = some (n - 87)) ∧ (65 ≤ n ∧ n ≤ 70 → hval n = some (n - 55)) := by
  unfold hval
  refine ⟨fun h => ?_, fun h => ?_, fun h => ?_, fun h => ?_⟩ <;> repeat' split
  all_goals first | rfl | omega

set_option maxHeartbeats 1000000 in
set_option maxRecDepth 100000 in
theorem refValue_any_XOctRefHex (c : UInt8) (w : World) : Calls Tryz.prog 44 #[.int .u8 (c.toNat : Int)] w fun e w' => e = .returned (.tuple #[.int .u8 (valOf (hval c.toNat)), .bool (isB (hval c.toNat))]) ∧ w' = w := by
  obtain ⟨r, hr⟩ : ∃ r, r = hval c.toNat := ⟨_, rfl⟩
  have hb := c.toNat_lt
  have iv := hval_iv c.toNat
  rw [← hr] at iv ⊢
  have HI := Lib.hid iv
  have HR := Lib.hid hr
  clear iv hr
  have : (c.toNat : Int) < 48 ∨ ((48 : Int) ≤ c.toNat ∧ (c.toNat : Int) ≤ 57) ∨ ((58 : Int) ≤ c.toNat ∧ (c.toNat : Int) ≤ 64) ∨ ((65 : Int) ≤ c.toNat ∧ (c.toNat : Int) ≤ 70) ∨ ((71 : Int) ≤ c.toNat ∧ (c.toNat : Int) ≤ 96) ∨ ((97 : Int) ≤ c.toNat ∧ (c.toNat : Int) ≤ 102) ∨ (103 : Int) ≤ c.toNat := by omega
  rcases this with h | ⟨h, h'⟩ | ⟨h, h'⟩ | ⟨h, h'⟩ | ⟨h, h'⟩ | ⟨h, h'⟩ | h
  · obtain rfl := HI.out.1 (by omega)
    go_enter Tryz.func44, Tryz.ntmps44
    go_wp2_with fail
    go_ret2
    exact ⟨rfl, rfl⟩
  · obtain rfl := HI.out.2.1 (by omega)
    have EV := Lib.hid (show ((c.toNat - 48 : Nat) : Int) = (c.toNat : Int) - 48 by omega)
    go_enter Tryz.func44, Tryz.ntmps44
    go_wp2_with fail
    go_ret2
    refine ⟨?_, rfl⟩
    simp only [valOf, isB, Option.isSome]
    rw [EV.out]
    rfl
  · obtain rfl := HI.out.1 (by omega)
    go_enter Tryz.func44, Tryz.ntmps44
    go_wp2_with fail
    go_ret2
    exact ⟨rfl, rfl⟩
  · obtain rfl := HI.out.2.2.2 (by omega)
    have EV := Lib.hid (show ((c.toNat - 55 : Nat) : Int) = (c.toNat : Int) - 65 + 10 by omega)
    go_enter Tryz.func44, Tryz.ntmps44
    go_wp2_with fail
    go_ret2
    refine ⟨?_, rfl⟩
    simp only [valOf, isB, Option.isSome]
    rw [EV.out]
    rfl
  · obtain rfl := HI.out.1 (by omega)
    go_enter Tryz.func44, Tryz.ntmps44
    go_wp2_with fail
    go_ret2
    exact ⟨rfl, rfl⟩
  · obtain rfl := HI.out.2.2.1 (by omega)
    have EV := Lib.hid (show ((c.toNat - 87 : Nat) : Int) = (c.toNat : Int) - 97 + 10 by omega)
    go_enter Tryz.func44, Tryz.ntmps44
    go_wp2_with fail
    go_ret2
    refine ⟨?_, rfl⟩
    simp only [valOf, isB, Option.isSome]
    rw [EV.out]
    rfl
  · obtain rfl := HI.out.1 (by omega)
    go_enter Tryz.func44, Tryz.ntmps44
    go_wp2_with fail
    go_ret2
    exact ⟨rfl, rfl⟩

end Go.Proofs.YtkbblhioncecmaaGreatDoor
namespace Go.Proofs.YtkbblhioncecmaaGreatDoor
open Go.RowKit

set_option maxHeartbeats 1000000 in
set_option maxRecDepth 100000 in
theorem refbit_any (a : Option Addr) (len cap : Nat) (l : List UInt8) (i : Int) (w : World) (hs : Sl w a len cap l) (hi : 0 ≤ i) (hi2 : i ≤ 1000000000) :
    Calls Tryz.prog 69 #[.slice a len cap, .int .i64 i] w fun e w' => e = .returned (.int .u8 (bitL l i.toNat : Nat)) ∧ w' = w := by
  obtain ⟨n, rfl⟩ := Int.eq_ofNat_of_zero_le hi
  rw [Int.toNat_natCast]
  clear hi
  obtain ⟨hlen, hlc, hcm, hnil, hc⟩ := hs
  have HL := Lib.hid hlen
  have HC := Lib.hid hc
  clear hlen hc hnil
  obtain ⟨R, hR⟩ : ∃ R, R = bitL l n := ⟨_, rfl⟩
  rw [← hR]
  have HR := Lib.hid hR
  clear hR
  by_cases hge : len ≤ n / 8
  · obtain rfl : R = 0 := by
      rw [HR.out, bitL, List.getD_eq_getElem?_getD, List.getElem?_eq_none (by rw [← HL.out]; exact hge)]; simp
    have h1 : (len : Int) ≤ (n : Int) / 8 := by omega
    go_enter Tryz.func69, Tryz.ntmps69
    go_wp2_with fail
    go_ret
    exact ⟨rfl, rfl⟩
  · have h1 : (n : Int) / 8 < (len : Int) := by omega
    obtain ⟨b, o, rfl, hcc⟩ : ∃ b o, a = some ⟨b, o, none⟩ ∧ ∀ i, i < len → w.cell? ⟨b, o + i, none⟩ = some (.int .u8 ((l.getD i 0).toNat : Int)) := by
      rcases HC.out with hc | hc
      · omega
      · exact hc
    have c0 := hcc (n / 8) (by omega)
    obtain ⟨c, hcE⟩ : ∃ c, c = (l.getD (n / 8) 0).toNat := ⟨_, rfl⟩
    have hc8 : c < 256 := by rw [hcE]; exact UInt8.toNat_lt _
    rw [← hcE] at c0
    have HE := Lib.hid hcE
    clear hcE hcc hge
    obtain ⟨m, hm⟩ : ∃ m, m = 7 - n % 8 := ⟨_, rfl⟩
    have hm2 : 7 - (n : Int) % 8 = (m : Int) := by omega
    have HM := Lib.hid hm
    clear hm
    go_enter Tryz.func69, Tryz.ntmps69
    go_wp2_with fail
    go_loop [5, 6] (fun s t => ∃ (k x : Nat), k ≤ m ∧ t = .int .i64 k ∧ s = .int .u8 x ∧ x < 256 ∧ Hid (x = c / 2 ^ k)) (fun _ t => m - (intOf t).toNat)
    case atStart => exact ⟨0, c, Nat.zero_le _, rfl, rfl, hc8, Lib.hid (by simp)⟩
    case round =>
      obtain ⟨k, x, hk, rfl, rfl, hx, HX⟩ := hrel
      by_cases hlt : k < m
      · go_wp2_with fail
        go_round
        case rel => exact ⟨k + 1, x / 2, by omega, by go_num, by go_num, by omega, Lib.hid (by rw [HX.out, Nat.pow_succ, Nat.div_div_eq_div_mul])⟩
        case measure => simp [intOf]; omega
      · obtain rfl : k = m := by omega
        have hR2 := Lib.hid (show (R : Int) = (x : Int) % 2 by rw [HR.out, bitL, ← HE.out, ← HM.out, HX.out]; simp)
        go_wp2_with fail
        go_ret
        exact ⟨by rw [hR2.out]; rfl, rfl⟩

set_option maxHeartbeats 2000000 in
set_option maxRecDepth 100000 in
theorem refB64_any (a : Option Addr) (len cap : Nat) (l : List UInt8) (w : World) (hs : Sl w a len cap l) (hl : l.length ≤ 1000000) :
    Calls Tryz.prog 48 #[.slice a len cap] w fun e w' => e = .returned (.string ⟨(b64 l).toArray⟩) ∧ Below w.heap.size w w' := by
  rw [← refB64_eq]
  have HL := Lib.hid hs.1
  have HS := Lib.hid hs
  have hl' : len ≤ 1000000 := by have := hs.1; omega
  clear hs
  obtain ⟨i0, hi, hz0, hz1, hz2⟩ := info_parts bldInfo5
  have hown0 : (w.alloc (.cells #[] 5)).ownsRow w.heap.size 5 1 (.slice (some ⟨w.heap.size, 0, none⟩) 0 0) 0 (Lib.byteCells []) := World.ownsRow_lit w #[] 0 (Nat.le_refl _) (Nat.zero_le _) rfl
  have hW0 : Below w.heap.size w (w.alloc (.cells #[] 5)) := (Below.refl _ _).alloc (Nat.le_refl _) _
  obtain ⟨J, hJ⟩ : ∃ J, J = (8 * len + 5) / 6 := ⟨_, rfl⟩
  have hJ1 : 6 * J ≤ 8 * len + 5 := by omega
  have hJ2 : 8 * len ≤ 6 * J := by omega
  have HJ := Lib.hid hJ
  clear hJ
  go_enter Tryz.func48, Tryz.ntmps48
  go_wp2_with fail
  go_loopw [4, 5] (fun out i wr => ∃ j : Nat, j ≤ J ∧ i = .int .i64 (6 * (j : Int)) ∧ wr.ownsRow w.heap.size 5 1 out j (Lib.byteCells (sgnsTo l j)) ∧ Below w.heap.size w wr) (fun _ i _ => 6 * J - (intOf i).toNat)
  case atStart => exact ⟨0, Nat.zero_le _, rfl, hown0, hW0⟩
  case round =>
    obtain ⟨j, hj, rfl, hown, hW⟩ := hrel
    clear hown0 hW0
    by_cases hlt : 6 * j < 8 * len
    · have hlt' : 6 * (j : Int) < 8 * (len : Int) := by omega
      have hjJ : j < J := by omega
      go_wp2_with fail
      go_loopw [6, 7] (fun s t wq => ∃ k : Nat, k ≤ 6 ∧ t = .int .i64 k ∧ s = .int .u8 (grpK l (6 * j) k : Nat) ∧ wr = wq) (fun _ t _ => 6 - (intOf t).toNat)
      case atStart => exact ⟨0, by omega, rfl, rfl, rfl⟩
      case round =>
        obtain ⟨k, hk, rfl, rfl, rfl⟩ := hrel
        by_cases hk6 : k < 6
        · have hS := HS.out.after hW
          have hgk := grpK_lt l (6 * j) k
          have hgk2 : grpK l (6 * j) k < 64 := Nat.lt_of_lt_of_le hgk (Nat.pow_le_pow_right (by omega) hk)
          have hgk3 := grpK_lt l (6 * j) (k + 1)
          have hgk4 : grpK l (6 * j) (k + 1) < 128 := Nat.lt_of_lt_of_le hgk3 (Nat.pow_le_pow_right (n := 2) (by omega) (show k + 1 ≤ 7 by omega))
          have hb := bitL_lt l (6 * j + k)
          obtain ⟨x, hx⟩ : ∃ x, x = grpK l (6 * j) k := ⟨_, rfl⟩
          obtain ⟨y, hy⟩ : ∃ y, y = bitL l (6 * j + k) := ⟨_, rfl⟩
          have HG := Lib.hid (show grpK l (6 * j) (k + 1) = 2 * x + y by rw [hx, hy]; rfl)
          have HY := Lib.hid hy
          rw [← hx]
          rw [← hx] at hgk2
          rw [← hy] at hb
          clear hgk hgk3 hgk4 hx hy
          go_wp2_with fail
          refine (refbit_any _ _ _ _ _ _ hS (by omega) (by omega)).mono ?_
          rintro e wx ⟨rfl, rfl⟩
          rw [show (6 * (j : Int) + (k : Int)).toNat = 6 * j + k by omega, ← HY.out]
          go_wp2_with fail
          go_roundw
          case rel => exact ⟨k + 1, by omega, by go_num, by rw [HG.out]; go_num, trivial⟩
          case measure => simp [intOf]; omega
        · obtain rfl : k = 6 := by omega
          have hg := grp_lt l (6 * j)
          obtain ⟨x, hx⟩ : ∃ x, x = grp l (6 * j) := ⟨_, rfl⟩
          have HX := Lib.hid (show sgnsTo l (j + 1) = sgnsTo l j ++ [sgn x] by rw [hx, sgnsTo_succ])
          rw [show grpK l (6 * j) 6 = x from hx.symm]
          rw [← hx] at hg
          have es := sgn_eq x hg
          unfold signs at es
          clear hx
          go_wp2_with (at_builtin; go_loud (refine wpList_append_sl rfl (.tmp 28) (.tmp 32) 23 rfl w.heap.size 5 i0 Tryz.underlying23 hi hz0 hz1 hz2 _ j (sgnsTo l j) rfl (hown.alloc _) (some ⟨wr.heap.size, 0, none⟩) 1 1 [sgn x] rfl (sl_cell _ _ _ (cell_new wr _ _ rfl)) (by omega) (by have := hW.size; simp; omega) ?_); intro v1 w1 hown1 hg1)
          have hW1 := (hW.alloc hW.size _).grown hg1 (by have := hW.size; simp; omega) (fun t ht => (hown.lt t ht).1)
          rw [← HX.out] at hown1
          go_wp2_with fail
          go_roundw
          case rel => exact ⟨j + 1, by omega, by go_num, hown1, hW1⟩
          case measure => simp [intOf]; omega
    · obtain rfl : j = J := by omega
      have hlt' : 8 * (len : Int) ≤ 6 * (j : Int) := by omega
      have HB := Lib.hid (show refB64 l = padTo (sgnsTo l j) by rw [refB64, ← HL.out, ← HJ.out])
      have HN := Lib.hid (sgnsTo_len l j)
      obtain ⟨X, hX⟩ : ∃ X, X = sgnsTo l j := ⟨_, rfl⟩
      rw [← hX] at hown HB HN
      obtain ⟨p, hp⟩ : ∃ p, p = (4 - j % 4) % 4 := ⟨_, rfl⟩
      have HP := Lib.hid hp
      have hp4 : p < 4 := by omega
      clear hp hX
      go_wp2_with fail
      go_loopw [4] (fun out wq => ∃ k : Nat, k ≤ p ∧ wq.ownsRow w.heap.size 5 1 out (j + k) (Lib.byteCells (X ++ List.replicate k 61)) ∧ Below w.heap.size w wq) (fun out _ => j + p - slLen out)
      case atStart => exact ⟨0, Nat.zero_le _, by simpa using hown, hW⟩
      case round =>
        obtain ⟨k, hk, hown', hW'⟩ := hrel
        clear hown hW
        obtain ⟨a1, c1, rfl, hS⟩ := Sl.ofOwns hown'
        by_cases hkp : k < p
        · have hne : (((j : Int) + (k : Int)) % 4 != 0) = true := by have := HP.out; rw [bne_iff_ne]; omega
          have hrep := Lib.hid (show X ++ List.replicate k 61 ++ [61] = X ++ List.replicate (k + 1) 61 by rw [List.append_assoc, ← List.replicate_succ'])
          go_wp2_with (at_builtin; go_loud (refine wpList_append_sl rfl (.tmp 38) (.tmp 39) 23 rfl w.heap.size 5 i0 Tryz.underlying23 hi hz0 hz1 hz2 _ (j + k) (X ++ List.replicate k 61) rfl (hown'.alloc _) _ 1 1 [61] rfl (sl_cell _ _ 61 (cell_new _ _ _ rfl)) (by omega) (by have := hW'.size; simp; omega) ?_); intro v1 w1 hown1 hg1)
          have hW1 := (hW'.alloc hW'.size _).grown hg1 (by have := hW'.size; simp; omega) (fun t ht => (hown'.lt t ht).1)
          rw [hrep.out] at hown1
          obtain ⟨a2, c2, rfl, hS2⟩ := Sl.ofOwns hown1
          go_wp2_with fail
          go_roundw
          case rel => exact ⟨k + 1, by omega, hown1, hW1⟩
          case measure => simp [slLen]; omega
        · obtain rfl : k = p := by omega
          have hne : (((j : Int) + (k : Int)) % 4 != 0) = false := by have := HP.out; rw [bne_eq_false_iff_eq]; omega
          have hcv := conv_sl hS
          go_wp2_with fail
          go_ret
          exact ⟨by rw [HB.out, padTo, HN.out, ← HP.out]; rfl, hW'⟩
end Go.Proofs.YtkbblhioncecmaaGreatDoor
namespace Go.Proofs.YtkbblhioncecmaaGreatDoor
open Go.RowKit

/-- what 'sign' hands back -/
def SignOf (o : Option Nat) (w : World) (e : Ending) (w' : World) : Prop := ∃ v : Int, e = .returned (.tuple #[.int .u8 v, .bool o.isSome]) ∧ (∀ k : Nat, o = some k → v = k) ∧ w = w'

theorem sval_at (n : Nat) : ((n ≤ 42 ∨ (44 ≤ n ∧ n ≤ 46) ∨ (58 ≤ n ∧ n ≤ 64) ∨ (91 ≤ n ∧ n ≤ 96) ∨ 123 ≤ n) → sval n = none) ∧ (n = 43 → sval n = some 62) ∧ (n = 47 → sval n = some 63) ∧
    (48 ≤ n ∧ n ≤ 57 → sval n = some (n + 4)) ∧ (65 ≤ n ∧ n ≤ 90 → sval n = some (n - 65)) ∧ (97 ≤ n ∧ n ≤ 122 → sval n = some (n - 71)) := by
  unfold sval
  refine ⟨fun h => ?_, fun h => ?_, fun h => ?_, fun h => ?_, fun h => ?_, fun h => ?_⟩ <;> repeat' split
  all_goals first | rfl | omega

set_option maxHeartbeats 1600000 in
set_option maxRecDepth 100000 in
theorem refsign_any (c : UInt8) (w : World) : Calls Tryz.prog 47 #[.int .u8 (c.toNat : Int)] w (SignOf (sval c.toNat) w) := by
  obtain ⟨r, hr⟩ : ∃ r, r = sval c.toNat := ⟨_, rfl⟩
  have hb := c.toNat_lt
  have iv := sval_at c.toNat
  rw [← hr] at iv ⊢
  have HI := Lib.hid iv
  clear iv hr
  have : (((c.toNat : Int) ≤ 42)) ∨ (((43 : Int) ≤ (c.toNat : Int)) ∧ ((c.toNat : Int) ≤ 43)) ∨ (((44 : Int) ≤ (c.toNat : Int)) ∧ ((c.toNat : Int) ≤ 46)) ∨ (((47 : Int) ≤ (c.toNat : Int)) ∧ ((c.toNat : Int) ≤ 47)) ∨ (((48 : Int) ≤ (c.toNat : Int)) ∧ ((c.toNat : Int) ≤ 57)) ∨ (((58 : Int) ≤ (c.toNat : Int)) ∧ ((c.toNat : Int) ≤ 64)) ∨ (((65 : Int) ≤ (c.toNat : Int)) ∧ ((c.toNat : Int) ≤ 90)) ∨ (((91 : Int) ≤ (c.toNat : Int)) ∧ ((c.toNat : Int) ≤ 96)) ∨ (((97 : Int) ≤ (c.toNat : Int)) ∧ ((c.toNat : Int) ≤ 122)) ∨ (((123 : Int) ≤ (c.toNat : Int))) := by omega
  rcases this with h | ⟨h, h'⟩ | ⟨h, h'⟩ | ⟨h, h'⟩ | ⟨h, h'⟩ | ⟨h, h'⟩ | ⟨h, h'⟩ | ⟨h, h'⟩ | ⟨h, h'⟩ | h
  · obtain rfl := HI.out.1 (by omega)
    have q : ((c.toNat : Int) == 47) = false := by rw [beq_eq_false_iff_ne]; omega
    go_enter Tryz.func47, Tryz.ntmps47
    go_wp2_with fail
    go_ret2
    exact ⟨_, rfl, (fun k hk => by cases hk), rfl⟩
  · obtain rfl := HI.out.2.1 (by omega)
    have EV := Lib.hid (show ((62 : Nat) : Int) = 62 by omega)
    go_enter Tryz.func47, Tryz.ntmps47
    go_wp2_with fail
    go_ret2
    exact ⟨_, rfl, (fun k hk => by injection hk with hk; subst hk; rfl), rfl⟩
  · obtain rfl := HI.out.1 (by omega)
    have q : ((c.toNat : Int) == 47) = false := by rw [beq_eq_false_iff_ne]; omega
    go_enter Tryz.func47, Tryz.ntmps47
    go_wp2_with fail
    go_ret2
    exact ⟨_, rfl, (fun k hk => by cases hk), rfl⟩
  · obtain rfl := HI.out.2.2.1 (by omega)
    have q : ((c.toNat : Int) == 47) = true := by rw [beq_iff_eq]; omega
    have EV := Lib.hid (show ((63 : Nat) : Int) = 63 by omega)
    go_enter Tryz.func47, Tryz.ntmps47
    go_wp2_with fail
    go_ret2
    exact ⟨_, rfl, (fun k hk => by injection hk with hk; subst hk; rfl), rfl⟩
  · obtain rfl := HI.out.2.2.2.1 (by omega)
    have EV := Lib.hid (show (c.toNat : Int) - 48 + 52 = ((c.toNat + 4 : Nat) : Int) by omega)
    go_enter Tryz.func47, Tryz.ntmps47
    go_wp2_with fail
    go_ret2
    exact ⟨_, rfl, (fun k hk => by injection hk with hk; subst hk; exact EV.out), rfl⟩
  · obtain rfl := HI.out.1 (by omega)
    have q : ((c.toNat : Int) == 47) = false := by rw [beq_eq_false_iff_ne]; omega
    go_enter Tryz.func47, Tryz.ntmps47
    go_wp2_with fail
    go_ret2
    exact ⟨_, rfl, (fun k hk => by cases hk), rfl⟩
  · obtain rfl := HI.out.2.2.2.2.1 (by omega)
    have EV := Lib.hid (show (c.toNat : Int) - 65 = ((c.toNat - 65 : Nat) : Int) by omega)
    go_enter Tryz.func47, Tryz.ntmps47
    go_wp2_with fail
    go_ret2
    exact ⟨_, rfl, (fun k hk => by injection hk with hk; subst hk; exact EV.out), rfl⟩
  · obtain rfl := HI.out.1 (by omega)
    have q : ((c.toNat : Int) == 47) = false := by rw [beq_eq_false_iff_ne]; omega
    go_enter Tryz.func47, Tryz.ntmps47
    go_wp2_with fail
    go_ret2
    exact ⟨_, rfl, (fun k hk => by cases hk), rfl⟩
  · obtain rfl := HI.out.2.2.2.2.2 (by omega)
    have EV := Lib.hid (show (c.toNat : Int) - 97 + 26 = ((c.toNat - 71 : Nat) : Int) by omega)
    go_enter Tryz.func47, Tryz.ntmps47
    go_wp2_with fail
    go_ret2
    exact ⟨_, rfl, (fun k hk => by injection hk with hk; subst hk; exact EV.out), rfl⟩
  · obtain rfl := HI.out.1 (by omega)
    have q : ((c.toNat : Int) == 47) = false := by rw [beq_eq_false_iff_ne]; omega
    go_enter Tryz.func47, Tryz.ntmps47
    go_wp2_with fail
    go_ret2
    exact ⟨_, rfl, (fun k hk => by cases hk), rfl⟩
end Go.Proofs.YtkbblhioncecmaaGreatDoor
namespace Go.Proofs.YtkbblhioncecmaaGreatDoor
open Go.RowKit

def hor (b : List Nat) (i : Nat) : Nat → Nat
  | 0 => 0
  | k + 1 => 2 * hor b i k + b.getD (i + k) 0
def packTo (b : List Nat) (j : Nat) : List UInt8 := (List.range j).map fun t => UInt8.ofNat (hor b (8 * t) 8)
theorem packTo_succ (b : List Nat) (j : Nat) : packTo b (j + 1) = packTo b j ++ [UInt8.ofNat (hor b (8 * j) 8)] := by simp [packTo, List.range_succ]
theorem getD_lt (b : List Nat) (h : ∀ x ∈ b, x < 2) (i : Nat) : b.getD i 0 < 2 := by
  rw [List.getD_eq_getElem?_getD]
  cases e : b[i]? with
  | none => simp
  | some x => simp; exact h x (List.mem_of_getElem? e)
theorem hor_lt (b : List Nat) (h : ∀ x ∈ b, x < 2) (i k : Nat) : hor b i k < 2 ^ k := by
  induction k with
  | zero => simp [hor]
  | succ k ih => have := getD_lt b h (i + k); simp only [hor, Nat.pow_succ]; omega
theorem map_getD (b : List Nat) (h : ∀ x ∈ b, x < 2) (i : Nat) : ((b.map UInt8.ofNat).getD i 0).toNat = b.getD i 0 := by
  rw [List.getD_eq_getElem?_getD, List.getD_eq_getElem?_getD, List.getElem?_map]
  cases e : b[i]? with
  | none => simp
  | some x => have := h x (List.mem_of_getElem? e); simp; omega
theorem hor_cons (a b c d e f g h : Nat) (t : List Nat) (i : Nat) : ∀ k, hor (a :: b :: c :: d :: e :: f :: g :: h :: t) (8 + i) k = hor t i k := by
  intro k
  induction k with
  | zero => rfl
  | succ k ih => simp only [hor, ih]; rw [show 8 + i + k = i + k + 8 by omega]; rfl
theorem packTo_all (b : List Nat) : packTo b (b.length / 8) = pack b := by
  induction b using pack.induct with
  | case1 a b c d e f g h t ih =>
    rw [show (a :: b :: c :: d :: e :: f :: g :: h :: t).length / 8 = t.length / 8 + 1 by simp; omega]
    rw [pack, ← ih]
    unfold packTo
    rw [List.range_succ_eq_map]
    simp only [List.map_cons, List.map_map]
    refine List.cons_eq_cons.2 ⟨?_, ?_⟩
    · congr 1; simp [hor]; omega
    · apply List.map_congr_left
      intro i _
      simp only [Function.comp]
      rw [show 8 * Nat.succ i = 8 + 8 * i by omega, hor_cons]
  | case2 l hl =>
    have hlen : l.length < 8 := by
      match l, hl with
      | [], _ => simp
      | [_], _ => simp
      | [_, _], _ => simp
      | [_, _, _], _ => simp
      | [_, _, _, _], _ => simp
      | [_, _, _, _, _], _ => simp
      | [_, _, _, _, _, _], _ => simp
      | [_, _, _, _, _, _, _], _ => simp
      | a :: b :: c :: d :: e :: f :: g :: h :: t, hl => exact (hl a b c d e f g h t rfl).elim
    rw [Nat.div_eq_of_lt hlen]
    unfold pack
    split <;> first | rfl | exact (hl _ _ _ _ _ _ _ _ _ rfl).elim
theorem bitsOf_drop (s : ByteArray) (k : Nat) (hk : k < s.size) : bitsOf (s.data.toList.drop k) = match sval (s[k]'hk).toNat with
    | some n => [n / 32 % 2, n / 16 % 2, n / 8 % 2, n / 4 % 2, n / 2 % 2, n % 2] ++ bitsOf (s.data.toList.drop (k + 1))
    | none => [] := by
  have h1 : k < s.data.toList.length := by simpa using hk
  rw [List.drop_eq_getElem_cons h1]
  rfl

end Go.Proofs.YtkbblhioncecmaaGreatDoor

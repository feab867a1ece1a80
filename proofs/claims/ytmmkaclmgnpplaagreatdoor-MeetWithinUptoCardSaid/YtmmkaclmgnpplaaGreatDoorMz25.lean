import Derived.Test.YtmmkaclmgnpplaaGreatDoorMz24
set_option maxRecDepth 100000
set_option maxHeartbeats 64000000
set_option linter.unusedSimpArgs false
set_option linter.unusedVariables false
namespace Go.Proofs.YtmmkaclmgnpplaaGreatDoor
open Go.RowKit
theorem OwnG.srcK {w : World} {B n : Nat} {v : Value} {K : Nat → SV} (h : OwnG w B 5 v n (newsK K n)) : Src Tryz.prog 5 30 v n (newsK K n) w := by
 rcases h.2 with ⟨rfl, rfl⟩ | ⟨g, o, cap, rfl, _, _, _, _, _, h8⟩
 ·exact Src.ofNil w Tryz.underlying30 0
 ·refine Src.ofSlice w Tryz.underlying30 _ n cap _ h.1 (fun j u hu => ?_) (ge K n)
  rw [Addr.add_mid]
  exact h8 j u hu
theorem gg (K L : Nat → SV) (n : Nat) : ∀ m, newsK K n ++ newsK L m = newsK (fun i => if i < n then K i else L (i - n)) (n + m)
 | 0 => by
  rw [Nat.add_zero, show newsK L 0 = [] from rfl, List.append_nil]
  exact hJ fun i h => (if_pos h).symm
 | m + 1 => by
  show newsK K n ++ (newsK L m ++ (L m).cells.toList) = newsK _ (n + m) ++ (if n + m < n then K (n + m) else L (n + m - n)).cells.toList
  rw [← gg K L n m, if_neg (by omega), show n + m - n = m by omega, List.append_assoc]
theorem jF {p : Nat → Prop} {n : Nat} {own v' : Value} {u w2 : World} {K L : Nat → SV} {acc more : List Sx} (hn : n = acc.length)
  (hK : ∀ i (hi : i < acc.length), RdI (okO p own) u (K i) acc[i]) (hL : ∀ i (hi : i < more.length), RdI (okO p own) u (L i) more[i])
  (hg : u.grownBy w2 own.ownBlock) (hw : ∀ k, v'.ownBlock = some k → own.ownBlock = some k ∨ u.heap.size ≤ k) :
  ∀ i (hi : i < (acc ++ more).length), RdI (okO p v') w2 (if i < n then K i else L (i - n)) (acc ++ more)[i] := by
 intro i hi
 subst hn
 by_cases m5 : i < acc.length
 ·rw [if_pos m5, List.getElem_append_left m5]
  exact (hK i m5).grew hg hw
 ·rw [if_neg m5, List.getElem_append_right (by omega)]
  exact (hL (i - acc.length) (by simp at hi; omega)).grew hg hw
theorem nj (c d : UInt8) : (⟨#[c]⟩ : ByteArray) ++ ⟨#[d]⟩ = ⟨#[c, d]⟩ := ByteArray.ext (by simp)
def RowsP (p : Nat → Prop) (l : List Sx) (B : Nat) (v : Value) (w : World) : Prop := ∃ K, OwnG w B 5 v l.length (newsK K l.length) ∧ ∀ i (hi : i < l.length), RdI (okO p v) w (K i) l[i]
def BndP (l : List Sx) (w : World) (e : Ending) (w' : World) : Prop := ∃ v, e = .returned v ∧ RowsP (fun b => w.heap.size ≤ b) l w.heap.size v w' ∧ Below w.heap.size w w'
theorem uc (w : World) : Calls Tryz.prog 72 #[] w fun e w' => e = .returned (.agg #[.string ⟨#[]⟩, .string ⟨#[97, 108, 112, 104, 97]⟩, .string ⟨#[110, 117, 109, 101, 114, 105, 99]⟩, .string ⟨#[116, 105, 109, 101]⟩, .string ⟨#[98, 105, 110, 97, 114, 121]⟩, .string ⟨#[100, 97, 116, 101]⟩]) ∧ Below w.heap.size w w' := by
 let x0 := (w.alloc (.cells #[.string ⟨#[]⟩, .string ⟨#[]⟩, .string ⟨#[]⟩, .string ⟨#[]⟩, .string ⟨#[]⟩, .string ⟨#[]⟩] 84))
 have B : Below w.heap.size w x0 := (Below.refl _ _).alloc (Nat.le_refl _) _
 have X : Hid (Box x0 w.heap.size 84 #[.string ⟨#[]⟩, .string ⟨#[]⟩, .string ⟨#[]⟩, .string ⟨#[]⟩, .string ⟨#[]⟩, .string ⟨#[]⟩]) := I5 (Box.new _ _ _)
 go_enter Tryz.func72, Tryz.ntmps72
 go_upto_region 1 with fail
 change Code.wp _ _ _ _ x0
 clear_value x0
 go_wp2_with (refine ac (cells := #[.string ⟨#[]⟩, .string ⟨#[97, 108, 112, 104, 97]⟩, .string ⟨#[110, 117, 109, 101, 114, 105, 99]⟩, .string ⟨#[116, 105, 109, 101]⟩, .string ⟨#[98, 105, 110, 97, 114, 121]⟩, .string ⟨#[100, 97, 116, 101]⟩]) rfl 84 _ _ rfl X.out (by rfl) (by rfl) rfl (by kernel_rfl) (by simp [Value.oneCell']) ?_; intro u9 X9 st9)
 have B9 := st9.below w.heap.size w (by omega) B
 exact bodyPost_ret (v := .agg #[.string ⟨#[]⟩, .string ⟨#[97, 108, 112, 104, 97]⟩, .string ⟨#[110, 117, 109, 101, 114, 105, 99]⟩, .string ⟨#[116, 105, 109, 101]⟩, .string ⟨#[98, 105, 110, 97, 114, 121]⟩, .string ⟨#[100, 97, 116, 101]⟩]) (ae rfl _ _ (by rfl) X9 Tryz.underlying84 rfl (by kernel_rfl)) rfl ⟨rfl, B9⟩
theorem rG (o : Nat) (ho : o = 1 ∨ o = 2 ∨ o = 3 ∨ o = 4 ∨ o = 5) (w : World) : ((Instr.index 84 (.agg #[.string ⟨#[]⟩, .string ⟨#[97, 108, 112, 104, 97]⟩, .string ⟨#[110, 117, 109, 101, 114, 105, 99]⟩, .string ⟨#[116, 105, 109, 101]⟩, .string ⟨#[98, 105, 110, 97, 114, 121]⟩, .string ⟨#[100, 97, 116, 101]⟩]) (.int .u8 o)).run Tryz.prog w).andThen (fun a w' => Result.ok (Next.value a) w') = .ok (.value (.string ⟨(nameO o).toArray⟩)) w := by
 rcases ho with rfl | rfl | rfl | rfl | rfl
 ·rw [cJ 84 9 6 _ .u8 1 (.string ⟨#[97, 108, 112, 104, 97]⟩) Tryz.underlying84 (by omega) rfl (by simp [go_sem]) (by simp [go_sem])]; rfl
 ·rw [cJ 84 9 6 _ .u8 2 (.string ⟨#[110, 117, 109, 101, 114, 105, 99]⟩) Tryz.underlying84 (by omega) rfl (by simp [go_sem]) (by simp [go_sem])]; rfl
 ·rw [cJ 84 9 6 _ .u8 3 (.string ⟨#[116, 105, 109, 101]⟩) Tryz.underlying84 (by omega) rfl (by simp [go_sem]) (by simp [go_sem])]; rfl
 ·rw [cJ 84 9 6 _ .u8 4 (.string ⟨#[98, 105, 110, 97, 114, 121]⟩) Tryz.underlying84 (by omega) rfl (by simp [go_sem]) (by simp [go_sem])]; rfl
 ·rw [cJ 84 9 6 _ .u8 5 (.string ⟨#[100, 97, 116, 101]⟩) Tryz.underlying84 (by omega) rfl (by simp [go_sem]) (by simp [go_sem])]; rfl
theorem mF (xi xo : Bool) (xa : Option Addr) (xn xc : Nat) (xl : List UInt8) (ch : UInt8) (w : World) (hs : Sl w xa xn xc xl) (hn : xn ≤ 1000000) :
  Calls Tryz.prog 73 #[.agg #[.bool xi, .bool xo, .slice xa xn xc], .string ⟨#[ch]⟩] w (BndP (bnd ⟨xi, xo, xl⟩ ch) w) := by
 have HS := I5 hs
 have zE : xn ≤ 1000000 := hn
 clear hs hn
 let x0 := (w.alloc (.cells #[.bool xi, .bool xo, .slice xa xn xc] 25))
 have B : Below w.heap.size w x0 := (Below.refl _ _).alloc (Nat.le_refl _) _
 have X : Hid (Box x0 w.heap.size 25 #[.bool xi, .bool xo, .slice xa xn xc]) := I5 (Box.new _ _ _)
 show Calls _ _ #[.agg #[.bool xi, .bool xo, .slice xa xn xc], .string ⟨#[ch]⟩] _ _
 go_enter Tryz.func73, Tryz.ntmps73
 go_upto_region 1 with fail
 change Code.wp _ _ _ _ x0
 clear_value x0
 have q0 := X.out.cell 0 rfl
 have q1 := X.out.cell 1 rfl
 cases xi with
 | false =>
  go_wp2_with fail
  go_ret
  exact ⟨_, rfl, ⟨fun _ => SV.nil, OwnG.nil _ _ _, fun i hi => by cases hi⟩, B⟩
 | true =>
  cases xo with
  | true =>
   go_upto_region 5 with fail
   clear q0 q1
   have aF : Keeps (fun w' => Box w' w.heap.size 25 #[.bool true, .bool true, .slice xa xn xc] ∧ Sl w' xa xn xc xl ∧ Below w.heap.size w w') := fun _ _ h b => ⟨h.1.after b, h.2.1.after b, h.2.2.trans (b.mono h.2.2.size)⟩
   refine aX (w := x0) [] (fun w' => Box w' w.heap.size 25 #[.bool true, .bool true, .slice xa xn xc] ∧ Sl w' xa xn xc xl ∧ Below w.heap.size w w') rfl (aF _ _ ⟨X.out, HS.out.after B, B⟩ (Below.refl _ _).drew) ?_
   refine ag 0 aF rfl (by kernel_rfl) (by kernel_rfl) (by kernel_rfl) (by kernel_rfl) rfl (fun _ _ _ _ h => h) (.string ⟨#[ch]⟩) (fun w' h => by simp [go_sem]) ?_
   simp only [Act.put, I2, I3, I4]
   refine ag 2 aF rfl (by kernel_rfl) (by kernel_rfl) (by kernel_rfl) (by kernel_rfl) rfl (fun _ _ _ _ h => h) (.pointer (some ⟨w.heap.size, 2, none⟩)) (fun w' h => by simp [go_sem]) ?_
   simp only [Act.put, I2, I3, I4]
   refine ag 3 aF rfl (by kernel_rfl) (by kernel_rfl) (by kernel_rfl) (by kernel_rfl) rfl (fun _ _ _ _ h => h) (.slice xa xn xc) (fun w' h => by simp [go_sem, h.1.cell 2 rfl]) ?_
   simp only [Act.put, I2, I3, I4]
   refine aN 1 rfl (by kernel_rfl) (by kernel_rfl) rfl ?_
   intro z1 b1 s1
   refine aT 71 #[.string ⟨#[ch]⟩] (by simp [go_sem]) _ (cG (fun b => w.heap.size + 1 ≤ b) ⟨#[ch]⟩ (by show 1 ≤ 140737488355328; omega) z1 (fun b hb => by have h1 := s1.1.lt; show w.heap.size + 1 ≤ b; omega)) ?_
   rintro e z2 ⟨vA, rfl, rA, c2⟩
   refine ⟨_, rfl, aF _ _ s1 c2, ?_⟩
   simp only [Act.put, I2, I3, I4]
   refine aN 4 rfl (by kernel_rfl) (by kernel_rfl) rfl ?_
   intro z3 b3 s3
   replace rA := rA.after b3
   refine aT 53 #[.slice xa xn xc] (by simp [go_sem]) _ (dq xa xn xc xl z3 s3.2.1 zE) ?_
   rintro e z4 ⟨v4, rfl, o4, c4⟩
   obtain ⟨p, m, q, rfl, hsl, nN⟩ := OwnB.parts o4
   replace rA := rA.after c4
   have RD : RdI (fun b => w.heap.size + 1 ≤ b) z4 ⟨false, false, none, 0, 0, p, m, q, none, 0, 0⟩ (at1 xl) := de hsl (nN.imp id fun h b o s e => by have h1 := h b o s e; have h2 := s3.1.lt; show w.heap.size + 1 ≤ b; omega)
   refine ⟨_, rfl, aF _ _ s3 c4, ?_⟩
   simp only [Act.put, I2, I3, I4]
   refine bG 5 aF rfl (by kernel_rfl) (by kernel_rfl) (by kernel_rfl) (by kernel_rfl) rfl (fun _ _ _ _ h => h) (.agg #[.bool false, .bool false, .slice none 0 0, .slice p m q, .slice none 0 0]) (fun w' => by simp [go_sem]) ?_
   simp only [Act.put, I2, I3, I4]
   refine aN 6 rfl (by kernel_rfl) (by kernel_rfl) rfl ?_
   intro z5 b5 s5
   replace rA := (rA.after b5).there
   replace RD := (RD.after b5).there
   refine cp (.slice (some ⟨z5.heap.size, 0, none⟩) 2 2) (z5.alloc (.cells #[.bool vA.l, .bool vA.h, .slice vA.a1 vA.n1 vA.c1, .slice vA.a2 vA.n2 vA.c2, .slice vA.a3 vA.n3 vA.c3, .bool false, .bool false, .slice none 0 0, .slice p m q, .slice none 0 0] 32)) (by simp [go_sem, SV.val]) ?_
   have c6 : Below z5.heap.size z5 (z5.alloc (.cells #[.bool vA.l, .bool vA.h, .slice vA.a1 vA.n1 vA.c1, .slice vA.a2 vA.n2 vA.c2, .slice vA.a3 vA.n3 vA.c3, .bool false, .bool false, .slice none 0 0, .slice p m q, .slice none 0 0] 32)) := (Below.refl _ _).alloc (Nat.le_refl _) _
   have BD := s5.1.lt
   have o6 : OwnG (z5.alloc (.cells #[.bool vA.l, .bool vA.h, .slice vA.a1 vA.n1 vA.c1, .slice vA.a2 vA.n2 vA.c2, .slice vA.a3 vA.n3 vA.c3, .bool false, .bool false, .slice none 0 0, .slice p m q, .slice none 0 0] 32)) w.heap.size 5 (.slice (some ⟨z5.heap.size, 0, none⟩) 2 2) 2 (newsK (fun i => if i = 0 then vA else ⟨false, false, none, 0, 0, p, m, q, none, 0, 0⟩) 2) := by
    have := OwnG.new z5 w.heap.size 5 (by omega) #[.bool vA.l, .bool vA.h, .slice vA.a1 vA.n1 vA.c1, .slice vA.a2 vA.n2 vA.c2, .slice vA.a3 vA.n3 vA.c3, .bool false, .bool false, .slice none 0 0, .slice p m q, .slice none 0 0] 32 2 2 (Nat.le_refl _) (by unfold maxLen; omega) rfl
    exact this
   refine ⟨aF _ _ s5 c6, ?_⟩
   simp only [Act.put, I2, I3, I4]
   refine bG 7 aF rfl (by kernel_rfl) (by kernel_rfl) (by kernel_rfl) (by kernel_rfl) rfl (fun _ _ _ _ h => h) (.slice (some ⟨z5.heap.size, 0, none⟩) 2 2) (fun w' => by simp [go_sem]) ?_
   simp only [Act.put, I2, I3, I4]
   refine eK (by kernel_rfl) ?_
   intro z7 b7 s7
   go_wp2_with fail
   go_ret
   exact ⟨_, rfl, ⟨(fun i => if i = 0 then vA else ⟨false, false, none, 0, 0, p, m, q, none, 0, 0⟩), o6.after b7, fun i hi => match i, hi with | 0, _ => ((rA.after c6).after b7).mono (fun b hb => ⟨by show w.heap.size ≤ b; have := hb.1; omega, fun e => by simp [Value.ownBlock] at e; have := hb.2; omega⟩) | 1, _ => ((RD.after c6).after b7).mono (fun b hb => ⟨by show w.heap.size ≤ b; have := hb.1; omega, fun e => by simp [Value.ownBlock] at e; have := hb.2; omega⟩)⟩, s7.2.2⟩
  | false =>
   go_upto_region 5 with fail
   clear q0 q1
   have aF : Keeps (fun w' => Box w' w.heap.size 25 #[.bool true, .bool false, .slice xa xn xc] ∧ Sl w' xa xn xc xl ∧ Below w.heap.size w w') := fun _ _ h b => ⟨h.1.after b, h.2.1.after b, h.2.2.trans (b.mono h.2.2.size)⟩
   refine aX (w := x0) [] (fun w' => Box w' w.heap.size 25 #[.bool true, .bool false, .slice xa xn xc] ∧ Sl w' xa xn xc xl ∧ Below w.heap.size w w') rfl (aF _ _ ⟨X.out, HS.out.after B, B⟩ (Below.refl _ _).drew) ?_
   refine ag 0 aF rfl (by kernel_rfl) (by kernel_rfl) (by kernel_rfl) (by kernel_rfl) rfl (fun _ _ _ _ h => h) (.string ⟨#[ch, 101]⟩) (fun w' h => by simp [go_sem, nj]) ?_
   simp only [Act.put, I2, I3, I4]
   refine ag 2 aF rfl (by kernel_rfl) (by kernel_rfl) (by kernel_rfl) (by kernel_rfl) rfl (fun _ _ _ _ h => h) (.pointer (some ⟨w.heap.size, 2, none⟩)) (fun w' h => by simp [go_sem]) ?_
   simp only [Act.put, I2, I3, I4]
   refine ag 3 aF rfl (by kernel_rfl) (by kernel_rfl) (by kernel_rfl) (by kernel_rfl) rfl (fun _ _ _ _ h => h) (.slice xa xn xc) (fun w' h => by simp [go_sem, h.1.cell 2 rfl]) ?_
   simp only [Act.put, I2, I3, I4]
   refine aN 1 rfl (by kernel_rfl) (by kernel_rfl) rfl ?_
   intro z1 b1 s1
   refine aT 71 #[.string ⟨#[ch, 101]⟩] (by simp [go_sem]) _ (cG (fun b => w.heap.size + 1 ≤ b) ⟨#[ch, 101]⟩ (by show 2 ≤ 140737488355328; omega) z1 (fun b hb => by have h1 := s1.1.lt; show w.heap.size + 1 ≤ b; omega)) ?_
   rintro e z2 ⟨vA, rfl, rA, c2⟩
   refine ⟨_, rfl, aF _ _ s1 c2, ?_⟩
   simp only [Act.put, I2, I3, I4]
   refine aN 4 rfl (by kernel_rfl) (by kernel_rfl) rfl ?_
   intro z3 b3 s3
   replace rA := rA.after b3
   refine aT 53 #[.slice xa xn xc] (by simp [go_sem]) _ (dq xa xn xc xl z3 s3.2.1 zE) ?_
   rintro e z4 ⟨v4, rfl, o4, c4⟩
   obtain ⟨p, m, q, rfl, hsl, nN⟩ := OwnB.parts o4
   replace rA := rA.after c4
   have RD : RdI (fun b => w.heap.size + 1 ≤ b) z4 ⟨false, false, none, 0, 0, p, m, q, none, 0, 0⟩ (at1 xl) := de hsl (nN.imp id fun h b o s e => by have h1 := h b o s e; have h2 := s3.1.lt; show w.heap.size + 1 ≤ b; omega)
   refine ⟨_, rfl, aF _ _ s3 c4, ?_⟩
   simp only [Act.put, I2, I3, I4]
   refine bG 5 aF rfl (by kernel_rfl) (by kernel_rfl) (by kernel_rfl) (by kernel_rfl) rfl (fun _ _ _ _ h => h) (.agg #[.bool false, .bool false, .slice none 0 0, .slice p m q, .slice none 0 0]) (fun w' => by simp [go_sem]) ?_
   simp only [Act.put, I2, I3, I4]
   refine aN 6 rfl (by kernel_rfl) (by kernel_rfl) rfl ?_
   intro z5 b5 s5
   replace rA := (rA.after b5).there
   replace RD := (RD.after b5).there
   refine cp (.slice (some ⟨z5.heap.size, 0, none⟩) 2 2) (z5.alloc (.cells #[.bool vA.l, .bool vA.h, .slice vA.a1 vA.n1 vA.c1, .slice vA.a2 vA.n2 vA.c2, .slice vA.a3 vA.n3 vA.c3, .bool false, .bool false, .slice none 0 0, .slice p m q, .slice none 0 0] 32)) (by simp [go_sem, SV.val]) ?_
   have c6 : Below z5.heap.size z5 (z5.alloc (.cells #[.bool vA.l, .bool vA.h, .slice vA.a1 vA.n1 vA.c1, .slice vA.a2 vA.n2 vA.c2, .slice vA.a3 vA.n3 vA.c3, .bool false, .bool false, .slice none 0 0, .slice p m q, .slice none 0 0] 32)) := (Below.refl _ _).alloc (Nat.le_refl _) _
   have BD := s5.1.lt
   have o6 : OwnG (z5.alloc (.cells #[.bool vA.l, .bool vA.h, .slice vA.a1 vA.n1 vA.c1, .slice vA.a2 vA.n2 vA.c2, .slice vA.a3 vA.n3 vA.c3, .bool false, .bool false, .slice none 0 0, .slice p m q, .slice none 0 0] 32)) w.heap.size 5 (.slice (some ⟨z5.heap.size, 0, none⟩) 2 2) 2 (newsK (fun i => if i = 0 then vA else ⟨false, false, none, 0, 0, p, m, q, none, 0, 0⟩) 2) := by
    have := OwnG.new z5 w.heap.size 5 (by omega) #[.bool vA.l, .bool vA.h, .slice vA.a1 vA.n1 vA.c1, .slice vA.a2 vA.n2 vA.c2, .slice vA.a3 vA.n3 vA.c3, .bool false, .bool false, .slice none 0 0, .slice p m q, .slice none 0 0] 32 2 2 (Nat.le_refl _) (by unfold maxLen; omega) rfl
    exact this
   refine ⟨aF _ _ s5 c6, ?_⟩
   simp only [Act.put, I2, I3, I4]
   refine bG 7 aF rfl (by kernel_rfl) (by kernel_rfl) (by kernel_rfl) (by kernel_rfl) rfl (fun _ _ _ _ h => h) (.slice (some ⟨z5.heap.size, 0, none⟩) 2 2) (fun w' => by simp [go_sem]) ?_
   simp only [Act.put, I2, I3, I4]
   refine eK (by kernel_rfl) ?_
   intro z7 b7 s7
   go_wp2_with fail
   go_ret
   exact ⟨_, rfl, ⟨(fun i => if i = 0 then vA else ⟨false, false, none, 0, 0, p, m, q, none, 0, 0⟩), o6.after b7, fun i hi => match i, hi with | 0, _ => ((rA.after c6).after b7).mono (fun b hb => ⟨by show w.heap.size ≤ b; have := hb.1; omega, fun e => by simp [Value.ownBlock] at e; have := hb.2; omega⟩) | 1, _ => ((RD.after c6).after b7).mono (fun b hb => ⟨by show w.heap.size ≤ b; have := hb.1; omega, fun e => by simp [Value.ownBlock] at e; have := hb.2; omega⟩)⟩, s7.2.2⟩
end Go.Proofs.YtmmkaclmgnpplaaGreatDoor

/- Notation: the program's value. -/
import Derived.Test.YtkbblhioncecmaaDoorNtY
namespace Go.Proofs.YtkbblhioncecmaaDoor
open Go.RowKit
set_option linter.unusedVariables false
set_option linter.unusedSimpArgs false

/-- what goes on while the builder at b is written -/
def WK (B b : Nat) (w0 : World) (l : List UInt8) (w : World) : Prop := Bl B b l w ∧ Below B w0 w ∧ Kept b w0 w ∧ b < w0.heap.size
theorem WK.ret {B b : Nat} {w0 w w' : World} {l l' : List UInt8} {r : Value} {e : Ending} (h : WK B b w0 l w) (h' : RetK B b r l' w e w') : WK B b w0 l' w' :=
  ⟨h'.2.1, h.2.1.trans h'.2.2.1, h.2.2.1.trans h'.2.2.2 h.2.1.size, h.2.2.2⟩
theorem WK.below {B b : Nat} {w0 w w' : World} {l : List UInt8} (h : WK B b w0 l w) (hb : Below w.heap.size w w') (hB : B ≤ w.heap.size) : WK B b w0 l w' :=
  ⟨h.1.after hb, h.2.1.trans (hb.mono hB), h.2.2.1.trans (kept_below h.1.lt hb) h.2.1.size, h.2.2.2⟩
theorem WK.start {B b : Nat} {w : World} {l : List UInt8} (h : Bl B b l w) (w' : World) (hb : Below w.heap.size w w') (hB : B ≤ w.heap.size) : WK B b w l w' :=
  ⟨h.after hb, hb.mono hB, kept_below h.lt hb, h.lt⟩
theorem WK.hB {B b : Nat} {w0 w : World} {l : List UInt8} (h : WK B b w0 l w) (hB : B ≤ w0.heap.size) : B ≤ w.heap.size := Nat.le_trans hB h.2.1.size
/-- a box that is neither the builder's nor its row's -/
def KB (b : Nat) (w : World) (g : Nat) (cs : Array Value) : Prop := Box w g 26 cs ∧ g ≠ b ∧ ¬ OwnOf w b g
theorem KB.ret {B b : Nat} {w w' : World} {l' : List UInt8} {r : Value} {e : Ending} {g : Nat} {cs : Array Value} (h : KB b w g cs) (h' : RetK B b r l' w e w') : KB b w' g cs :=
  ⟨h'.2.2.2.box h.1 h.2.1 h.2.2, h.2.1, (h'.2.2.2 g h.1.lt h.2.1 h.2.2).2⟩
theorem KB.below {b : Nat} {w w' : World} {g : Nat} {cs : Array Value} (h : KB b w g cs) (hlt : b < w.heap.size) (hb : Below w.heap.size w w') : KB b w' g cs :=
  ⟨h.1.after hb, h.2.1, (kept_below hlt hb g h.1.lt h.2.1 h.2.2).2⟩
theorem KB.made {B b : Nat} {w u : World} {acc : List UInt8} {g : Nat} {cs : Array Value} (hb : Bl B b acc w) (hX : Box u g 26 cs) (hg : w.heap.size ≤ g) (hu : Below w.heap.size w u) : KB b u g cs :=
  ⟨hX, fun e => by have := hb.lt; omega, fun ⟨p, v, T', z, h1, h2⟩ => by
    have hlt := hb.lt
    obtain ⟨p', u', _, h3, h4, _⟩ := hb
    have h5 := Option.some.inj (h1.symm.trans ((hu.block b hlt).trans h3))
    cases h5
    have := (h4.own _ h2).2
    omega⟩
theorem KB.new {B b : Nat} {w : World} {acc : List UInt8} (cs : Array Value) (hb : Bl B b acc w) : KB b (w.alloc (.cells cs 26)) w.heap.size cs :=
  KB.made hb (Box.new _ _ _) (Nat.le_refl _) ((Below.refl _ _).alloc (Nat.le_refl _) _)

set_option maxHeartbeats 8000000 in
set_option maxRecDepth 100000 in
theorem valueK (s : Sx) : ∀ (B b : Nat) (acc : List UInt8) (v : SV) (w : World), Bl B b acc w → RdI (fun k => k < B) w v s → acc.length + 8 * s.form.length ≤ 1000000000 → s.form.length ≤ 400000 → B ≤ w.heap.size →
    Calls Tryd.prog 31 #[.pointer (some ⟨b, 0, none⟩), v.val] w (RetK B b (.tuple #[]) (acc ++ s.adv) w) := by
  induction s using Sx.ind with
  | h l hh hi da ks ih =>
    intro B b acc v w hb hr hl hf hBw
    obtain ⟨e1, e2, s1, s2, hn, hnc, hcm, K, hrow, hk⟩ := hr.parts
    have HRD := Lib.hid (fun (w' : World) (h : Below B w w') => (hr.keep (fun k hk => h.block k hk)).parts)
    have HIN := Lib.hid hr.inb.2.2
    obtain ⟨vl, vh, va1, vn1, vc1, va2, vn2, vc2, va3, vn3, vc3⟩ := v
    obtain rfl : vl = l := e1
    obtain rfl : vh = hh := e2
    have HN3 := Lib.hid hn
    have HCM := Lib.hid hcm
    have HNC := Lib.hid hnc
    have HS1 : Hid (vn1 = hi.length) := Lib.hid s1.1
    have HS2 : Hid (vn2 = da.length) := Lib.hid s2.1
    clear hr hrow hk hn hnc hcm s1 s2
    cases vl with
    | false =>
      have HPI := Lib.hid (plainL_len hi)
      have HPD := Lib.hid (plainL_len da)
      have hti := textL_ge hi
      have htd := textL_ge da
      clear ih HN3 HCM HNC HIN
      cases vh with
      | false =>
        have HA : Hid ((Sx.mk false false hi da ks).adv = plainL da) := Lib.hid (by simp [Sx.adv])
        have HFM : Hid (da.length + 1 ≤ 400000 ∧ acc.length + 8 * da.length ≤ 1000000000) := Lib.hid (by
          rw [form_def] at hf hl
          simp at hf hl
          omega)
        clear hf hl hti htd
        show Calls _ _ #[_, .agg #[.bool false, .bool false, .slice va1 vn1 vc1, .slice va2 vn2 vc2, .slice va3 vn3 vc3]] _ _
        have W := Lib.hid (WK.start hb (w.alloc (.cells #[.bool false, .bool false, .slice va1 vn1 vc1, .slice va2 vn2 vc2, .slice va3 vn3 vc3] 26)) ((Below.refl _ _).alloc (Nat.le_refl _) _) hBw)
        have V := Lib.hid (KB.new (w := w) #[.bool false, .bool false, .slice va1 vn1 vc1, .slice va2 vn2 vc2, .slice va3 vn3 vc3] hb)
        have HBW := Lib.hid hBw
        go_enter Tryd.func31, Tryd.ntmps31
        go_upto_region 1 with fail
        change Code.wp _ _ _ _ (w.alloc (.cells #[.bool false, .bool false, .slice va1 vn1 vc1, .slice va2 vn2 vc2, .slice va3 vn3 vc3] 26))
        generalize (w.alloc (.cells #[.bool false, .bool false, .slice va1 vn1 vc1, .slice va2 vn2 vc2, .slice va3 vn3 vc3] 26)) = x0 at *
        have v0 := V.out.1.cell 0 rfl
        have v1 := V.out.1.cell 1 rfl
        have v2 := V.out.1.cell 2 rfl
        have v3 := V.out.1.cell 3 rfl
        have v4 := V.out.1.cell 4 rfl
        go_wp2_with fail
        refine (plainK B b (acc) va2 vn2 vc2 da _ W.out.1 (fun w' h => (HRD.out w' (W.out.2.1.trans h)).2.2.2.1) (by have := HFM.out; omega) (by have := HFM.out; have := HS1.out; have := HS2.out; (try dsimp only at *); omega) (W.out.hB HBW.out)).mono ?_
        rintro e z1 h_
        obtain rfl := h_.1
        have W' := Lib.hid (W.out.ret h_)
        have V' := Lib.hid (V.out.ret h_)
        clear h_ W V
        have W := W'
        have V := V'
        clear W' V'
        rw [← HA.out] at W
        clear v0 v1 v2 v3 v4
        go_wp2_with fail
        exact bodyPost_ret (results_none rfl _ _ _) rfl ⟨rfl, W.out.1, W.out.2.1, W.out.2.2.1⟩
      | true =>
        have HA : Hid ((Sx.mk false true hi da ks).adv = [91] ++ plainL hi ++ [93] ++ plainL da) := Lib.hid (by simp [Sx.adv])
        have HFM : Hid (da.length + hi.length + 1 ≤ 400000 ∧ acc.length + 8 * da.length + 8 * hi.length + 8 ≤ 1000000000) := Lib.hid (by
          rw [form_def] at hf hl
          simp at hf hl
          omega)
        clear hf hl hti htd
        show Calls _ _ #[_, .agg #[.bool false, .bool true, .slice va1 vn1 vc1, .slice va2 vn2 vc2, .slice va3 vn3 vc3]] _ _
        have W := Lib.hid (WK.start hb (w.alloc (.cells #[.bool false, .bool true, .slice va1 vn1 vc1, .slice va2 vn2 vc2, .slice va3 vn3 vc3] 26)) ((Below.refl _ _).alloc (Nat.le_refl _) _) hBw)
        have V := Lib.hid (KB.new (w := w) #[.bool false, .bool true, .slice va1 vn1 vc1, .slice va2 vn2 vc2, .slice va3 vn3 vc3] hb)
        have HBW := Lib.hid hBw
        go_enter Tryd.func31, Tryd.ntmps31
        go_upto_region 1 with fail
        change Code.wp _ _ _ _ (w.alloc (.cells #[.bool false, .bool true, .slice va1 vn1 vc1, .slice va2 vn2 vc2, .slice va3 vn3 vc3] 26))
        generalize (w.alloc (.cells #[.bool false, .bool true, .slice va1 vn1 vc1, .slice va2 vn2 vc2, .slice va3 vn3 vc3] 26)) = x0 at *
        have v0 := V.out.1.cell 0 rfl
        have v1 := V.out.1.cell 1 rfl
        have v2 := V.out.1.cell 2 rfl
        have v3 := V.out.1.cell 3 rfl
        have v4 := V.out.1.cell 4 rfl
        go_wp2_with fail
        refine (byteK B b (acc) 91 _ W.out.1 (by have := HFM.out; have := HPI.out; have := HPD.out; (try simp only [List.length_append, List.length_cons, List.length_nil]); omega) (W.out.hB HBW.out)).mono ?_
        rintro e z1 h_
        obtain rfl := h_.1
        have W' := Lib.hid (W.out.ret h_)
        have V' := Lib.hid (V.out.ret h_)
        clear h_ W V
        have W := W'
        have V := V'
        clear W' V'
        have v0 := V.out.1.cell 0 rfl
        have v1 := V.out.1.cell 1 rfl
        have v2 := V.out.1.cell 2 rfl
        have v3 := V.out.1.cell 3 rfl
        have v4 := V.out.1.cell 4 rfl
        go_wp2_with fail
        refine (plainK B b (acc ++ [91]) va1 vn1 vc1 hi _ W.out.1 (fun w' h => (HRD.out w' (W.out.2.1.trans h)).2.2.1) (by have := HFM.out; have := HPI.out; have := HPD.out; (try simp only [List.length_append, List.length_cons, List.length_nil]); omega) (by have := HFM.out; have := HS1.out; have := HS2.out; (try dsimp only at *); omega) (W.out.hB HBW.out)).mono ?_
        rintro e z2 h_
        obtain rfl := h_.1
        have W' := Lib.hid (W.out.ret h_)
        have V' := Lib.hid (V.out.ret h_)
        clear h_ W V
        have W := W'
        have V := V'
        clear W' V'
        have v0 := V.out.1.cell 0 rfl
        have v1 := V.out.1.cell 1 rfl
        have v2 := V.out.1.cell 2 rfl
        have v3 := V.out.1.cell 3 rfl
        have v4 := V.out.1.cell 4 rfl
        go_wp2_with fail
        refine (byteK B b (acc ++ [91] ++ plainL hi) 93 _ W.out.1 (by have := HFM.out; have := HPI.out; have := HPD.out; (try simp only [List.length_append, List.length_cons, List.length_nil]); omega) (W.out.hB HBW.out)).mono ?_
        rintro e z3 h_
        obtain rfl := h_.1
        have W' := Lib.hid (W.out.ret h_)
        have V' := Lib.hid (V.out.ret h_)
        clear h_ W V
        have W := W'
        have V := V'
        clear W' V'
        have v0 := V.out.1.cell 0 rfl
        have v1 := V.out.1.cell 1 rfl
        have v2 := V.out.1.cell 2 rfl
        have v3 := V.out.1.cell 3 rfl
        have v4 := V.out.1.cell 4 rfl
        go_wp2_with fail
        refine (plainK B b (acc ++ [91] ++ plainL hi ++ [93]) va2 vn2 vc2 da _ W.out.1 (fun w' h => (HRD.out w' (W.out.2.1.trans h)).2.2.2.1) (by have := HFM.out; have := HPI.out; have := HPD.out; (try simp only [List.length_append, List.length_cons, List.length_nil]); omega) (by have := HFM.out; have := HS1.out; have := HS2.out; (try dsimp only at *); omega) (W.out.hB HBW.out)).mono ?_
        rintro e z4 h_
        obtain rfl := h_.1
        have W' := Lib.hid (W.out.ret h_)
        have V' := Lib.hid (V.out.ret h_)
        clear h_ W V
        have W := W'
        have V := V'
        clear W' V'
        rw [show acc ++ [91] ++ plainL hi ++ [93] ++ plainL da = acc ++ (Sx.mk false true hi da ks).adv by rw [HA.out]; simp] at W
        clear v0 v1 v2 v3 v4
        go_wp2_with fail
        exact bodyPost_ret (results_none rfl _ _ _) rfl ⟨rfl, W.out.1, W.out.2.1, W.out.2.2.1⟩
    | true =>
      have HA : Hid ((Sx.mk true vh hi da ks).adv = [40] ++ Sx.advL ks ++ [41]) := Lib.hid (by simp [Sx.adv])
      have HFM : Hid ((Sx.formL ks).length + 2 ≤ 400000 ∧ acc.length + 8 * (Sx.formL ks).length + 16 ≤ 1000000000) := Lib.hid (by
        rw [form_def] at hf hl
        simp at hf hl
        omega)
      have IH := Lib.hid ih
      replace HN3 : Hid (vn3 = ks.length) := HN3
      obtain rfl : vn3 = ks.length := HN3.out
      have hcm : ks.length ≤ maxLen := Nat.le_trans HNC.out HCM.out
      unfold maxLen at hcm
      clear hf hl ih HN3 HNC HCM
      show Calls _ _ #[_, .agg #[.bool true, .bool vh, .slice va1 vn1 vc1, .slice va2 vn2 vc2, .slice va3 ks.length vc3]] _ _
      have W := Lib.hid (WK.start hb (w.alloc (.cells #[.bool true, .bool vh, .slice va1 vn1 vc1, .slice va2 vn2 vc2, .slice va3 ks.length vc3] 26)) ((Below.refl _ _).alloc (Nat.le_refl _) _) hBw)
      have V := Lib.hid (KB.new (w := w) #[.bool true, .bool vh, .slice va1 vn1 vc1, .slice va2 vn2 vc2, .slice va3 ks.length vc3] hb)
      have HBW := Lib.hid hBw
      go_enter Tryd.func31, Tryd.ntmps31
      go_upto_region 1 with fail
      change Code.wp _ _ _ _ (w.alloc (.cells #[.bool true, .bool vh, .slice va1 vn1 vc1, .slice va2 vn2 vc2, .slice va3 ks.length vc3] 26))
      generalize (w.alloc (.cells #[.bool true, .bool vh, .slice va1 vn1 vc1, .slice va2 vn2 vc2, .slice va3 ks.length vc3] 26)) = x0 at *
      have v0 := V.out.1.cell 0 rfl
      have v1 := V.out.1.cell 1 rfl
      have v2 := V.out.1.cell 2 rfl
      have v3 := V.out.1.cell 3 rfl
      have v4 := V.out.1.cell 4 rfl
      go_wp2_with fail
      refine (byteK B b (acc) 40 _ W.out.1 (by have := HFM.out; omega) (W.out.hB HBW.out)).mono ?_
      rintro e z1 h_
      obtain rfl := h_.1
      have W' := Lib.hid (W.out.ret h_)
      have V' := Lib.hid (V.out.ret h_)
      clear h_ W V
      have W := W'
      have V := V'
      clear W' V'
      clear v0 v1 v2 v3 v4
      have v4 := V.out.1.cell 4 rfl
      go_wp2_with fail
      go_loopw [28] (fun i wr => ∃ n : Nat, n ≤ ks.length ∧ i = .int .i64 n ∧ Hid (WK B b w (acc ++ [40] ++ Sx.advL (ks.take n)) wr) ∧ Hid (KB b wr w.heap.size #[.bool true, .bool vh, .slice va1 vn1 vc1, .slice va2 vn2 vc2, .slice va3 ks.length vc3])) (fun i _ => ks.length - (intOf i).toNat)
      case atStart => exact ⟨0, Nat.zero_le _, rfl, by simpa [Sx.advL] using W, V⟩
      case round =>
        obtain ⟨n, hnl, rfl, W2, V2⟩ := hrel
        clear W V v4
        have W := W2
        have V := V2
        clear W2 V2
        by_cases hlt : n < ks.length
        · obtain ⟨K, hrow, hk⟩ := (HRD.out wr W.out.2.1).2.2.2.2.2.2.2
          obtain ⟨b3, o3, rfl, hld⟩ := hrow.range hlt
          have HL := Lib.hid hld
          have hkn : RdI (fun k => k < B) wr (K n) ks[n] := hk n hlt
          obtain ⟨kv, hkv⟩ : ∃ kv, kv = K n := ⟨_, rfl⟩
          rw [← hkv] at HL hkn
          have HKN := Lib.hid hkn
          obtain ⟨kid, hkid⟩ : ∃ kid, kid = ks[n] := ⟨_, rfl⟩
          rw [← hkid] at HKN
          have HFK : Hid (acc.length + 1 + (Sx.advL (ks.take n)).length + 1 + 8 * kid.form.length ≤ 1000000000 ∧ kid.form.length ≤ 400000) := Lib.hid (by
            have e1 := advL_len (ks.take n) (fun k hk => adv_len k)
            have e2 := Sx.formL_snoc ks n hlt
            have e3 : (Sx.formL (ks.take (n + 1))).length ≤ (Sx.formL ks).length := Sx.formL_take ks (n + 1)
            rw [← hkid] at e2
            rw [e2, List.length_append] at e3
            have := HFM.out
            omega)
          have HNX : Hid (acc ++ [40] ++ Sx.advL (ks.take n) ++ (if 0 < n then [32] else []) ++ kid.adv = acc ++ [40] ++ Sx.advL (ks.take (n + 1))) := Lib.hid (by rw [Sx.advL_snoc ks n hlt, ← hkid]; simp)
          have IH2 : Hid (∀ (acc : List UInt8) (w : World), Bl B b acc w → RdI (fun k => k < B) w kv kid → acc.length + 8 * kid.form.length ≤ 1000000000 → B ≤ w.heap.size → Calls Tryd.prog 31 #[.pointer (some ⟨b, 0, none⟩), kv.val] w (RetK B b (.tuple #[]) (acc ++ kid.adv) w)) := Lib.hid (fun acc w h1 h2 h3 h4 => by
            have := IH.out kid (hkid ▸ List.getElem_mem hlt) B b acc kv w h1 h2 h3 HFK.out.2 h4
            exact this)
          obtain ⟨bs, hbs⟩ : ∃ bs, bs = acc ++ [40] ++ Sx.advL (ks.take n) := ⟨_, rfl⟩
          have HBS : Hid (bs.length = acc.length + 1 + (Sx.advL (ks.take n)).length) := Lib.hid (by rw [hbs]; simp; omega)
          rw [← hbs] at W HNX
          have v4 := V.out.1.cell 4 rfl
          clear hld hrow hk hkn hkv hkid hbs
          go_upto_region 11 with first | (refine wpList_load_sv rfl _ rfl b3 _ rfl _ HL.out ?_) | (refine wpList_store_box (cells := kv.cells) rfl 26 _ _ rfl (Box.new _ _ _) (by rfl) (by rfl) rfl (by kernel_rfl) (SV.one _) ?_; intro u9 Y9 st9)
          have hbu : Below wr.heap.size wr u9 := st9.below wr.heap.size wr (Nat.le_refl _) ((Below.refl _ _).alloc (Nat.le_refl _) _)
          have Y := Lib.hid (KB.made W.out.1 Y9 (Nat.le_refl _) hbu)
          have V' := Lib.hid (V.out.below W.out.1.lt hbu)
          have W' := Lib.hid (W.out.below hbu (W.out.hB HBW.out))
          have KR' := Lib.hid (HKN.out.keep (fun k hk => hbu.block k (Nat.lt_of_lt_of_le hk (W.out.hB HBW.out))))
          clear st9 Y9 hbu V W HKN HL v4
          have V := V'
          have W := W'
          have KR := KR'
          clear V' W' KR'
          by_cases hn0 : 0 < n
          · have hn0' : (0 : Int) < (n : Int) := by omega
            go_wp2_with fail
            refine (byteK B b bs 32 _ W.out.1 (by have := HFK.out; have := HBS.out; omega) (W.out.hB HBW.out)).mono ?_
            rintro e z2 h_
            obtain rfl := h_.1
            have KR' := Lib.hid (KR.out.keep (fun k hk => h_.2.2.1.block k hk))
            have Y' := Lib.hid (Y.out.ret h_)
            clear KR Y
            have KR := KR'
            have Y := Y'
            clear KR' Y'
            have W' := Lib.hid (W.out.ret h_)
            have V' := Lib.hid (V.out.ret h_)
            clear h_ W V
            have W := W'
            have V := V'
            clear W' V'
            have y9 := Y.out.1
            go_wp2_with (refine wpList_load_box rfl 26 _ rfl Y.out.1 (by rfl) Tryd.underlying26 rfl (by kernel_rfl) ?_)
            refine (IH2.out (bs ++ [32]) _ W.out.1 KR.out (by have := HFK.out; have := HBS.out; simp only [List.length_append, List.length_cons, List.length_nil]; omega) (W.out.hB HBW.out)).mono ?_
            rintro e z3 h_
            obtain rfl := h_.1
            have W' := Lib.hid (W.out.ret h_)
            have V' := Lib.hid (V.out.ret h_)
            clear h_ W V
            have W := W'
            have V := V'
            clear W' V'
            rw [show bs ++ [32] ++ kid.adv = acc ++ [40] ++ Sx.advL (ks.take (n + 1)) by rw [← HNX.out, if_pos hn0]] at W
            clear y9
            go_wp2_with fail
            go_roundw
            case rel => exact ⟨n + 1, by omega, by go_num, W, V⟩
            case measure => simp [intOf]; omega
          · have hn0' : ¬ (0 : Int) < (n : Int) := by omega
            go_wp2_with (refine wpList_load_box rfl 26 _ rfl Y.out.1 (by rfl) Tryd.underlying26 rfl (by kernel_rfl) ?_)
            refine (IH2.out bs _ W.out.1 KR.out (by have := HFK.out; have := HBS.out; omega) (W.out.hB HBW.out)).mono ?_
            rintro e z3 h_
            obtain rfl := h_.1
            have W' := Lib.hid (W.out.ret h_)
            have V' := Lib.hid (V.out.ret h_)
            clear h_ W V
            have W := W'
            have V := V'
            clear W' V'
            rw [show bs ++ kid.adv = acc ++ [40] ++ Sx.advL (ks.take (n + 1)) by rw [← HNX.out, if_neg hn0]; simp] at W
            go_wp2_with fail
            go_roundw
            case rel => exact ⟨n + 1, by omega, by go_num, W, V⟩
            case measure => simp [intOf]; omega
        · have hlt' : ¬ (n : Int) < (ks.length : Int) := by omega
          rw [show ks.take n = ks from List.take_of_length_le (by omega)] at W
          have v4 := V.out.1.cell 4 rfl
          go_wp2_with fail
          refine (byteK B b _ 41 _ W.out.1 (by have := HFM.out; have := advL_len ks (fun k hk => adv_len k); simp only [List.length_append, List.length_cons, List.length_nil]; omega) (W.out.hB HBW.out)).mono ?_
          rintro e z2 h_
          obtain rfl := h_.1
          have W' := Lib.hid (W.out.ret h_)
          have V' := Lib.hid (V.out.ret h_)
          clear h_ W V
          have W := W'
          have V := V'
          clear W' V'
          rw [show acc ++ [40] ++ Sx.advL ks ++ [41] = acc ++ (Sx.mk true vh hi da ks).adv by rw [HA.out]; simp] at W
          go_wp2_with fail
          exact bodyPost_ret (results_none rfl _ _ _) rfl ⟨rfl, W.out.1, W.out.2.1, W.out.2.2.1⟩
end Go.Proofs.YtkbblhioncecmaaDoor

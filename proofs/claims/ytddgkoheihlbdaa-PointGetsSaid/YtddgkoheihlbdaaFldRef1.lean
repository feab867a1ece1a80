/- field: the document's fit: what it computes. -/
import Derived.Test.YtddgkoheihlbdaaFldRefMath
import Derived.Test.YtddgkoheihlbdaaBox
import Derived.Test.YtddgkoheihlbdaaFld1
namespace Go.Proofs.Ytddgkoheihlbdaa
open Go.RowKit

/-- the cells of sixteen limbs -/
def fArr (f : Nat → Nat) : Array Value := ((List.range 16).map fun j => Value.int .u64 (f j : Nat)).toArray
theorem fArr_get (f : Nat → Nat) (j : Nat) (h : j < 16) : (fArr f)[j]? = some (.int .u64 (f j : Nat)) := by
  simp [fArr, List.getElem?_map, List.getElem?_range h]
theorem fArr_size (f : Nat → Nat) : (fArr f).size = 16 := by simp [fArr]
theorem fArr_set (f : Nat → Nat) (i v : Nat) : (fArr f).setIfInBounds i (.int .u64 (v : Nat)) = fArr (upd f i v) := by
  apply Array.ext
  · simp [fArr]
  · intro j h1 h2
    simp only [fArr, List.size_toArray, List.length_map, List.length_range] at h2
    rw [Array.getElem_setIfInBounds (by simpa [fArr] using h2)]
    by_cases hj : i = j
    · subst hj; simp [fArr, upd]
    · rw [if_neg hj]; simp [fArr, upd, show ¬ j = i from fun e => hj e.symm]
theorem fArr_congr {f g : Nat → Nat} (h : ∀ j, j < 16 → f j = g j) : fArr f = fArr g := by
  unfold fArr
  congr 1
  apply List.map_congr_left
  intro j hj
  rw [h j (by simpa using hj)]
theorem fArr_one (f : Nat → Nat) : (fArr f).all (·.oneCell') = true := all_oneCell_toArray (fun v hv => by simp at hv; obtain ⟨j, _, rfl⟩ := hv; rfl)
theorem upd_upd (f : Nat → Nat) (i v u : Nat) : upd (upd f i v) i u = upd f i u := by funext j; unfold upd; split <;> rfl
theorem fArr_zero : fArr (fun _ => 0) = Array.replicate 16 (Value.int .u64 0) := by
  apply Array.ext
  · simp [fArr]
  · intro j h1 h2; simp [fArr]

def turns (f : Nat → Nat) : Nat → Nat → Nat | 0 => f | t + 1 => turn (turns f t)
theorem turns_bd {f : Nat → Nat} (h : ∀ j, j < 16 → f j < 140737488355328) : ∀ t j, j < 16 → turns f t j < 140737488355328
  | 0 => h
  | t + 1 => turn_bd _ (turns_bd h t)

set_option maxRecDepth 100000 in
set_option maxHeartbeats 4000000 in
theorem fit_any (f : Nat → Nat) (w : World) (h : ∀ j, j < 16 → f j < 140737488355328) :
    Calls Try.prog 62 #[.agg (fArr f)] w fun e w' => e = .returned (.agg (fArr (dig (fval f 16 % P25)))) ∧ Below w.heap.size w w' := by
  obtain ⟨R, hR⟩ : ∃ R, R = fArr (dig (fval f 16 % P25)) := ⟨_, rfl⟩
  rw [← hR]
  have HR := Lib.hid hR
  have HH := Lib.hid h
  have HT := Lib.hid (turns_ok f h)
  clear hR h
  obtain ⟨C0, hC0⟩ : ∃ C0, C0 = fArr f := ⟨_, rfl⟩
  rw [← hC0]
  have HC0 := Lib.hid hC0
  clear hC0
  go_enter Try.func62, Try.ntmps62
  go_wp2_with fail
  obtain ⟨Z, hZ⟩ : ∃ Z, Z = Array.replicate 16 (Value.int .u64 0) := ⟨_, rfl⟩
  have g0 : Box ((w.alloc (.cells C0 34)).alloc (.cells (Array.replicate 16 (Value.int .u64 0)) 34)) w.heap.size 34 C0 := (Box.new _ _ _).alloc _
  have g1 : Box ((w.alloc (.cells C0 34)).alloc (.cells (Array.replicate 16 (Value.int .u64 0)) 34)) (w.heap.size + 1) 34 (Array.replicate 16 (Value.int .u64 0)) := heap_alloc2_new _ _ _
  have g2 : Below w.heap.size w ((w.alloc (.cells C0 34)).alloc (.cells (Array.replicate 16 (Value.int .u64 0)) 34)) := ((Below.refl w.heap.size w).alloc (Nat.le_refl _) _).alloc (by simp) _
  have g3 : w.heap.size + 2 ≤ ((w.alloc (.cells C0 34)).alloc (.cells (Array.replicate 16 (Value.int .u64 0)) 34)).heap.size := by simp
  change Code.wp _ _ _ _ ((w.alloc (.cells C0 34)).alloc (.cells (Array.replicate 16 (Value.int .u64 0)) 34))
  generalize ((w.alloc (.cells C0 34)).alloc (.cells (Array.replicate 16 (Value.int .u64 0)) 34)) = W at *
  rw [HC0.out] at g0
  rw [← hZ] at g1
  have hZs : Z.size = 16 := by rw [hZ]; simp
  have HZS := Lib.hid hZs
  clear hZ hZs
  go_loopw [3] (fun t wr => ∃ s : Nat, s ≤ 3 ∧ t = .int .i64 s ∧ Box wr w.heap.size 34 (fArr (turns f s)) ∧ Below w.heap.size w wr ∧ Box wr (w.heap.size + 1) 34 Z ∧ w.heap.size + 2 ≤ wr.heap.size) (fun t _ => 3 - (intOf t).toNat)
  case atStart => exact ⟨0, by omega, rfl, g0, g2, g1, g3⟩
  case round =>
    obtain ⟨wa, rfl⟩ : ∃ wa : World, wa = wr := ⟨_, rfl⟩
    obtain ⟨s, hs3, rfl, hX0, hrest0⟩ := hrel
    clear g0 g1 g2 g3
    have hbd := turns_bd HH.out s
    have HN := Lib.hid (show turns f (s + 1) = turn (turns f s) from rfl)
    obtain ⟨g, hg⟩ : ∃ g, g = turns f s := ⟨_, rfl⟩
    rw [← hg] at hX0 hbd HN
    have HG := Lib.hid hg
    clear hg
    by_cases hlts : s < 3
    · go_wp2_with fail
      go_loopw [4, 5] (fun c i wr => ∃ k : Nat, k ≤ 16 ∧ i = .int .i64 k ∧ c = .int .u64 (cr g k : Nat) ∧ Box wr w.heap.size 34 (fArr (pf g k)) ∧ Below w.heap.size w wr ∧ Box wr (w.heap.size + 1) 34 Z ∧ w.heap.size + 2 ≤ wr.heap.size) (fun _ i _ => 16 - (intOf i).toNat)
      case atStart => exact ⟨0, by omega, rfl, rfl, by rw [pf_zero]; exact hX0, hrest0⟩
      case round =>
        obtain ⟨wb, rfl⟩ : ∃ wb : World, wb = wr := ⟨_, rfl⟩
        obtain ⟨k, hk, rfl, rfl, hX, hrest⟩ := hrel
        by_cases hlt : k < 16
        · have gx := hX.cell k (fArr_get (pf g k) k hlt)
          rw [pf_here] at gx
          have fx := hX.frozen k
          have bx := hbd k hlt
          have bc := cr_lt (M := 2147483648) (fun j hj => by have := hbd j hj; omega) k hk
          have hs := pf_step g k
          have hn : nf g k = (g k + cr g k) % 65536 := rfl
          have hc : cr g (k + 1) = (g k + cr g k) / 65536 := rfl
          obtain ⟨x, hx⟩ : ∃ x, x = g k := ⟨_, rfl⟩
          obtain ⟨c, hcc⟩ : ∃ c, c = cr g k := ⟨_, rfl⟩
          rw [← hx] at gx bx hn hc
          rw [← hcc] at bc hn hc ⊢
          obtain ⟨t, ht⟩ : ∃ t, t = x + c := ⟨_, rfl⟩
          rw [← ht] at hn hc
          have e1 : (x : Int) + (c : Int) = (t : Int) := by omega
          have bt : t < 140741783322624 + 1 := by omega
          obtain ⟨q, hq⟩ : ∃ q, q = t / 65536 := ⟨_, rfl⟩
          obtain ⟨r, hr⟩ : ∃ r, r = t % 65536 := ⟨_, rfl⟩
          have e2 : (t : Int) / 65536 = (q : Int) := by omega
          have e3 : (t : Int) % 65536 = (r : Int) := by omega
          have HQ := Lib.hid (show cr g (k + 1) = q by rw [hc, hq])
          have HS := Lib.hid (show upd (pf g k) k r = pf g (k + 1) by rw [← hs, hn, hr])
          clear hs hn hc hx hcc ht hq hr
          go_wp2_with fail
          refine ⟨⟨k + 1, by omega, by go_num, by rw [HQ.out], ?_, ?_⟩, by simp [intOf]; omega⟩
          · have h1 := (hX.set k (.int .u64 (t : Nat))).set k (.int .u64 (r : Nat))
            rw [fArr_set, fArr_set, upd_upd, HS.out] at h1
            exact h1
          · exact ⟨(hrest.1.setCell (by simp) _).setCell (by simp) _, (hrest.2.1.far _ _ (by simp)).far _ _ (by simp), by simpa using hrest.2.2⟩
        · obtain rfl : k = 16 := by omega
          have p15 : pf g 16 15 = nf g 15 := rfl
          have p0 : pf g 16 0 = nf g 0 := rfl
          have x15 := hX.cell 15 (fArr_get (pf g 16) 15 (by omega))
          have x0 := hX.cell 0 (fArr_get (pf g 16) 0 (by omega))
          have f15 := hX.frozen 15
          have f0 := hX.frozen 0
          rw [p15] at x15
          rw [p0] at x0
          have b15 := nf_lt g 15
          have b0 := nf_lt g 0
          have bc := cr_lt (M := 2147483648) (fun j hj => by have := hbd j hj; omega) 16 (Nat.le_refl _)
          have ho : over g = 2 * cr g 16 + nf g 15 / 32768 := rfl
          have ht0 : turn g 0 = nf g 0 + 19 * over g := rfl
          have ht15 : turn g 15 = nf g 15 % 32768 := rfl
          have htt : ∀ j, j < 16 → upd (upd (pf g 16) 15 (turn g 15)) 0 (turn g 0) j = turn g j := fun j hj => by
            unfold upd
            by_cases h0 : j = 0
            · rw [if_pos h0, h0]
            · rw [if_neg h0]
              by_cases h15 : j = 15
              · rw [if_pos h15, h15]
              · rw [if_neg h15]; unfold pf turn; rw [if_pos hj, if_neg h0, if_neg h15]
          obtain ⟨c, hc⟩ : ∃ c, c = cr g 16 := ⟨_, rfl⟩
          obtain ⟨u, hu⟩ : ∃ u, u = nf g 15 := ⟨_, rfl⟩
          obtain ⟨v, hv⟩ : ∃ v, v = nf g 0 := ⟨_, rfl⟩
          obtain ⟨o, hoo⟩ : ∃ o, o = over g := ⟨_, rfl⟩
          obtain ⟨z, hz⟩ : ∃ z, z = turn g 0 := ⟨_, rfl⟩
          obtain ⟨y, hy⟩ : ∃ y, y = turn g 15 := ⟨_, rfl⟩
          rw [← hc, ← hu, ← hoo] at ho
          rw [← hz, ← hv, ← hoo] at ht0
          rw [← hy, ← hu] at ht15
          rw [← hy, ← hz] at htt
          rw [← hu] at x15 b15
          rw [← hv] at x0 b0
          rw [← hc] at bc ⊢
          obtain ⟨m, hm⟩ : ∃ m, m = u / 32768 := ⟨_, rfl⟩
          have e1 : 2 * (c : Int) + (m : Int) = (o : Int) := by omega
          have e2 : (u : Int) / 32768 = (m : Int) := by omega
          have e3 : (u : Int) % 32768 = (y : Int) := by omega
          have e4 : (v : Int) + 19 * (o : Int) = (z : Int) := by omega
          have bo : o ≤ 8589934594 := by omega
          have bm : m ≤ 2 := by omega
          have HTT := Lib.hid (fArr_congr htt)
          clear htt ho ht0 ht15 hc hu hv hoo hz hy hm p15 p0
          go_wp2_with fail
          refine ⟨⟨s + 1, by omega, by go_num, ?_, ?_⟩, by simp [intOf]; omega⟩
          · have h1 := (hX.set 15 (.int .u64 (y : Nat))).set 0 (.int .u64 (z : Nat))
            rw [fArr_set, fArr_set, HTT.out] at h1
            rw [HN.out]
            exact h1
          · exact ⟨(hrest.1.setCell (by simp) _).setCell (by simp) _, (hrest.2.1.far _ _ (by simp)).far _ _ (by simp), by simpa using hrest.2.2⟩
    · obtain rfl : s = 3 := by omega
      have HV : Hid (fval g 16 < 57896044618658097711785492504343953926634992332820282019728792003956564819968 ∧ fval g 16 % P25 = fval f 16 % P25) := by rw [HG.out]; exact HT.out
      clear HN
      go_wp2_with fail
      go_loopw [7, 8] (fun c i wr => ∃ k : Nat, k ≤ 16 ∧ i = .int .i64 k ∧ c = .int .u64 (cr g k : Nat) ∧ Box wr w.heap.size 34 (fArr (pf g k)) ∧ Below w.heap.size w wr ∧ Box wr (w.heap.size + 1) 34 Z ∧ w.heap.size + 2 ≤ wr.heap.size) (fun _ i _ => 16 - (intOf i).toNat)
      case atStart => exact ⟨0, by omega, rfl, rfl, by rw [pf_zero]; exact hX0, hrest0⟩
      case round =>
        obtain ⟨wb, rfl⟩ : ∃ wb : World, wb = wr := ⟨_, rfl⟩
        obtain ⟨k, hk, rfl, rfl, hX, hrest⟩ := hrel
        by_cases hlt : k < 16
        · have gx := hX.cell k (fArr_get (pf g k) k hlt)
          rw [pf_here] at gx
          have fx := hX.frozen k
          have bx := hbd k hlt
          have bc := cr_lt (M := 2147483648) (fun j hj => by have := hbd j hj; omega) k hk
          have hs := pf_step g k
          have hn : nf g k = (g k + cr g k) % 65536 := rfl
          have hc : cr g (k + 1) = (g k + cr g k) / 65536 := rfl
          obtain ⟨x, hx⟩ : ∃ x, x = g k := ⟨_, rfl⟩
          obtain ⟨c, hcc⟩ : ∃ c, c = cr g k := ⟨_, rfl⟩
          rw [← hx] at gx bx hn hc
          rw [← hcc] at bc hn hc ⊢
          obtain ⟨t, ht⟩ : ∃ t, t = x + c := ⟨_, rfl⟩
          rw [← ht] at hn hc
          have e1 : (x : Int) + (c : Int) = (t : Int) := by omega
          have bt : t < 140741783322624 + 1 := by omega
          obtain ⟨q, hq⟩ : ∃ q, q = t / 65536 := ⟨_, rfl⟩
          obtain ⟨r, hr⟩ : ∃ r, r = t % 65536 := ⟨_, rfl⟩
          have e2 : (t : Int) / 65536 = (q : Int) := by omega
          have e3 : (t : Int) % 65536 = (r : Int) := by omega
          have HQ := Lib.hid (show cr g (k + 1) = q by rw [hc, hq])
          have HS := Lib.hid (show upd (pf g k) k r = pf g (k + 1) by rw [← hs, hn, hr])
          clear hs hn hc hx hcc ht hq hr
          go_wp2_with fail
          refine ⟨⟨k + 1, by omega, by go_num, by rw [HQ.out], ?_, ?_⟩, by simp [intOf]; omega⟩
          · have h1 := (hX.set k (.int .u64 (t : Nat))).set k (.int .u64 (r : Nat))
            rw [fArr_set, fArr_set, upd_upd, HS.out] at h1
            exact h1
          · exact ⟨(hrest.1.setCell (by simp) _).setCell (by simp) _, (hrest.2.1.far _ _ (by simp)).far _ _ (by simp), by simpa using hrest.2.2⟩
        · obtain rfl : k = 16 := by omega
          have hXd : ∀ j, j < 16 → pf g 16 j = dig (fval g 16) j := fun j hj => by
            rw [← nf_dig g (by have := HV.out.1; omega) j hj]; unfold pf; rw [if_pos hj]
          obtain ⟨v, hv⟩ : ∃ v, v = fval g 16 := ⟨_, rfl⟩
          rw [← hv] at hXd HV
          have HVL := Lib.hid HV.out.1
          have HVR := Lib.hid (show R = fArr (dig (v % P25)) by rw [HR.out, HV.out.2])
          clear hv HV
          obtain ⟨X, hXe⟩ : ∃ X, X = pf g 16 := ⟨_, rfl⟩
          rw [← hXe] at hXd hX
          have HXD := Lib.hid hXd
          clear hXe hXd hX0 hbd hrest0
          go_upto_region 21 with fail
          go_step
          refine wpList_load_box rfl 34 _ rfl hX (by rfl) Try.underlying34 rfl (by rw [fArr_size]; kernel_rfl) ?_
          refine wpList_alloc_box rfl 34 rfl (Array.replicate 16 (Value.int .u64 0)) (by intro w; simp [go_sem]; rfl) ?_
          refine wpList_store_box rfl 34 _ _ rfl (Box.new _ _ _) (by rfl) (by rfl) (by simp [fArr_size]) (by rw [fArr_size]; kernel_rfl) (fArr_one _) ?_
          intro w2 hY2 hst
          simp only [Act.put, List.setIfInBounds_toArray, List.set_cons_zero, List.set_cons_succ]
          have hO : w.heap.size + 2 ≤ wb.heap.size := hrest.2.2
          have hX2 := hst.box (hX.alloc _) (Nat.ne_of_lt hX.lt)
          have hZ2 := hst.box (hrest.2.1.alloc _) (Nat.ne_of_lt hrest.2.1.lt)
          have hB2 := hst.below _ _ (by omega) (hrest.1.alloc (by omega) _)
          have hS2 : wb.heap.size + 1 = w2.heap.size := by have := hst.size; simp at this; omega
          clear hst hX hrest
          generalize wb.heap.size = O at *
          have y0 := hY2.cell 0 (fArr_get X 0 (by omega))
          have yf := hY2.frozen 0
          have hXl : ∀ j, j < 16 → X j < 65536 := fun j hj => by rw [HXD.out j hj]; exact dig_lt _ _
          have x0l := hXl 0 (by omega)
          have hp0 : upd X 0 (X 0 + 19) = plus19 X := by
            funext j; unfold upd plus19; split <;> simp
          have hpv := plus19_val X
          have hpb : ∀ j, j < 16 → plus19 X j < 140737488355328 := fun j hj => by
            have := hXl j hj
            unfold plus19; split <;> omega
          obtain ⟨xz, hxz⟩ : ∃ xz, xz = X 0 := ⟨_, rfl⟩
          rw [← hxz] at y0 x0l hp0
          obtain ⟨z, hz⟩ : ∃ z, z = xz + 19 := ⟨_, rfl⟩
          rw [← hz] at hp0
          have e1 : (xz : Int) + 19 = (z : Int) := by omega
          have hY3 := hY2.set 0 (.int .u64 (z : Nat))
          rw [fArr_set, hp0] at hY3
          have hX3 : Box (w2.setCell ⟨O, 0, none⟩ (.int .u64 (z : Nat))) w.heap.size 34 (fArr X) := hX2.far _ _ (by simp; omega)
          have hZ3 : Box (w2.setCell ⟨O, 0, none⟩ (.int .u64 (z : Nat))) (w.heap.size + 1) 34 Z := hZ2.far _ _ (by simp; omega)
          have hB3 : Below w.heap.size w (w2.setCell ⟨O, 0, none⟩ (.int .u64 (z : Nat))) := hB2.setCell (by simp; omega) _
          have hS3 : w.heap.size + 2 ≤ (w2.setCell ⟨O, 0, none⟩ (.int .u64 (z : Nat))).heap.size := by simp; omega
          have HPV := Lib.hid hpv
          have HXL := Lib.hid hXl
          clear hp0 hpv hxz hz hX2 hZ2 hB2 hY2 hXl
          obtain ⟨Y, hYe⟩ : ∃ Y, Y = plus19 X := ⟨_, rfl⟩
          rw [← hYe] at hY3 hpb HPV
          have HYE := Lib.hid hYe
          clear hYe
          go_wp2_with fail
          generalize w2.setCell ⟨O, 0, none⟩ (.int .u64 (z : Nat)) = W3 at *
          clear hS2 y0 yf
          go_loopw [7, 10] (fun c i wr => ∃ k : Nat, k ≤ 16 ∧ i = .int .i64 k ∧ c = .int .u64 (cr Y k : Nat) ∧ Box wr O 34 (fArr (pf Y k)) ∧ Below w.heap.size w wr ∧ Box wr (w.heap.size + 1) 34 Z ∧ w.heap.size + 2 ≤ wr.heap.size ∧ Box wr w.heap.size 34 (fArr X)) (fun _ i _ => 16 - (intOf i).toNat)
          case atStart => exact ⟨0, by omega, rfl, rfl, by rw [pf_zero]; exact hY3, ⟨hB3, hZ3, hS3, hX3⟩⟩
          case round =>
            obtain ⟨wb, rfl⟩ : ∃ wb : World, wb = wr := ⟨_, rfl⟩
            obtain ⟨k, hk, rfl, rfl, hX, hrest⟩ := hrel
            by_cases hlt : k < 16
            · have gx := hX.cell k (fArr_get (pf Y k) k hlt)
              rw [pf_here] at gx
              have fx := hX.frozen k
              have bx := hpb k hlt
              have bc := cr_lt (M := 2147483648) (fun j hj => by have := hpb j hj; omega) k hk
              have hs := pf_step Y k
              have hn : nf Y k = (Y k + cr Y k) % 65536 := rfl
              have hc : cr Y (k + 1) = (Y k + cr Y k) / 65536 := rfl
              obtain ⟨x, hx⟩ : ∃ x, x = Y k := ⟨_, rfl⟩
              obtain ⟨c, hcc⟩ : ∃ c, c = cr Y k := ⟨_, rfl⟩
              rw [← hx] at gx bx hn hc
              rw [← hcc] at bc hn hc ⊢
              obtain ⟨t, ht⟩ : ∃ t, t = x + c := ⟨_, rfl⟩
              rw [← ht] at hn hc
              have e1 : (x : Int) + (c : Int) = (t : Int) := by omega
              have bt : t < 140741783322624 + 1 := by omega
              obtain ⟨q, hq⟩ : ∃ q, q = t / 65536 := ⟨_, rfl⟩
              obtain ⟨r, hr⟩ : ∃ r, r = t % 65536 := ⟨_, rfl⟩
              have e2 : (t : Int) / 65536 = (q : Int) := by omega
              have e3 : (t : Int) % 65536 = (r : Int) := by omega
              have HQ := Lib.hid (show cr Y (k + 1) = q by rw [hc, hq])
              have HS := Lib.hid (show upd (pf Y k) k r = pf Y (k + 1) by rw [← hs, hn, hr])
              clear hs hn hc hx hcc ht hq hr
              go_wp2_with fail
              refine ⟨⟨k + 1, by omega, by go_num, by rw [HQ.out], ?_, ?_⟩, by simp [intOf]; omega⟩
              · have h1 := (hX.set k (.int .u64 (t : Nat))).set k (.int .u64 (r : Nat))
                rw [fArr_set, fArr_set, upd_upd, HS.out] at h1
                exact h1
              · exact ⟨(hrest.1.setCell (by simp; omega) _).setCell (by simp; omega) _, (hrest.2.1.far _ _ (by simp; omega)).far _ _ (by simp; omega), by simpa using hrest.2.2.1, (hrest.2.2.2.far _ _ (by simp; omega)).far _ _ (by simp; omega)⟩
            · obtain rfl : k = 16 := by omega
              have hfx : fval X 16 = v := by
                rw [fval_congr 16 HXD.out, fval_of_dig]
                exact Nat.mod_eq_of_lt (by simp only [Nat.reducePow]; have := HVL.out; omega)
              have hYd : ∀ j, j < 16 → pf Y 16 j = dig (v + 19) j := fun j hj => by
                have hval : fval Y 16 = v + 19 := by rw [HPV.out, hfx]
                rw [← hval, ← nf_dig Y (by rw [hval]; have := HVL.out; omega) j hj]; unfold pf; rw [if_pos hj]
              obtain ⟨E, hE⟩ : ∃ E, E = pf Y 16 := ⟨_, rfl⟩
              rw [← hE] at hYd hX
              have hend := fit_end v HVL.out X E HXD.out hYd
              have he := hX.cell 15 (fArr_get E 15 (by omega))
              have hef := hX.frozen 15
              have hel : E 15 < 65536 := by rw [hYd 15 (by omega)]; exact dig_lt _ _
              have hlu : upd E 15 (E 15 - 32768) = less15 E := by funext j; unfold upd less15; split <;> simp
              obtain ⟨e, hee⟩ : ∃ e, e = E 15 := ⟨_, rfl⟩
              rw [← hee] at he hel hlu hend
              clear hE hYd hY3 hX3 hZ3 hB3 hS3 hee hfx
              have hZb := hrest.2.1
              have hBb := hrest.1
              have hXb := hrest.2.2.2
              clear hrest
              generalize cr Y 16 = c9
              by_cases hge : 32768 ≤ e
              · have HEND := Lib.hid (fArr_congr (hend.1 hge))
                obtain ⟨d, hd⟩ : ∃ d, d = e - 32768 := ⟨_, rfl⟩
                rw [← hd] at hlu
                have e2 : (e : Int) - 32768 = (d : Int) := by omega
                have hD := hX.set 15 (.int .u64 (d : Nat))
                rw [fArr_set, hlu, HEND.out, ← HVR.out] at hD
                have hZd : Box (wb.setCell ⟨O, 15, none⟩ (.int .u64 (d : Nat))) (w.heap.size + 1) 34 Z := hZb.far _ _ (by simp; omega)
                have hBd : Below w.heap.size w (wb.setCell ⟨O, 15, none⟩ (.int .u64 (d : Nat))) := hBb.setCell (by simp; omega) _
                have hRs : R.size = 16 := by rw [HVR.out]; exact fArr_size _
                have hR1 : R.all (·.oneCell') = true := by rw [HVR.out]; exact fArr_one _
                have HD := Lib.hid hD
                have HRS := Lib.hid hRs
                have HR1 := Lib.hid hR1
                clear hR1
                clear hd hlu hend hD hX hXb hZb hRs
                go_upto_if 101 with fail
                rw [show decide ((32768 : Int) ≤ (e : Int)) = true by rw [decide_eq_true_eq]; omega]
                go_upto_region 32 with fail
                generalize wb.setCell ⟨O, 15, none⟩ (.int .u64 (d : Nat)) = W4 at *
                go_step
                refine wpList_load_box rfl 34 _ rfl HD.out (by rfl) Try.underlying34 rfl (by rw [HRS.out]; kernel_rfl) ?_
                refine wpList_store_box rfl 34 _ _ rfl hZd (by rfl) (by rfl) (by rw [HZS.out, HRS.out]) (by rw [HRS.out]; kernel_rfl) HR1.out ?_
                intro w5 hY5 hst5
                have hB5 := hst5.below _ _ (by omega) hBd
                clear hst5 hZd hBd HD
                simp only [Act.put, List.setIfInBounds_toArray, List.set_cons_zero, List.set_cons_succ]
                go_wp2_with fail
                exact bodyPost_ret (v := .agg R) (box_result rfl _ _ (by rfl) hY5 Try.underlying34 rfl (by rw [HRS.out]; kernel_rfl)) rfl ⟨rfl, hB5⟩
              · have HEND := Lib.hid (fArr_congr (hend.2 (by omega)))
                have hR' : Box wb w.heap.size 34 R := by rw [HVR.out, ← HEND.out]; exact hXb
                have hRs : R.size = 16 := by rw [HVR.out]; exact fArr_size _
                have hR1 : R.all (·.oneCell') = true := by rw [HVR.out]; exact fArr_one _
                have HD := Lib.hid hR'
                have HRS := Lib.hid hRs
                have HR1 := Lib.hid hR1
                clear hR1
                clear hlu hend hR' hX hXb hRs
                go_upto_if 101 with fail
                rw [show decide ((32768 : Int) ≤ (e : Int)) = false by rw [decide_eq_false_iff_not]; omega]
                go_upto_region 33 with fail
                go_step
                refine wpList_load_box rfl 34 _ rfl HD.out (by rfl) Try.underlying34 rfl (by rw [HRS.out]; kernel_rfl) ?_
                refine wpList_store_box rfl 34 _ _ rfl hZb (by rfl) (by rfl) (by rw [HZS.out, HRS.out]) (by rw [HRS.out]; kernel_rfl) HR1.out ?_
                intro w5 hY5 hst5
                have hB5 := hst5.below _ _ (by omega) hBb
                clear hst5 hZb hBb HD
                simp only [Act.put, List.setIfInBounds_toArray, List.set_cons_zero, List.set_cons_succ]
                go_wp2_with fail
                exact bodyPost_ret (v := .agg R) (box_result rfl _ _ (by rfl) hY5 Try.underlying34 rfl (by rw [HRS.out]; kernel_rfl)) rfl ⟨rfl, hB5⟩
end Go.Proofs.Ytddgkoheihlbdaa

/- scalar: Reduce: what it computes. -/
import Derived.Test.YtpkoniebbkkmjaaSc3Mg
namespace Go.Proofs.Ytpkoniebbkkmjaa
open Go.RowKit Go.Shelf

attribute [local go_sem] Oper.semAt_some

/-- the rest of what has come -/
def redN (pre : List (Nat × UInt8)) : Nat := pre.foldl (fun a x => (256 * a + x.2.toNat) % LL) 0
theorem redN_snoc (pre : List (Nat × UInt8)) (x : Nat × UInt8) : redN (pre ++ [x]) = (256 * redN pre + x.2.toNat) % LL := by simp [redN]
theorem redN_lt : ∀ pre, redN pre < LL := fun pre => by
  rcases List.eq_nil_or_concat pre with rfl | ⟨q, x, rfl⟩
  · simp [redN, LL]
  · rw [List.concat_eq_append, redN_snoc]; exact Nat.mod_lt _ (by unfold LL; omega)
theorem redN_upto (bs : List UInt8) : ∀ k, k ≤ bs.length → redN (upto (bk bs) k) = leNat (bs.drop (bs.length - k)) % LL
  | 0, _ => by simp [upto, redN, leNat]
  | k + 1, h => by
    rw [upto_succ, redN_snoc, redN_upto bs k (by omega)]
    have e : bs.drop (bs.length - (k + 1)) = bs.getD (bs.length - (k + 1)) 0 :: bs.drop (bs.length - k) := by
      rw [List.drop_eq_getElem_cons (by omega), show bs.length - (k + 1) + 1 = bs.length - k by omega]
      simp [show bs.length - (k + 1) < bs.length by omega]
    rw [e, mod_step]
    simp only [bk, leNat]
    rw [Nat.add_comm]
theorem redN_all (bs : List UInt8) : redN (upto (bk bs) bs.length) = leNat bs % LL := by
  rw [redN_upto bs _ (Nat.le_refl _), Nat.sub_self, List.drop_zero]

theorem keepsOthers_below {W W' : World} (h : Below W.heap.size W W') : KeepsOthers W W' := ⟨h.size, fun l _ hl _ => (h.block l (Array.getElem?_eq_some_iff.1 hl).1).trans hl⟩

theorem wpIn_of_wp {P : Program} {o : Oper} {a : Act} {w : World} {K : Act → World → Prop} {Q : Exit → Act → World → Prop} {l n : Nat} (hd : ∀ c, o.op ≠ .defer c) (h : o.wp P a w K Q) : o.wpIn (Fence.wide.inRound l) n P a w K Q := by
  refine ⟨fun _ _ => trivial, ?_⟩
  rw [Oper.semAt_eq _ _ _ hd]
  unfold Oper.wp at h
  generalize (execOp a.eval o).run P w = r at *
  cases r with
  | halt x w' => cases x <;> simp only [Oper.upon, Oper.uponIn] at h ⊢ <;> exact h
  | ok x w' =>
    cases x <;> simp only [Oper.upon, Oper.uponIn] at h ⊢
    case value v => exact h
    case skip => exact h
    case defer d => exact h
    case enter f args => exact ⟨fun hx => by simp [Fence.wide, Fence.inRound] at hx, (callsIn_wide (n := n - 1)).2 h⟩
    case row row args => exact ⟨fun hx => by simp [Fence.wide, Fence.inRound] at hx, fun c cs _ => let ⟨v, w', r, s⟩ := h c cs; ⟨v, w', r, stepsIn_wide.2 s⟩⟩

/-- no operation of a list is a defer statement -/
def noDefer (l : List Oper) : Bool := l.all fun o => match o.op with | .defer _ => false | _ => true
theorem wpListIn_of_wpList {P : Program} {ops : Array Oper} {Q : Exit → Act → World → Prop} {r n : Nat} (hL : ¬ LetsOut Q) : ∀ (l : List Oper) (a : Act) (w : World), noDefer l = true → wpList P ops Q l a w → wpListIn (Fence.wide.inRound r) n P ops Q l a w
  | [], _, _, _, h => h
  | o :: l, a, w, hd, h => by
    unfold wpList at h
    unfold wpListIn
    simp only [noDefer, List.all_cons, Bool.and_eq_true] at hd
    have hd0 : ∀ c, o.op ≠ .defer c := fun c hc => by have := hd.1; rw [hc] at this; cases this
    split
    · rename_i hw
      rw [if_pos hw] at h
      exact wpIn_of_wp hd0 (Oper.wp_mono (fun a' w' h' => wpListIn_of_wpList hL l a' w' hd.2 h') (h.resolve_right fun x => hL x.2))
    · rename_i hw
      rw [if_neg hw] at h
      exact ⟨fun _ _ => trivial, wpListIn_of_wpList hL l _ _ hd.2 h⟩

theorem keepsOthers_stored {w w' : World} {g : Nat} {T : TypeId} {cs : Array Value} (h : Stored w w' g) (hg : Box w g T cs) : KeepsOthers w w' := ⟨by rw [h.size]; exact Nat.le_refl _, fun l o hl ho => by
  refine (h.other l fun e => ?_).trans hl
  subst e
  unfold Box at hg
  rw [hg] at hl
  cases hl
  simp [Obj.isCells] at ho⟩

theorem wArr_lit (f : Nat → Nat) : wArr f = #[.int .u64 (f 0 : Nat), .int .u64 (f 1 : Nat), .int .u64 (f 2 : Nat), .int .u64 (f 3 : Nat)] := rfl
theorem ownFrom_box {β : Type} {B g : Nat} {T : TypeId} (f : β → Array Value) : OwnFrom B (fun (s : β) W => Box W g T (f s)) := fun s W W' row hs hg hr => by
  refine (hg.block g (Box.lt hs) fun e => ?_).trans hs
  obtain ⟨_, o, ho, hc⟩ := hr g e.symm
  unfold Box at hs
  rw [hs] at ho
  cases ho
  simp [Obj.isCells] at hc

set_option maxRecDepth 100000 in
set_option maxHeartbeats 4000000 in
theorem reduce_any (a : Option Addr) (len cap : Nat) (bs : List UInt8) (w : World) (hs : Sl w a len cap bs) :
    Calls Try.prog 25 #[.slice a len cap] w fun e w' => e = .returned (.agg (bts_s (leNat bs % LL))) ∧ Below w.heap.size w w' := by
  rw [← redN_all]
  have hlo := hs.lt
  obtain ⟨Z, hZ⟩ : ∃ Z, Z = wArr (wd 0) := ⟨_, rfl⟩
  obtain ⟨N, hN⟩ : ∃ N, N = bts_s 0 := ⟨_, rfl⟩
  have HNS := Lib.hid (show N.size = 32 by rw [hN]; simp [bts_s, lCells, leBytes])
  refine (callsIn_wide (n := 6)).1 ?_
  refine callsIn_of_wp_marks Try.func25 rfl trivial ?_ rfl
  simp only [Try.ntmps25, List.size_toArray, List.length_cons, List.length_nil, Nat.reduceAdd, Nat.reduceSub, Array.replicate_succ, Array.replicate_zero, List.push_toArray, List.append_toArray, List.nil_append, List.cons_append]
  gi_wp2_with (refine ⟨trivial, ?_⟩; gi_at_call 51; refine (back_in Fence.wide _ trivial rfl _ _ _ _).mono ?_; rintro e w' ⟨rfl, rfl⟩)
  have eN : bts_s 0 = #[Value.int .u8 0, Value.int .u8 0, Value.int .u8 0, Value.int .u8 0, Value.int .u8 0, Value.int .u8 0, Value.int .u8 0, Value.int .u8 0, Value.int .u8 0, Value.int .u8 0, Value.int .u8 0, Value.int .u8 0, Value.int .u8 0, Value.int .u8 0, Value.int .u8 0, Value.int .u8 0, Value.int .u8 0, Value.int .u8 0, Value.int .u8 0, Value.int .u8 0, Value.int .u8 0, Value.int .u8 0, Value.int .u8 0, Value.int .u8 0, Value.int .u8 0, Value.int .u8 0, Value.int .u8 0, Value.int .u8 0, Value.int .u8 0, Value.int .u8 0, Value.int .u8 0, Value.int .u8 0] := by kernel_rfl
  have eZ : wArr (wd 0) = #[.int .u64 0, .int .u64 0, .int .u64 0, .int .u64 0] := by kernel_rfl
  have hN' := hN
  have hZ' := hZ
  rw [eN] at hN'
  rw [eZ] at hZ'
  rw [← hN', ← hZ']
  have g0 : Box (((w.alloc (.cells N 39)).alloc (.cells Z 79)).alloc (.cells #[.slice a len cap] 22)) w.heap.size 39 N := ((Box.new _ _ _).alloc _).alloc _
  have g1 : Box (((w.alloc (.cells N 39)).alloc (.cells Z 79)).alloc (.cells #[.slice a len cap] 22)) (w.heap.size + 1) 79 Z := by
    have := (Box.new (w.alloc (.cells N 39)) 79 Z).alloc (.cells #[.slice a len cap] 22)
    simpa using this
  have g2 : Box (((w.alloc (.cells N 39)).alloc (.cells Z 79)).alloc (.cells #[.slice a len cap] 22)) (w.heap.size + 2) 22 #[.slice a len cap] := by
    have := Box.new ((w.alloc (.cells N 39)).alloc (.cells Z 79)) 22 #[.slice a len cap]
    simp only [World.size_alloc] at this
    exact this
  have g3 : Below w.heap.size w (((w.alloc (.cells N 39)).alloc (.cells Z 79)).alloc (.cells #[.slice a len cap] 22)) := (((Below.refl w.heap.size w).alloc (Nat.le_refl _) _).alloc (by simp) _).alloc (by simp; omega) _
  have g4 : w.heap.size + 3 ≤ (((w.alloc (.cells N 39)).alloc (.cells Z 79)).alloc (.cells #[.slice a len cap] 22)).heap.size := by simp
  clear hN' hZ' eN eZ
  generalize (((w.alloc (.cells N 39)).alloc (.cells Z 79)).alloc (.cells #[.slice a len cap] 22)) = W at *
  rw [hZ] at g1
  clear hZ hN
  have hsl := hs.below g3 hlo
  refine wpIn_rangeFunc_ownF rfl (by omega) (gf := 67) (lb := #[.pointer (some ⟨w.heap.size + 2, 0, none⟩)]) rfl trivial (enters_of Try.func67 (by kernel_rfl) rfl)
    (back_stops Fence.wide _ trivial rfl (by omega) (w.heap.size + 2) w.heap.size a len cap bs W (by omega) (by omega) (g2.cell 0 rfl) hsl hlo) (fun h k => h.trans k) (fun W' l o o' hl ho hc hw => ?keep) (Below.refl _ _) (fun _ => rfl)
    (fun pre W' => Box W' (w.heap.size + 1) 79 (wArr (wd (redN pre))) ∧ Below (w.heap.size + 1) W W')
    (fun _ _ _ => False)
    (OwnFrom.and (ownFrom_box _) (ownFrom_below (by omega) (by omega)))
    (fun _ _ _ _ _ hs _ _ => hs)
    ⟨g1, Below.refl _ _⟩
    (fun x => { tmps := #[.slice a len cap, undef, .pointer (some ⟨w.heap.size, 0, none⟩), .pointer (some ⟨w.heap.size + 1, 0, none⟩), undef, .int .u8 (x.2.toNat : Int), .slice a len cap, .func (.func 67) #[] #[.pointer (some ⟨w.heap.size + 2, 0, none⟩)], .int .i64 (x.1 : Int), .int .u8 (x.2.toNat : Int), undef, undef, undef, undef, undef], defers := [] }) ?assign ?body ?done ?stop
  case keep =>
    refine ⟨belowK_b (w := W) (by omega) W' l o o' hl ho hc hw, fun v hv => ?_⟩
    exact ((belowK_b (n₀ := w.heap.size + 3) (w := W) g4 W' l o o' hl ho hc hw).cell (p := ⟨w.heap.size + 2, 0, none⟩) (by show w.heap.size + 2 < _; omega)).trans hv
  case assign =>
    intro l x W K hK
    gi_wp2
    exact hK
  case body =>
    rintro l pre ⟨q, c⟩ W1 ⟨hX, hB⟩ _
    have hlt := redN_lt pre
    have hc := c.toNat_lt
    have hR := Lib.hid (fun w : World => rest_any (redN pre) c.toNat w hlt (by omega))
    rw [← redN_snoc pre (q, c)] at hR
    obtain ⟨X, hXe⟩ : ∃ X, X = wArr (wd (redN pre)) := ⟨_, rfl⟩
    obtain ⟨Y, hYe⟩ : ∃ Y, Y = wArr (wd (redN (pre ++ [(q, c)]))) := ⟨_, rfl⟩
    rw [← hXe] at hX hR
    rw [← hYe] at hR
    have HXS := Lib.hid (show X.size = 4 by rw [hXe]; exact wArr_size _)
    have HYS := Lib.hid (show Y.size = 4 by rw [hYe]; exact wArr_size _)
    have HY1 := Lib.hid (show Y.all (·.oneCell') = true by rw [hYe]; exact wArr_one _)
    have HYE := Lib.hid hYe
    clear hXe hYe hlt
    refine wpIn_block ?_
    refine wpIn_region_lit ?_
    refine wpListIn_of_wpList (fun ⟨_, _, h⟩ => h) _ _ _ rfl ?_
    refine wpList_load_box rfl 79 _ rfl hX (by rfl) Try.underlying79 rfl (by rw [HXS.out]; kernel_rfl) ?_
    simp only [Act.put, List.setIfInBounds_toArray, List.set_cons_zero, List.set_cons_succ]
    refine wpList_value rfl (.int .u8 (c.toNat : Int)) (by simp [go_sem]) ?_
    simp only [Act.put, List.setIfInBounds_toArray, List.set_cons_zero, List.set_cons_succ]
    refine wpList_made_call rfl 52 #[.agg X, .int .u8 (c.toNat : Int)] (by simp [go_sem]) _ (hR.out _) ?_
    intro v1 bv1
    simp only [Act.put, List.setIfInBounds_toArray, List.set_cons_zero, List.set_cons_succ]
    have hX1 := hX.after bv1
    refine wpList_store_box (cells := Y) rfl 79 _ _ rfl hX1 (by rfl) (by rfl) (by rw [HXS.out, HYS.out]) (by rw [HYS.out]; kernel_rfl) HY1.out ?_
    intro v2 hX2 st2
    have hz := hB.size
    refine ⟨(keepsOthers_below bv1).trans (keepsOthers_stored st2 hX1), ⟨st2.below _ _ (by omega) (bv1.mono (by omega)), fun v hv => ?_⟩, by rw [← HYE.out]; exact hX2, st2.below _ _ (Nat.le_refl _) (hB.trans (bv1.mono (by omega)))⟩
    unfold World.cell?
    rw [st2.other _ (by simp)]
    exact (bv1.cell (p := ⟨w.heap.size + 2, 0, none⟩) (cell_lt hv)).trans hv
  case done =>
    rintro D ys W1 hD rfl ⟨hX, hB⟩ hK
    obtain ⟨X, hXe⟩ : ∃ X, X = wArr (wd (redN (upto (bk bs) bs.length))) := ⟨_, rfl⟩
    have HP := Lib.hid (fun w => put_any (redN (upto (bk bs) bs.length)) w)
    rw [← hXe] at hX HP
    obtain ⟨G, hG⟩ : ∃ G, G = bts_s (redN (upto (bk bs) bs.length)) := ⟨_, rfl⟩
    rw [← hG] at HP
    have HG := Lib.hid hG
    have HXS := Lib.hid (show X.size = 4 by rw [hXe]; exact wArr_size _)
    have HGS := Lib.hid (show G.size = 32 by rw [hG]; simp [bts_s, lCells, leBytes])
    have HG1 := Lib.hid (show G.all (·.oneCell') = true by rw [hG]; exact all_oneCell_toArray (fun v hv => by simp only [lCells, List.mem_map] at hv; obtain ⟨_, _, rfl⟩ := hv; rfl))
    clear hXe hG
    have hN := g0.below hB (by omega)
    rename_i _ _ a3
    refine a3 _ _ ?_
    refine wpIn_wide.2 ?_
    go_upto_region 5 with fail
    go_step
    refine wpList_load_box rfl 79 _ rfl hX (by rfl) Try.underlying79 rfl (by rw [HXS.out]; kernel_rfl) ?_
    simp only [Act.put, List.setIfInBounds_toArray, List.set_cons_zero, List.set_cons_succ]
    refine wpList_made_call rfl 53 #[.agg X] (by simp [go_sem]) _ (HP.out _) ?_
    intro v1 bv1
    simp only [Act.put, List.setIfInBounds_toArray, List.set_cons_zero, List.set_cons_succ]
    refine wpList_store_box (cells := G) rfl 39 _ _ rfl (hN.after bv1) (by rfl) (by rfl) (by rw [HNS.out, HGS.out]) (by rw [HGS.out]; kernel_rfl) HG1.out ?_
    intro v2 hR2 st2
    have hz := hB.size
    have hB2 := st2.below w.heap.size w (Nat.le_refl _) ((g3.trans (hB.mono (by omega))).trans (bv1.mono (by omega)))
    have hK2 : v2.heap[D]? = some (.deferred (some [])) := (st2.other D (by omega)).trans ((bv1.block D (Array.getElem?_eq_some_iff.1 hK).1).trans hK)
    clear st2 bv1 hX hN hK hB
    simp only [Act.put]
    go_wp2_with fail
    refine ⟨by simp, .inl ⟨_, _, rfl, run_takeDeferred hK2, ?_⟩⟩
    have hR3 : Box (v2.putObj D (.deferred none)) w.heap.size 39 G := (World.putObj_heap_other (by have := g1.lt; omega)).trans hR2
    exact ⟨.agg G, box_result rfl _ _ (by rfl) hR3 Try.underlying39 rfl (by rw [HGS.out]; kernel_rfl), by rw [HG.out], hB2.trans (belowK_b (w := w) (Nat.le_refl _) v2 D _ _ (by have := g1.lt; omega) hK2 rfl rfl)⟩
  case stop =>
    rintro D c pre W _ _ h _
    exact h.elim
end Go.Proofs.Ytpkoniebbkkmjaa

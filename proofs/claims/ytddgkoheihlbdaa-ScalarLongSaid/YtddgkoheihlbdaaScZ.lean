/- 'append(out, make([]byte, m)...)': noughts behind a slice of bytes that the call itself owns. -/
import Derived.Test.YtddgkoheihlbdaaScW1
namespace Go.Proofs.Ytddgkoheihlbdaa
open Go.RowKit

theorem zeros_list (m : Nat) : (Builtin.zeroCells #[Value.int .u8 0] m).toList = List.replicate m (Value.int .u8 0) := by
  apply List.ext_getElem
  · simp [Builtin.zeroCells]
  · intro i h1 h2; simp [Builtin.zeroCells, Nat.mod_one]

theorem run_append_zeros {P : Program} (w : World) (base : Nat) (t ti ty e : TypeId) (i : TypeInfo) (k : IntKind) (ht : P.underlying t = some (.slice e)) (hti : P.underlying ti = some (.int k)) (hi : P.info? e = some i) (hz : i.zero = some (.int .u8 0))
    (hsize : i.size = 1) (hby : i.bytes = 1) (v : Value) (n : Nat) (xs : List Value) (hown : w.ownsRow base e 1 v n xs) (m : Nat) (hm : m ≤ 1000) (hn : n ≤ 100000) (hbase : base ≤ w.heap.size) :
    ∃ v' w', (Builtin.append_ #[t, ti] ty #[v, .int k (m : Int)]).run P w = .ok v' w' ∧ w'.ownsRow base e 1 v' (n + m) (xs ++ List.replicate m (.int .u8 0)) ∧ w.grownBy w' v.ownBlock := by
  have hw : IntKind.i64.wrap (m : Int) = (m : Int) := by rw [IntKind.wrap_i64]; omega
  have hw0 : IntKind.i64.wrap 0 = 0 := by rw [IntKind.wrap_i64]; rfl
  have hvc : (Value.int .u8 0).cells = #[Value.int .u8 0] := rfl
  have hn0 : ¬ ((m : Int) < 0) := by omega
  have hb0 : ¬ ((281474976710656 : Int) < (m : Int)) := by omega
  have hlen : (xs ++ List.replicate m (Value.int .u8 0)).length = (n + m) * 1 := by rw [List.length_append, hown.1, List.length_replicate]; omega
  have hxl : xs.length = n := by simpa using hown.1
  have grown : ∀ (old : Nat), old < n + m → ∀ (row : Option Nat),
      (w.drew.alloc (.cells (xs.toArray ++ (Builtin.zeroCells #[Value.int .u8 0] m) ++ Builtin.zeroCells #[Value.int .u8 0] (grownCap w (n + m) old e - (n + m))) e)).ownsRow base e 1
        (.slice (some ⟨w.heap.size, 0, none⟩) (n + m) (grownCap w (n + m) old e)) (n + m) (xs ++ List.replicate m (.int .u8 0)) ∧
      w.grownBy (w.drew.alloc (.cells (xs.toArray ++ (Builtin.zeroCells #[Value.int .u8 0] m) ++ Builtin.zeroCells #[Value.int .u8 0] (grownCap w (n + m) old e - (n + m))) e)) row := by
    intro old ho row
    have hge := grownCap_ge w (n + m) old e
    have hcm : grownCap w (n + m) old e ≤ maxLen := grownCap_le_maxLen w (n + m) old e (by unfold maxLen; omega)
    refine ⟨⟨hlen, .inr ⟨w.heap.size, _, _, rfl, hbase, heap_alloc_new w.drew _, hge, hcm, ?_, ?_⟩⟩, ⟨rfl, rfl, rfl, by simp, fun k hk _ => heap_alloc_old w.drew _ hk⟩⟩
    · simp only [Array.size_append, List.size_toArray, size_zeroCells, hxl]
      simp
      omega
    · simp only [Array.toList_append, zeros_list]
      rw [← hlen]
      exact List.take_left
  by_cases hm0 : m = 0
  · subst hm0
    refine ⟨v, w, ?_, by simpa using hown, World.grownBy.refl w _⟩
    rcases hown.2 with ⟨rfl, rfl⟩ | ⟨g, cap, cur, rfl, hbg, hg, hnc, hcm, hcs, htake⟩
    · simp [Builtin.append_, run_underlying ht, run_underlying hti, sizeOf, typeInfo, hi, hby, asInt, asIntOf, hw0]
    · simp [Builtin.append_, run_underlying ht, run_underlying hti, sizeOf, typeInfo, hi, hby, asInt, asIntOf, hw0, hnc, storeCells]
  · rcases hown.2 with ⟨rfl, rfl⟩ | ⟨g, cap, cur, rfl, hbg, hg, hnc, hcm, hcs, htake⟩
    · have hx : xs = [] := List.eq_nil_of_length_eq_zero (by simpa using hown.1)
      subst hx
      have hgr := grown 0 (by omega) (Value.ownBlock (.slice none 0 0))
      refine ⟨_, _, ?_, hgr.1, hgr.2⟩
      have h63 : ¬ ((9223372036854775807 : Int) < (m : Int)) := by omega
      have h48 : ¬ (281474976710656 < Builtin.nextslicecap m 0) := by have := growslice_fits (bytes := 1) (show 0 < m by omega) (by omega); omega
      simp [Builtin.append_, run_underlying ht, run_underlying hti, sizeOf, typeInfo, zeroValue, hi, hz, hsize, hby, asInt, asIntOf, hw, hn0, hb0, hm0, Question.forced, newRow, grownCap, h63, h48, hvc, Builtin.firstCells]
    · by_cases hroom : n + m ≤ cap
      · have hst := run_storeCells_at P g (n * 1) e (List.replicate m (Value.int .u8 0)) 0 cur w hg (by simp; omega) (fun v hv => by rw [(List.mem_replicate.1 hv).2]; rfl)
        simp only [Nat.add_zero] at hst
        obtain ⟨R, hR⟩ : ∃ R, R = (cur.toList.take (n * 1) ++ List.replicate m (Value.int .u8 0) ++ cur.toList.drop (n * 1 + (List.replicate m (Value.int .u8 0)).length)).toArray := ⟨_, rfl⟩
        rw [← hR] at hst
        refine ⟨_, w.setRow g R, ?_, ⟨hlen, .inr ⟨g, cap, R, rfl, hbg, setRow_heap w g cur _ e _ hg, hroom, hcm, ?_, ?_⟩⟩, ⟨rfl, rfl, rfl, by simp, fun k _ hk => setRow_other w g k _ (fun e => hk (by simp [Value.ownBlock, e]))⟩⟩
        · simp [Builtin.append_, run_underlying ht, run_underlying hti, sizeOf, typeInfo, zeroValue, hi, hz, hsize, hby, asInt, asIntOf, hw, hn0, hb0, hm0, hroom, hvc, zeros_list, Addr.add_lit]
          simp at hst
          simp [hst]
        · rw [hR]; simp only [List.size_toArray, List.length_append, List.length_take, List.length_drop, Array.length_toList, List.length_replicate]
          omega
        · rw [hR, htake, ← hlen]
          exact List.take_left
      · have holds : ∀ j u, xs[j]? = some u → w.cell? ((⟨g, 0, none⟩ : Addr).add j) = some u := hown.cells (g := g) rfl
        have hgr := grown cap (by omega) (Value.ownBlock (.slice (some ⟨g, 0, none⟩) n cap))
        refine ⟨_, _, ?_, hgr.1, hgr.2⟩
        have hnr : ¬ (n + m ≤ cap) := hroom
        have h63 : ¬ ((9223372036854775807 : Int) < (n : Int) + (m : Int)) := by omega
        have h48 : ¬ (281474976710656 < Builtin.nextslicecap (n + m) cap) := by have := growslice_fits (bytes := 1) (show cap < n + m by omega) (by omega); omega
        have hfo := run_firstCells_some (P := P) w.drew 1 n ⟨g, 0, none⟩ n cap xs (by omega) (by simpa using holds)
        simp [Builtin.append_, run_underlying ht, run_underlying hti, sizeOf, typeInfo, zeroValue, hi, hz, hsize, hby, asInt, asIntOf, hw, hn0, hb0, hm0, hnr, Question.forced, newRow, grownCap, h63, h48, hvc, hfo]

theorem bytes_zeros (l : List UInt8) (m : Nat) : Lib.byteCells l ++ List.replicate m (Value.int .u8 0) = Lib.byteCells (l ++ List.replicate m 0) := by
  simp [Lib.byteCells]
theorem wpList_append_zeros {P : Program} {w : World} {ops : Array Oper} {rest : List Oper} {o : Oper} {a : Act} {Q : Exit → Act → World → Prop} (hgd : Region.wanted o (yielded ops a.tmps) = true) (s x : Operand) (t ti e : TypeId)
    (ho : o.op = .call { callee := .builtin .append, args := #[s, x], argTypes := #[t, ti] })
    (base : Nat) (i : TypeInfo) (k : IntKind) (ht : P.underlying t = some (.slice e)) (hti : P.underlying ti = some (.int k)) (hi : P.info? e = some i) (hz : i.zero = some (.int .u8 0)) (hsize : i.size = 1) (hby : i.bytes = 1)
    (v : Value) (n : Nat) (l : List UInt8) (hs : a.eval s = v) (hown : w.ownsRow base e 1 v n (Lib.byteCells l)) (m : Nat) (hx : a.eval x = .int k (m : Int)) (hm : m ≤ 1000) (hn : n ≤ 100000) (hbase : base ≤ w.heap.size)
    (h : ∀ v' w', w'.ownsRow base e 1 v' (n + m) (Lib.byteCells (l ++ List.replicate m 0)) → w.grownBy w' v.ownBlock → wpList P ops Q rest (a.put o.dst v') w') : wpList P ops Q (o :: rest) a w := by
  refine wpList_want hgd fun K hK => ?_
  obtain ⟨v', w', hr, h2, h3⟩ := run_append_zeros (P := P) w base t ti o.type e i k ht hti hi hz hsize hby v n _ hown m hm hn hbase
  rw [bytes_zeros] at h2
  unfold Oper.wp execOp
  simp only [ho, resolve, invoke, builtin, Sem.run_bind, Sem.run_pure, Result.andThen_ok, List.map_toArray, List.map_cons, List.map_nil, hs, hx, hr]
  exact hK _ _ (h v' w' h2 h3)

/-- what is carried into byte k of N and L -/
def cB (N L k : Nat) : Nat := (N % 256 ^ k + L % 256 ^ k) / 256 ^ k
theorem cB_zero (N L : Nat) : cB N L 0 = 0 := by simp [cB, Nat.mod_one]
theorem cB_le (N L k : Nat) : cB N L k ≤ 1 := by
  unfold cB
  have h0 : 0 < 256 ^ k := Nat.pow_pos (by omega)
  have h1 := Nat.mod_lt N h0
  have h2 := Nat.mod_lt L h0
  have : (N % 256 ^ k + L % 256 ^ k) / 256 ^ k < 2 := by rw [Nat.div_lt_iff_lt_mul h0]; omega
  omega
theorem add_byte (N L k : Nat) : byN (N + L) k = (byN N k + byN L k + cB N L k) % 256 ∧ cB N L (k + 1) = (byN N k + byN L k + cB N L k) / 256 := by
  unfold byN cB
  have h0 : 0 < 256 ^ k := Nat.pow_pos (by omega)
  generalize hM : 256 ^ k = M at *
  have h1 := Nat.div_add_mod N M
  have h3 := Nat.div_add_mod L M
  have h2 : (N + L) / M = (N % M + L % M) / M + (N / M + L / M) := by
    conv => lhs; rw [← h1, ← h3]
    rw [show M * (N / M) + N % M + (M * (L / M) + L % M) = N % M + L % M + M * (N / M + L / M) by rw [Nat.mul_add]; omega, Nat.add_mul_div_left _ _ h0]
  constructor
  · rw [h2]
    generalize (N % M + L % M) / M = u
    omega
  · rw [Nat.pow_succ, hM, Nat.mod_mul, Nat.mod_mul, ← Nat.div_div_eq_div_mul]
    rw [show N % M + M * (N / M % 256) + (L % M + M * (L / M % 256)) = N % M + L % M + M * (N / M % 256 + L / M % 256) by
      rw [Nat.mul_add]; omega, Nat.add_mul_div_left _ _ h0]
    congr 1; omega
theorem leBytes_succ (n k : Nat) : leBytes n (k + 1) = leBytes n k ++ [UInt8.ofNat (byN n k)] := by simp [leBytes, List.range_succ, byN]
theorem LB_byte (k : Nat) : (LB.getD k 0).toNat = byN LL k := by rw [← leNat_byte, LB_val]; rfl
end Go.Proofs.Ytddgkoheihlbdaa

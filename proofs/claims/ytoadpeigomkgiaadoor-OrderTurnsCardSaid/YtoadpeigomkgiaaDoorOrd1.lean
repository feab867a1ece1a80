/- Comparisons of whole numbers and of bytes: what they compute. -/
import Derived.Test.YtoadpeigomkgiaaDoorOrdLaw
import Derived.Test.YtoadpeigomkgiaaDoorNumGet1
import Derived.Lib.BytesEntry
namespace Go.Proofs.YtoadpeigomkgiaaDoor
open Go.RowKit

def cmpZ (x y : Int) : Int := if x < y then -1 else if y < x then 1 else 0

theorem isNanI_any (x : Int) (w : World) : Calls Tryd.prog 79 #[.int .i64 x] w fun e w' => e = .returned (.bool false) ∧ w = w' := by
  have h : (x != x) = false := by simp
  go_enter Tryd.func79, Tryd.ntmps79
  go_wp2_with fail
  go_ret
  exact ⟨rfl, rfl⟩

theorem isNanL_any (x : Int) (w : World) : Calls Tryd.prog 74 #[.int .i64 x] w fun e w' => e = .returned (.bool false) ∧ w = w' := by
  have h : (x != x) = false := by simp
  go_enter Tryd.func74, Tryd.ntmps74
  go_wp2_with fail
  go_ret
  exact ⟨rfl, rfl⟩

theorem cmpI_any (x y : Int) (w : World) : Calls Tryd.prog 65 #[.int .i64 x, .int .i64 y] w fun e w' => e = .returned (.int .i64 (cmpZ x y)) ∧ w = w' := by
  unfold cmpZ
  rcases Int.lt_trichotomy x y with c | c | c
  · rw [if_pos c]
    go_enter Tryd.func65, Tryd.ntmps65
    go_wp2_with (first | (go_at_call 79; refine (isNanI_any _ _).mono ?_; rintro e w' ⟨rfl, rfl⟩))
    go_ret
    exact ⟨rfl, rfl⟩
  · have h1 : y ≤ x := by omega
    have h2 : x ≤ y := by omega
    rw [if_neg (by omega), if_neg (by omega)]
    clear c
    go_enter Tryd.func65, Tryd.ntmps65
    go_wp2_with (first | (go_at_call 79; refine (isNanI_any _ _).mono ?_; rintro e w' ⟨rfl, rfl⟩))
    go_ret
    exact ⟨rfl, rfl⟩
  · have h1 : y ≤ x := by omega
    rw [if_neg (by omega), if_pos c]
    go_enter Tryd.func65, Tryd.ntmps65
    go_wp2_with (first | (go_at_call 79; refine (isNanI_any _ _).mono ?_; rintro e w' ⟨rfl, rfl⟩))
    go_ret
    exact ⟨rfl, rfl⟩

theorem cmpL_any (x y : Int) (w : World) : Calls Tryd.prog 60 #[.int .i64 x, .int .i64 y] w fun e w' => e = .returned (.int .i64 (cmpZ x y)) ∧ w = w' := by
  unfold cmpZ
  rcases Int.lt_trichotomy x y with c | c | c
  · rw [if_pos c]
    go_enter Tryd.func60, Tryd.ntmps60
    go_wp2_with (first | (go_at_call 74; refine (isNanL_any _ _).mono ?_; rintro e w' ⟨rfl, rfl⟩))
    go_ret
    exact ⟨rfl, rfl⟩
  · have h1 : y ≤ x := by omega
    have h2 : x ≤ y := by omega
    rw [if_neg (by omega), if_neg (by omega)]
    clear c
    go_enter Tryd.func60, Tryd.ntmps60
    go_wp2_with (first | (go_at_call 74; refine (isNanL_any _ _).mono ?_; rintro e w' ⟨rfl, rfl⟩))
    go_ret
    exact ⟨rfl, rfl⟩
  · have h1 : y ≤ x := by omega
    rw [if_neg (by omega), if_pos c]
    go_enter Tryd.func60, Tryd.ntmps60
    go_wp2_with (first | (go_at_call 74; refine (isNanL_any _ _).mono ?_; rintro e w' ⟨rfl, rfl⟩))
    go_ret
    exact ⟨rfl, rfl⟩

theorem compareBytes_bcmp : ∀ l k : List UInt8, Lib.compareBytes l k = bcmp l k
  | [], [] => rfl
  | [], _ :: _ => by simp [Lib.compareBytes, bcmp, Op.bytesLess]
  | _ :: _, [] => by simp [Lib.compareBytes, bcmp, Op.bytesLess]
  | a :: l, b :: k => by
    have ih := compareBytes_bcmp l k
    unfold Lib.compareBytes
    unfold bcmp at ih ⊢
    by_cases h : a < b
    · simp [h, Op.bytesLess]
    · by_cases h' : b < a
      · have hne : a ≠ b := by rintro rfl; exact absurd h' h
        simp [h, h', Op.bytesLess, hne]
      · have e : a = b := UInt8.le_antisymm (UInt8.not_lt.1 h') (UInt8.not_lt.1 h)
        subst e
        simp [Op.bytesLess, ih]

theorem run_bytesOf_sl {w : World} {a : Option Addr} {n c : Nat} {l : List UInt8} (h : Sl w a n c l) : (Extern.Bytes.bytesOf (.slice a n c)).run Tryd.prog w = .ok ⟨l.toArray⟩ w := by
  have hl := h.1
  cases a with
  | none =>
    have hc := h.2.2.2.1 rfl
    have : l = [] := List.eq_nil_of_length_eq_zero (by have := h.2.1; omega)
    subst this
    rfl
  | some ad =>
    have hh := Lib.run_loadBytesX (P := Tryd.prog) w (l.map fun c => (c.toNat : Int)) ad .empty ?_
    · rw [List.length_map, ← hl, bytesOf_map] at hh
      show (Extern.Bytes.loadBytes ad n .empty).run Tryd.prog w = _
      rw [hh]
      congr 1
      apply ByteArray.ext
      show (#[] : Array UInt8) ++ l.toArray = l.toArray
      simp
    · intro j x hj
      rcases h.2.2.2.2 with h0 | ⟨b, o, e, hc⟩
      · have : l = [] := List.eq_nil_of_length_eq_zero (by omega)
        subst this
        simp at hj
      · obtain rfl := Option.some.inj e
        have hlt : j < l.length := by
          rcases Nat.lt_or_ge j l.length with h' | h'
          · exact h'
          · simp [List.getElem?_eq_none h'] at hj
        simp [hlt] at hj
        rw [Addr.add_lit, hc j (by omega), ← hj]
        simp [List.getD_eq_getElem?_getD, hlt]

theorem entry_cmp {w : World} {a b : Option Addr} {n c m d : Nat} {l k : List UInt8} (h1 : Sl w a n c l) (h2 : Sl w b m d k) :
    (Extern.BytealgCompare.compare #[.slice a n c, .slice b m d]).run Tryd.prog w = .ok (.int .i64 (bcmp l k)) w := by
  change Sem.run Tryd.prog (do pure (goInt (Extern.BytealgCompare.cmp (← Extern.Bytes.bytesOf (.slice a n c)) (← Extern.Bytes.bytesOf (.slice b m d))))) w = _
  simp only [Sem.run_bind, Sem.run_pure, run_bytesOf_sl h1, run_bytesOf_sl h2, Result.andThen]
  rw [Lib.cmp_eq, ← compareBytes_bcmp]
  rfl

theorem bytesCmp_any (a : Option Addr) (n c : Nat) (l : List UInt8) (b : Option Addr) (m d : Nat) (k : List UInt8) (w : World) (h1 : Sl w a n c l) (h2 : Sl w b m d k) :
    Calls Tryd.prog 50 #[.slice a n c, .slice b m d] w fun e w' => e = .returned (.int .i64 (bcmp l k)) ∧ w = w' := by
  go_enter Tryd.func50, Tryd.ntmps50
  go_wp2_with fail
  rw [run_callFunc_extern Tryd.func68 (by kernel_rfl) (by kernel_rfl) (by kernel_rfl) (e := Extern.BytealgCompare.compare) (by kernel_rfl), entry_cmp h1 h2]
  simp only [Result.andThen]
  rw [Oper.upon_value]
  go_wp2_with fail
  go_ret
  exact ⟨rfl, rfl⟩

def sLen : Value → Nat
  | .slice _ n _ => n
  | _ => 0

theorem strip_cons0 (l : List UInt8) : strip (0 :: l) = strip l := by rw [strip]; simp
theorem strip_cons (a : UInt8) (l : List UInt8) (h : a ≠ 0) : strip (a :: l) = a :: l := by rw [strip]; simp [h]
theorem strip_len : ∀ l : List UInt8, (strip l).length ≤ l.length
  | [] => Nat.le_refl _
  | a :: l => by rw [strip]; split; exact Nat.le_succ_of_le (strip_len l); exact Nat.le_refl _

def TrimP (l : List UInt8) (w : World) (e : Ending) (w' : World) : Prop := ∃ a' n' c', e = .returned (.slice a' n' c') ∧ Sl w a' n' c' (strip l) ∧ w = w'

set_option maxHeartbeats 1000000 in
theorem trimByte_any (a : Option Addr) (n c : Nat) (l : List UInt8) (w : World) (hs : Sl w a n c l) (hn : n ≤ 200) :
    Calls Tryd.prog 75 #[.slice a n c, .int .u8 0] w (TrimP l w) := by
  obtain ⟨R, hR⟩ : ∃ R, R = strip l := ⟨_, rfl⟩
  have HR := Lib.hid hR
  unfold TrimP
  rw [← hR]
  clear hR
  go_enter Tryd.func75, Tryd.ntmps75
  go_wp2_with fail
  go_loop [0] (fun s => ∃ (a' : Option Addr) (n' c' : Nat) (l' : List UInt8), s = .slice a' n' c' ∧ n' ≤ 200 ∧ Hid (Sl w a' n' c' l') ∧ Hid (R = strip l')) (fun s => sLen s)
  case atStart => exact ⟨a, n, c, l, rfl, hn, Lib.hid hs, HR⟩
  case round =>
    obtain ⟨a', n', c', l', rfl, hn', HS, HD⟩ := hrel
    clear hs
    cases l' with
    | nil =>
      obtain rfl : n' = 0 := by have := HS.out.1; simpa using this
      have HE := Lib.hid (show R = [] from HD.out)
      go_wp2_with fail
      go_ret
      exact ⟨none, 0, 0, rfl, by rw [HE.out]; exact ⟨rfl, Nat.le_refl _, Nat.zero_le _, fun _ => rfl, .inl rfl⟩, rfl⟩
    | cons x t =>
      have hl : n' = t.length + 1 := by have := HS.out.1; simpa using this
      have hcap := HS.out.2.1
      obtain ⟨b, o, rfl, hcc, _⟩ := HS.out.some (by omega)
      have c0 := hcc 0 (by omega)
      have hp : (0 : Int) < n' := by omega
      clear hl
      simp only [List.getD_cons_zero, Nat.add_zero] at c0
      clear hcc
      by_cases hx : x = 0
      · subst hx
        have HE := Lib.hid (show R = strip t by rw [HD.out, strip_cons0])
        have h1 := HS.out.drop 1 (by omega)
        simp only [List.drop_succ_cons, List.drop_zero] at h1
        by_cases hc1 : c' = 1
        · subst hc1
          rw [if_pos rfl] at h1
          have H1 := Lib.hid h1
          clear h1
          go_wp2_with fail
          go_round
          case rel => exact ⟨_, _, _, t, by first | rfl | go_num, by omega, H1, HE⟩
          case measure => simp [sLen]; omega
        · rw [if_neg hc1] at h1
          have H1 := Lib.hid h1
          clear h1
          go_wp2_with fail
          go_round
          case rel => exact ⟨_, _, _, t, by first | rfl | go_num, by omega, H1, HE⟩
          case measure => simp [sLen]; omega
      · have HE := Lib.hid (show R = x :: t by rw [HD.out, strip_cons _ _ hx])
        have q : ((x.toNat : Int) == 0) = false := by
          rw [beq_eq_false_iff_ne]; intro h; exact hx (UInt8.toNat_inj.1 (by simpa using h))
        have q2 : ((n' : Int) == 0) = false := by rw [beq_eq_false_iff_ne]; omega
        clear hx
        go_wp2_with fail
        go_ret
        exact ⟨_, _, _, rfl, by rw [HE.out]; exact HS.out, rfl⟩

set_option maxRecDepth 100000 in
theorem trim_any (a : Option Addr) (n c : Nat) (l : List UInt8) (w : World) (hs : Sl w a n c l) (hn : n ≤ 200) :
    Calls Tryd.prog 63 #[.slice a n c, .string ⟨#[0]⟩] w (TrimP l w) := by
  by_cases h0 : n = 0
  · subst h0
    have hl : l = [] := List.eq_nil_of_length_eq_zero hs.1.symm
    subst hl
    go_enter Tryd.func63, Tryd.ntmps63
    go_wp2_with fail
    go_ret
    exact ⟨none, 0, 0, rfl, ⟨rfl, Nat.le_refl _, Nat.zero_le _, fun _ => rfl, .inl rfl⟩, rfl⟩
  · have q : ((n : Int) == 0) = false := by rw [beq_eq_false_iff_ne]; omega
    go_enter Tryd.func63, Tryd.ntmps63
    go_wp2_with fail
    refine (trimByte_any _ _ _ _ _ hs hn).mono ?_
    rintro e w' ⟨a', n', c', rfl, h, rfl⟩
    go_wp2_with fail
    go_ret
    exact ⟨_, _, _, rfl, h, rfl⟩
end Go.Proofs.YtoadpeigomkgiaaDoor

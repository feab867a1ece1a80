import Derived.Test.YtmmkaclmgnpplaaGreatDoorMv3
set_option maxRecDepth 100000
set_option maxHeartbeats 64000000
set_option linter.unusedSimpArgs false
set_option linter.unusedVariables false
namespace Go.Proofs.YtmmkaclmgnpplaaGreatDoor
open Go.RowKit
def eachW (f : Tg → Tg → Bool) : List Tg → List Tg → Bool
 | _, [] => true
 | [], _ :: _ => false
 | x :: s, y :: r => f x y && eachW f s r
def withinF : Nat → Tg → Tg → Bool
 | 0, _, _ => false
 | n + 1, a, b => if b.kd = 1 then true else if a.kd = 4 then !(a.ks.any fun k => !withinF n k b) else if b.kd = 4 then b.ks.any (fun k => withinF n a k)
  else if a.kd = 3 ∧ b.kd = 3 then (decide (b.ks.length ≤ a.ks.length) && eachW (withinF n) a.ks b.ks) else if a.kd = 5 ∧ b.kd = 5 then prefB a.da b.da
  else if a.kd = 6 ∧ b.kd = 6 then withinB a.r b.r else decide (a.kd = 2) && takesT b a.da
theorem Jl {f : Tg → Tg → Bool} {xs ys : List Tg} (hl : ys.length ≤ xs.length) : eachW f xs ys = true ↔ ∀ i (h : i < ys.length), f (xs[i]'(by omega)) ys[i] = true := by
 induction ys generalizing xs with
 | nil => simp [eachW]
 | cons y r ih =>
  cases xs with
  | nil => simp at hl
  | cons x s =>
   simp only [eachW, Bool.and_eq_true, ih (show r.length ≤ s.length by simpa using hl)]
   constructor
   ·rintro ⟨h1, h2⟩ i hi
    cases i with
    | zero => exact h1
    | succ i => exact h2 i (by simpa using hi)
   ·intro h
    exact ⟨h 0 (by simp), fun i hi => h (i + 1) (by simpa using hi)⟩
theorem Kj {f : Tg → Tg → Bool} {xs ys : List Tg} (hl : ys.length ≤ xs.length) {i : Nat} (h : i < ys.length) (hf : f (xs[i]'(by omega)) ys[i] = false) : eachW f xs ys = false := by
 cases he : eachW f xs ys with
 | false => rfl
 | true => have := (Jl hl).1 he i h; rw [hf] at this; cases this
def WithinOk (n : Nat) : Prop := ∀ (a b : Tg) (va vb : TV) (w : World), a.count + b.count ≤ n → Fit a → Fit b → RdT (fun _ => True) w va a → RdT (fun _ => True) w vb b →
 Calls Tryz.prog 33 #[va.val, vb.val] w fun e w' => e = .returned (.bool (withinF n a b)) ∧ Below w.heap.size w w'
def AnsW1 (ks : List Tg) (K : Nat → TV) (g : Nat) (f : Tg → Bool) (w : World) : Prop := ∀ i (h : i < ks.length) w', Below w.heap.size w w' → Calls Tryz.prog 57 #[(K i).val, .pointer (some ⟨g, 0, none⟩)] w' fun e w'' => e = .returned (.bool (f ks[i])) ∧ Below w'.heap.size w' w''
theorem J9 (a : Option Addr) (n c : Nat) (K : Nat → TV) (ks : List Tg) (g : Nat) (f : Tg → Bool) (w : World) (hr : RowT w a n c K) (i9 : n = ks.length) (he : AnsW1 ks K g f w) :
  Calls Tryz.prog 77 #[.slice a n c, .func (.func 57) #[] #[.pointer (some ⟨g, 0, none⟩)]] w fun e w' => (∃ r : Int, e = .returned (.int .i64 r) ∧ decide (0 ≤ r) = ks.any f) ∧ Below w.heap.size w w' := by
 have HR := I5 hr
 have HL := I5 i9
 have HE := I5 he
 have hn : (n : Int) ≤ 9223372036854775807 := by have h2 := hr.1; have h3 := hr.2.1; unfold maxLen at h3; omega
 clear hr i9 he
 go_enter Tryz.func77, Tryz.ntmps77
 go_wp2_with fail
 go_loopw [8] (fun i wr => ∃ k : Nat, k ≤ n ∧ i = .int .i64 k ∧ Hid ((ks.take k).any f = false) ∧ Below w.heap.size w wr) (fun i _ => n - (intOf i).toNat)
 case atStart => exact ⟨0, Nat.zero_le _, rfl, I5 rfl, Below.refl _ _⟩
 case round =>
  obtain ⟨k, hk, rfl, gy, hb⟩ := hrel
  by_cases aJ : k < n
  case neg =>
   have fS : ¬ (k : Int) < n := by omega
   go_wp2_with fail
   go_ret
   exact ⟨⟨-1, rfl, by have h := gy.out; rw [List.take_of_length_le (by have := HL.out; omega)] at h; rw [h]; rfl⟩, hb⟩
  case pos =>
   have fS : (k : Int) < n := by omega
   have fy : k < ks.length := by have := HL.out; omega
   obtain ⟨b, o, rfl, a8⟩ := (HR.out.after hb).range aJ
   have fM := I5 a8
   have HC := I5 (HE.out k fy wr hb)
   have zq : Hid ((ks.take (k + 1)).any f = f (ks[k]'fy)) := I5 (by rw [iS _ _ _ fy, gy.out]; rfl)
   have Dm : Hid (f (ks[k]'fy) = true → ks.any f = true) := I5 (fun h => List.any_eq_true.2 ⟨_, List.getElem_mem fy, h⟩)
   generalize f (ks[k]'fy) = gx at *
   have cL : (0 : Int) ≤ k := by omega
   clear a8
   go_wp2_with (refine cD rfl _ rfl b _ rfl _ fM.out ?_)
   refine HC.out.mono ?_
   rintro e w1 ⟨rfl, af⟩
   have aK := hb.trans (af.mono hb.size)
   clear af fM
   cases gx with
   | true =>
    go_wp2_with fail
    go_ret
    exact ⟨⟨k, rfl, by rw [Dm.out (by trivial)]; simp⟩, aK⟩
   | false =>
    go_wp2_with fail
    go_roundw
    case rel => exact ⟨k + 1, by omega, by go_num, zq, aK⟩
    case measure => simp [intOf] <;> omega
theorem Ke (a : Option Addr) (n c : Nat) (K : Nat → TV) (ks : List Tg) (g : Nat) (f : Tg → Bool) (w : World) (hr : RowT w a n c K) (i9 : n = ks.length) (he : AnsW1 ks K g f w) :
  Calls Tryz.prog 41 #[.slice a n c, .func (.func 57) #[] #[.pointer (some ⟨g, 0, none⟩)]] w fun e w' => e = .returned (.bool (ks.any f)) ∧ Below w.heap.size w w' := by
 have HI := I5 (J9 a n c K ks g f w hr i9 he)
 clear hr i9 he
 go_enter Tryz.func41, Tryz.ntmps41
 go_wp2_with fail
 refine HI.out.mono ?_
 rintro e w1 ⟨⟨r, rfl, hr⟩, hb⟩
 have HR := I5 hr
 clear hr
 go_wp2_with fail
 go_ret
 exact ⟨by rw [← HR.out]; rfl, hb⟩
theorem JC (v u : TV) (g : Nat) (r : Bool) (w : World) (hc : Box w g 29 u.cells)
  (H : ∀ w', Below w.heap.size w w' → Calls Tryz.prog 33 #[u.val, v.val] w' fun e w'' => e = .returned (.bool r) ∧ Below w'.heap.size w' w'') :
  Calls Tryz.prog 57 #[v.val, .pointer (some ⟨g, 0, none⟩)] w fun e w' => e = .returned (.bool r) ∧ Below w.heap.size w w' := by
 obtain ⟨ay, aw, ap, av, aA, aS, az, vo, am, ak, aE, aB, aD, ar, aq, aI, aC, aH⟩ := v
 obtain ⟨gZ, gB, gz, gA, gT, gR, fZ, uo, eu, et, eY, eW, eX, fa, eZ, fw, fu, fv⟩ := u
 let x0 := (w.alloc (.cells #[.int .u8 ay, .slice aw ap av, .slice aA aS az, .int .u8 vo, .bool am, .bool ak, .slice aE aB aD, .bool ar, .bool aq, .slice aI aC aH] 29))
 have hb : Below w.heap.size w x0 := (Below.refl _ _).alloc (Nat.le_refl _) _
 have HX : Hid (Box x0 w.heap.size 29 #[.int .u8 ay, .slice aw ap av, .slice aA aS az, .int .u8 vo, .bool am, .bool ak, .slice aE aB aD, .bool ar, .bool aq, .slice aI aC aH]) := I5 (Box.new _ _ _)
 have HU : Hid (Box x0 g 29 #[.int .u8 gZ, .slice gB gz gA, .slice gT gR fZ, .int .u8 uo, .bool eu, .bool et, .slice eY eW eX, .bool fa, .bool eZ, .slice fw fu fv]) := I5 (hc.after hb)
 have HC := I5 (H _ hb)
 clear H hc
 show Calls _ _ #[.agg #[.int .u8 ay, .slice aw ap av, .slice aA aS az, .int .u8 vo, .bool am, .bool ak, .slice aE aB aD, .bool ar, .bool aq, .slice aI aC aH], .pointer (some ⟨g, 0, none⟩)] _ _
 go_enter Tryz.func57, Tryz.ntmps57
 go_upto_region 1 with fail
 change Code.wp _ _ _ _ x0
 clear_value x0
 go_wp2_with first | (refine ab rfl 29 _ rfl HX.out (by rfl) Tryz.underlying29 rfl (by kernel_rfl) ?_) | (refine ab rfl 29 _ rfl HU.out (by rfl) Tryz.underlying29 rfl (by kernel_rfl) ?_)
 refine HC.out.mono ?_
 rintro e w1 ⟨rfl, af⟩
 have aK := hb.trans (af.mono hb.size)
 go_wp2_with fail
 go_ret
 exact ⟨rfl, aK⟩
def AnsW2 (ks : List Tg) (K : Nat → TV) (g : Nat) (f : Tg → Bool) (w : World) : Prop := ∀ i (h : i < ks.length) w', Below w.heap.size w w' → Calls Tryz.prog 58 #[(K i).val, .pointer (some ⟨g, 0, none⟩)] w' fun e w'' => e = .returned (.bool (f ks[i])) ∧ Below w'.heap.size w' w''
theorem J5 (a : Option Addr) (n c : Nat) (K : Nat → TV) (ks : List Tg) (g : Nat) (f : Tg → Bool) (w : World) (hr : RowT w a n c K) (i9 : n = ks.length) (he : AnsW2 ks K g f w) :
  Calls Tryz.prog 77 #[.slice a n c, .func (.func 58) #[] #[.pointer (some ⟨g, 0, none⟩)]] w fun e w' => (∃ r : Int, e = .returned (.int .i64 r) ∧ decide (0 ≤ r) = ks.any f) ∧ Below w.heap.size w w' := by
 have HR := I5 hr
 have HL := I5 i9
 have HE := I5 he
 have hn : (n : Int) ≤ 9223372036854775807 := by have h2 := hr.1; have h3 := hr.2.1; unfold maxLen at h3; omega
 clear hr i9 he
 go_enter Tryz.func77, Tryz.ntmps77
 go_wp2_with fail
 go_loopw [8] (fun i wr => ∃ k : Nat, k ≤ n ∧ i = .int .i64 k ∧ Hid ((ks.take k).any f = false) ∧ Below w.heap.size w wr) (fun i _ => n - (intOf i).toNat)
 case atStart => exact ⟨0, Nat.zero_le _, rfl, I5 rfl, Below.refl _ _⟩
 case round =>
  obtain ⟨k, hk, rfl, gy, hb⟩ := hrel
  by_cases aJ : k < n
  case neg =>
   have fS : ¬ (k : Int) < n := by omega
   go_wp2_with fail
   go_ret
   exact ⟨⟨-1, rfl, by have h := gy.out; rw [List.take_of_length_le (by have := HL.out; omega)] at h; rw [h]; rfl⟩, hb⟩
  case pos =>
   have fS : (k : Int) < n := by omega
   have fy : k < ks.length := by have := HL.out; omega
   obtain ⟨b, o, rfl, a8⟩ := (HR.out.after hb).range aJ
   have fM := I5 a8
   have HC := I5 (HE.out k fy wr hb)
   have zq : Hid ((ks.take (k + 1)).any f = f (ks[k]'fy)) := I5 (by rw [iS _ _ _ fy, gy.out]; rfl)
   have Dm : Hid (f (ks[k]'fy) = true → ks.any f = true) := I5 (fun h => List.any_eq_true.2 ⟨_, List.getElem_mem fy, h⟩)
   generalize f (ks[k]'fy) = gx at *
   have cL : (0 : Int) ≤ k := by omega
   clear a8
   go_wp2_with (refine cD rfl _ rfl b _ rfl _ fM.out ?_)
   refine HC.out.mono ?_
   rintro e w1 ⟨rfl, af⟩
   have aK := hb.trans (af.mono hb.size)
   clear af fM
   cases gx with
   | true =>
    go_wp2_with fail
    go_ret
    exact ⟨⟨k, rfl, by rw [Dm.out (by trivial)]; simp⟩, aK⟩
   | false =>
    go_wp2_with fail
    go_roundw
    case rel => exact ⟨k + 1, by omega, by go_num, zq, aK⟩
    case measure => simp [intOf] <;> omega
theorem Kd (a : Option Addr) (n c : Nat) (K : Nat → TV) (ks : List Tg) (g : Nat) (f : Tg → Bool) (w : World) (hr : RowT w a n c K) (i9 : n = ks.length) (he : AnsW2 ks K g f w) :
  Calls Tryz.prog 41 #[.slice a n c, .func (.func 58) #[] #[.pointer (some ⟨g, 0, none⟩)]] w fun e w' => e = .returned (.bool (ks.any f)) ∧ Below w.heap.size w w' := by
 have HI := I5 (J5 a n c K ks g f w hr i9 he)
 clear hr i9 he
 go_enter Tryz.func41, Tryz.ntmps41
 go_wp2_with fail
 refine HI.out.mono ?_
 rintro e w1 ⟨⟨r, rfl, hr⟩, hb⟩
 have HR := I5 hr
 clear hr
 go_wp2_with fail
 go_ret
 exact ⟨by rw [← HR.out]; rfl, hb⟩
theorem JB (v u : TV) (g : Nat) (r : Bool) (w : World) (hc : Box w g 29 u.cells)
  (H : ∀ w', Below w.heap.size w w' → Calls Tryz.prog 33 #[v.val, u.val] w' fun e w'' => e = .returned (.bool r) ∧ Below w'.heap.size w' w'') :
  Calls Tryz.prog 58 #[v.val, .pointer (some ⟨g, 0, none⟩)] w fun e w' => e = .returned (.bool (!r)) ∧ Below w.heap.size w w' := by
 obtain ⟨ay, aw, ap, av, aA, aS, az, vo, am, ak, aE, aB, aD, ar, aq, aI, aC, aH⟩ := v
 obtain ⟨gZ, gB, gz, gA, gT, gR, fZ, uo, eu, et, eY, eW, eX, fa, eZ, fw, fu, fv⟩ := u
 let x0 := (w.alloc (.cells #[.int .u8 ay, .slice aw ap av, .slice aA aS az, .int .u8 vo, .bool am, .bool ak, .slice aE aB aD, .bool ar, .bool aq, .slice aI aC aH] 29))
 have hb : Below w.heap.size w x0 := (Below.refl _ _).alloc (Nat.le_refl _) _
 have HX : Hid (Box x0 w.heap.size 29 #[.int .u8 ay, .slice aw ap av, .slice aA aS az, .int .u8 vo, .bool am, .bool ak, .slice aE aB aD, .bool ar, .bool aq, .slice aI aC aH]) := I5 (Box.new _ _ _)
 have HU : Hid (Box x0 g 29 #[.int .u8 gZ, .slice gB gz gA, .slice gT gR fZ, .int .u8 uo, .bool eu, .bool et, .slice eY eW eX, .bool fa, .bool eZ, .slice fw fu fv]) := I5 (hc.after hb)
 have HC := I5 (H _ hb)
 clear H hc
 show Calls _ _ #[.agg #[.int .u8 ay, .slice aw ap av, .slice aA aS az, .int .u8 vo, .bool am, .bool ak, .slice aE aB aD, .bool ar, .bool aq, .slice aI aC aH], .pointer (some ⟨g, 0, none⟩)] _ _
 go_enter Tryz.func58, Tryz.ntmps58
 go_upto_region 1 with fail
 change Code.wp _ _ _ _ x0
 clear_value x0
 go_wp2_with first | (refine ab rfl 29 _ rfl HX.out (by rfl) Tryz.underlying29 rfl (by kernel_rfl) ?_) | (refine ab rfl 29 _ rfl HU.out (by rfl) Tryz.underlying29 rfl (by kernel_rfl) ?_)
 refine HC.out.mono ?_
 rintro e w1 ⟨rfl, af⟩
 have aK := hb.trans (af.mono hb.size)
 go_wp2_with fail
 go_ret
 exact ⟨rfl, aK⟩
theorem JV (n : Nat) (ih : WithinOk n) : WithinOk (n + 1) := by
 intro a b va vb w hc KH IL ha hb
 have FE := I5 hc
 have K6 := KH.leaf
 have K5 := IL.leaf
 have K4 := KH.kids
 have KZ := IL.kids
 have FA := I5 KH
 have FB := I5 IL
 have RA := I5 ha
 have RB := I5 hb
 have IH := I5 ih
 clear hc KH IL ih
 obtain ⟨kd0a, ad, aks, ⟨roa, ⟨lia, loa, all⟩, ⟨m5, Ld, A6⟩⟩⟩ := a
 obtain ⟨⟨cH, ho, cK, dv, dx, dw, hk9a, ho9a⟩, hs1a, yA, yD, Cm, Ka, p5, Gd⟩ := ha.parts
 obtain ⟨du, eJ, dV, eI, eU, dN, eT, ao, dZ, dY, eF, ek, eE, d8, d7, eH, em, eG⟩ := va
 dsimp only [Tg.kd, Tg.r, Tg.da, Tg.ks] at cH ho cK dv dx dw hk9a ho9a hs1a yA yD Cm p5 Gd K6 K4
 subst cH ho cK dv dx dw Cm
 obtain ⟨FP, FO, FN⟩ := K6
 dsimp only [Tg.da, Tg.r] at FP FO FN
 have l1a : dV ≤ 6000 := by have := hs1a.1; omega
 have l2a : ek ≤ 200 := by have := yA.1; (try dsimp only at *); omega
 have l3a : em ≤ 200 := by have := yD.1; (try dsimp only at *); omega
 have Sa := I5 hs1a
 have SLa := I5 yA
 have SHa := I5 yD
 have HRa := I5 p5
 have HKa := I5 Gd
 clear ha hs1a yA yD p5 Gd FP FO FN
 obtain ⟨kd0b, bd, bks, ⟨rob, ⟨lib, lob, A3⟩, ⟨nN, Lc, A4⟩⟩⟩ := b
 obtain ⟨⟨cH, ho, cK, dv, dx, dw, hk9b, ho9b⟩, hs1b, yz, yC, ut, Kb, p0, Gc⟩ := hb.parts
 obtain ⟨dU, ej, fd, ft, fI, eS, fH, bo, eB, eA, fm, fe, fk, eD, eC, fq, ff, fp⟩ := vb
 dsimp only [Tg.kd, Tg.r, Tg.da, Tg.ks] at cH ho cK dv dx dw hk9b ho9b hs1b yz yC ut p0 Gc K5 KZ
 subst cH ho cK dv dx dw ut
 obtain ⟨mb1, mb2, mb3⟩ := K5
 dsimp only [Tg.da, Tg.r] at mb1 mb2 mb3
 have l1b : fd ≤ 6000 := by have := hs1b.1; omega
 have l2b : fe ≤ 200 := by have := yz.1; (try dsimp only at *); omega
 have l3b : ff ≤ 200 := by have := yC.1; (try dsimp only at *); omega
 have Sb := I5 hs1b
 have SLb := I5 yz
 have SHb := I5 yC
 have HRb := I5 p0
 have HKb := I5 Gc
 clear hb hs1b yz yC p0 Gc mb1 mb2 mb3
 have KF : Hid (∀ x ∈ aks, Fit x) := I5 FA.out.kid
 have KE : Hid (∀ x ∈ bks, Fit x) := I5 FB.out.kid
 have Ku : Hid (∀ x ∈ aks, x.count < (Tg.mk du ad aks ⟨ao, ⟨dZ, dY, all⟩, ⟨d8, d7, A6⟩⟩).count) := I5 (fun x hx => iN hx)
 have Kt : Hid (∀ x ∈ bks, x.count < (Tg.mk dU bd bks ⟨bo, ⟨eB, eA, A3⟩, ⟨eD, eC, A4⟩⟩).count) := I5 (fun x hx => iN hx)
 obtain ⟨R, hR⟩ : ∃ R, R = withinF (n + 1) (Tg.mk du ad aks ⟨ao, ⟨dZ, dY, all⟩, ⟨d8, d7, A6⟩⟩) (Tg.mk dU bd bks ⟨bo, ⟨eB, eA, A3⟩, ⟨eD, eC, A4⟩⟩) := ⟨_, rfl⟩
 rw [← hR]
 have HD : Hid (R = (if dU = 1 then true else if du = 4 then !(aks.any fun k => !withinF n k (Tg.mk dU bd bks ⟨bo, ⟨eB, eA, A3⟩, ⟨eD, eC, A4⟩⟩)) else if dU = 4 then bks.any (fun k => withinF n (Tg.mk du ad aks ⟨ao, ⟨dZ, dY, all⟩, ⟨d8, d7, A6⟩⟩) k) else if du = 3 ∧ dU = 3 then (decide (bks.length ≤ aks.length) && eachW (withinF n) aks bks) else if du = 5 ∧ dU = 5 then prefB ad bd else if du = 6 ∧ dU = 6 then withinB ⟨ao, ⟨dZ, dY, all⟩, ⟨d8, d7, A6⟩⟩ ⟨bo, ⟨eB, eA, A3⟩, ⟨eD, eC, A4⟩⟩ else decide (du = 2) && Tg.takes dU bd ⟨bo, ⟨eB, eA, A3⟩, ⟨eD, eC, A4⟩⟩ ad)) := I5 hR
 clear hR
 obtain ⟨TA, EQ⟩ : ∃ t, t = Tg.mk du ad aks ⟨ao, ⟨dZ, dY, all⟩, ⟨d8, d7, A6⟩⟩ := ⟨_, rfl⟩
 obtain ⟨TB, EP⟩ : ∃ t, t = Tg.mk dU bd bks ⟨bo, ⟨eB, eA, A3⟩, ⟨eD, eC, A4⟩⟩ := ⟨_, rfl⟩
 rw [← EQ] at HD FA RA FE Ku
 rw [← EP] at HD FB RB FE Kt
 clear EQ EP
 have Dv : ∀ (fn : Fn) (first cap : Array Value) (w : World), (Instr.makeFunc fn first cap).run Tryz.prog w = .ok (.func fn first cap) w := fun _ _ _ _ => rfl
 let x0 := ((w.alloc (.cells #[.int .u8 du, .slice eJ dV eI, .slice eU aks.length eT, .int .u8 ao, .bool dZ, .bool dY, .slice eF ek eE, .bool d8, .bool d7, .slice eH em eG] 29)).alloc (.cells #[.int .u8 dU, .slice ej fd ft, .slice fI bks.length fH, .int .u8 bo, .bool eB, .bool eA, .slice fm fe fk, .bool eD, .bool eC, .slice fq ff fp] 29))
 have B : Below w.heap.size w x0 := ((Below.refl _ _).alloc (Nat.le_refl _) _).alloc (by simp [x0, x0]) _
 have X : Hid (Box x0 w.heap.size 29 #[.int .u8 du, .slice eJ dV eI, .slice eU aks.length eT, .int .u8 ao, .bool dZ, .bool dY, .slice eF ek eE, .bool d8, .bool d7, .slice eH em eG]) := I5 ((Box.new _ _ _).alloc _)
 have Y : Hid (Box x0 (w.heap.size + 1) 29 #[.int .u8 dU, .slice ej fd ft, .slice fI bks.length fH, .int .u8 bo, .bool eB, .bool eA, .slice fm fe fk, .bool eD, .bool eC, .slice fq ff fp]) := I5 (by
  have := Box.new (w.alloc (.cells #[.int .u8 du, .slice eJ dV eI, .slice eU aks.length eT, .int .u8 ao, .bool dZ, .bool dY, .slice eF ek eE, .bool d8, .bool d7, .slice eH em eG] 29)) 29 #[.int .u8 dU, .slice ej fd ft, .slice fI bks.length fH, .int .u8 bo, .bool eB, .bool eA, .slice fm fe fk, .bool eD, .bool eC, .slice fq ff fp]
  simpa [x0] using this)
 simp only [TV.val]
 show Calls _ _ #[.agg #[.int .u8 du, .slice eJ dV eI, .slice eU aks.length eT, .int .u8 ao, .bool dZ, .bool dY, .slice eF ek eE, .bool d8, .bool d7, .slice eH em eG], .agg #[.int .u8 dU, .slice ej fd ft, .slice fI bks.length fH, .int .u8 bo, .bool eB, .bool eA, .slice fm fe fk, .bool eD, .bool eC, .slice fq ff fp]] _ _
 go_enter Tryz.func33, Tryz.ntmps33
 go_upto_region 1 with fail
 change Code.wp _ _ _ _ x0
 clear_value x0
 have x_0 := X.out.cell 0 rfl
 have x_1 := X.out.cell 1 rfl
 have x_2 := X.out.cell 2 rfl
 have y_0 := Y.out.cell 0 rfl
 have y_1 := Y.out.cell 1 rfl
 have y_2 := Y.out.cell 2 rfl
 by_cases h_t1 : dU = 1
 case pos =>
  have t1 : ((dU : Int) == 1) = true := beq_iff_eq.mpr (by omega)
  replace HD : Hid (R = true) := I5 (by rw [HD.out, if_pos h_t1])
  clear h_t1
  go_wp2_with fail
  go_ret
  exact ⟨by rw [HD.out] <;> rfl, B⟩
 have t1 : ((dU : Int) == 1) = false := beq_eq_false_iff_ne.mpr (by omega)
 replace HD := I5 (HD.out.trans (if_neg h_t1))
 clear h_t1
 by_cases h_t2 : du = 4
 case pos =>
  have t2 : ((du : Int) == 4) = true := beq_iff_eq.mpr (by omega)
  replace HD := I5 (HD.out.trans (if_pos h_t2))
  clear h_t2
  have HA : Hid (AnsW2 aks Ka (w.heap.size + 1) (fun k => !withinF n k TB) x0) := I5 (fun i hi w' hw => JB (Ka i) ⟨dU, ej, fd, ft, fI, bks.length, fH, bo, eB, eA, fm, fe, fk, eD, eC, fq, ff, fp⟩ (w.heap.size + 1) (withinF n aks[i] TB) w' (Y.out.after hw) (fun w2 oO => IH.out aks[i] TB (Ka i) ⟨dU, ej, fd, ft, fI, bks.length, fH, bo, eB, eA, fm, fe, fk, eD, eC, fq, ff, fp⟩ w2 (by have := Ku.out _ (List.getElem_mem hi); have := FE.out; omega) (KF.out _ (List.getElem_mem hi)) FB.out (((HKa.out i hi).after (B.trans (hw.mono B.size))).after oO) ((RB.out.after (B.trans (hw.mono B.size))).after oO)))
  go_wp2_with fail
  refine (Kd eU aks.length eT Ka aks (w.heap.size + 1) (fun k => !withinF n k TB) x0 (HRa.out.after B) rfl HA.out).mono ?_
  rintro e w5 ⟨rfl, Jh⟩
  have B5 := B.trans (Jh.mono B.size)
  clear HA
  go_wp2_with fail
  go_ret
  exact ⟨by rw [HD.out] <;> rfl, B5⟩
 have t2 : ((du : Int) == 4) = false := beq_eq_false_iff_ne.mpr (by omega)
 replace HD := I5 (HD.out.trans (if_neg h_t2))
 clear h_t2
 by_cases h_t3 : dU = 4
 case pos =>
  have t3 : ((dU : Int) == 4) = true := beq_iff_eq.mpr (by omega)
  replace HD := I5 (HD.out.trans (if_pos h_t3))
  clear h_t3
  have HA : Hid (AnsW1 bks Kb w.heap.size (fun k => withinF n TA k) x0) := I5 (fun i hi w' hw => JC (Kb i) ⟨du, eJ, dV, eI, eU, aks.length, eT, ao, dZ, dY, eF, ek, eE, d8, d7, eH, em, eG⟩ w.heap.size (withinF n TA bks[i]) w' (X.out.after hw) (fun w2 oO => IH.out TA bks[i] ⟨du, eJ, dV, eI, eU, aks.length, eT, ao, dZ, dY, eF, ek, eE, d8, d7, eH, em, eG⟩ (Kb i) w2 (by have := Kt.out _ (List.getElem_mem hi); have := FE.out; omega) FA.out (KE.out _ (List.getElem_mem hi)) ((RA.out.after (B.trans (hw.mono B.size))).after oO) (((HKb.out i hi).after (B.trans (hw.mono B.size))).after oO)))
  go_wp2_with fail
  refine (Ke fI bks.length fH Kb bks w.heap.size (fun k => withinF n TA k) x0 (HRb.out.after B) rfl HA.out).mono ?_
  rintro e w5 ⟨rfl, Jh⟩
  have B5 := B.trans (Jh.mono B.size)
  clear HA
  go_wp2_with fail
  go_ret
  exact ⟨by rw [HD.out] <;> rfl, B5⟩
 have t3 : ((dU : Int) == 4) = false := beq_eq_false_iff_ne.mpr (by omega)
 replace HD := I5 (HD.out.trans (if_neg h_t3))
 clear h_t3
 by_cases h_t4 : du = 3 ∧ dU = 3
 case pos =>
  obtain ⟨Kq, JU⟩ := h_t4
  have t4a : ((du : Int) == 3) = true := beq_iff_eq.mpr (by omega)
  have t4b : ((dU : Int) == 3) = true := beq_iff_eq.mpr (by omega)
  replace HD := I5 (HD.out.trans (if_pos ⟨Kq, JU⟩))
  clear Kq JU
  by_cases yM : bks.length ≤ aks.length
  case neg =>
   have cK : (aks.length : Int) < bks.length := by omega
   replace HD : Hid (R = false) := I5 (by rw [HD.out, decide_eq_false yM]; rfl)
   go_wp2_with fail
   go_ret
   exact ⟨by rw [HD.out] <;> rfl, B⟩
  have cK : ¬ (aks.length : Int) < bks.length := by omega
  replace HD : Hid (R = eachW (withinF n) aks bks) := I5 (by rw [HD.out, decide_eq_true yM]; rfl)
  go_wp2_with fail
  go_loopw [49] (fun i wr => ∃ k : Nat, k ≤ bks.length ∧ i = .int .i64 k ∧ Hid (∀ j (h : j < k) (h2 : j < bks.length), withinF n (aks[j]'(by omega)) bks[j] = true) ∧ Below w.heap.size w wr ∧ Box wr w.heap.size 29 #[.int .u8 du, .slice eJ dV eI, .slice eU aks.length eT, .int .u8 ao, .bool dZ, .bool dY, .slice eF ek eE, .bool d8, .bool d7, .slice eH em eG] ∧ Box wr (w.heap.size + 1) 29 #[.int .u8 dU, .slice ej fd ft, .slice fI bks.length fH, .int .u8 bo, .bool eB, .bool eA, .slice fm fe fk, .bool eD, .bool eC, .slice fq ff fp]) (fun i _ => bks.length - (intOf i).toNat)
  case atStart => exact ⟨0, Nat.zero_le _, rfl, I5 (fun j h => absurd h (Nat.not_lt_zero _)), B, X.out, Y.out⟩
  case round =>
   clear x_0 x_1 x_2 y_0 y_1 y_2 X Y B
   obtain ⟨k, fy, rfl, Ks, B, hX, hY⟩ := hrel
   have X := I5 hX
   have Y := I5 hY
   clear hX hY
   by_cases aJ : k < bks.length
   case neg =>
    have fS : ¬ (k : Int) < bks.length := by omega
    have HF : Hid (R = true) := I5 (by rw [HD.out]; exact (Jl yM).2 fun j hj => Ks.out j (by omega) hj)
    clear Ks HD
    go_wp2_with fail
    go_ret
    exact ⟨by rw [HF.out] <;> rfl, B⟩
   case pos =>
    have fS : (k : Int) < bks.length := by omega
    have Er : (k : Int) < aks.length := by omega
    have mm : k < aks.length := by omega
    have cL : (0 : Int) ≤ k := by omega
    obtain ⟨b, o, AM, a8⟩ := (HRb.out.after B).range aJ
    obtain ⟨b2, o2, ED, ij⟩ := (HRa.out.after B).range mm
    have hb2l : b2 < wr.heap.size := cA (ij 0 _ rfl)
    obtain ⟨ck, fT⟩ : ∃ ck, ck = withinF n (aks[k]'mm) (bks[k]'aJ) := ⟨_, rfl⟩
    have IH2 := I5 (fun w2 g1 g2 => IH.out (aks[k]'mm) (bks[k]'aJ) (Ka k) (Kb k) w2 (by have := Kt.out _ (List.getElem_mem aJ); have := Ku.out _ (List.getElem_mem mm); have := FE.out; omega) (KF.out _ (List.getElem_mem mm)) (KE.out _ (List.getElem_mem aJ)) g1 g2)
    rw [← fT] at IH2
    have gQ := I5 fT
    clear fT
    have nh := I5 ((HKb.out k aJ).after B)
    have xA := I5 ((HKa.out k mm).after B)
    obtain ⟨v1, ic⟩ : ∃ v1, v1 = Kb k := ⟨_, rfl⟩
    obtain ⟨u1, F0⟩ : ∃ u1, u1 = Ka k := ⟨_, rfl⟩
    rw [← ic] at a8 IH2 nh
    rw [← F0] at ij IH2 xA
    clear ic F0
    obtain ⟨dt, dp, dj, dm, dn, cZ, dk, eo, dA, dy, dC, dz, dB, dF, dD, dH, dE, dG⟩ := v1
    obtain ⟨yU, qm, qh, qk, ql, qg, qj, fo, yQ, yO, yS, yP, yR, yX, yV, yZ, yW, yY⟩ := u1
    replace a8 : wr.rangeAt b (o + k * 10) [.int .u8 dt, .slice dp dj dm, .slice dn cZ dk, .int .u8 eo, .bool dA, .bool dy, .slice dC dz dB, .bool dF, .bool dD, .slice dH dE dG] := a8
    replace ij : wr.rangeAt b2 (o2 + k * 10) [.int .u8 yU, .slice qm qh qk, .slice ql qg qj, .int .u8 fo, .bool yQ, .bool yO, .slice yS yP yR, .bool yX, .bool yV, .slice yZ yW yY] := ij
    have fM := I5 a8
    have KC := I5 ij
    clear a8 ij
    subst AM ED
    go_upto_region 14 with (refine ai rfl 29 _ rfl b _ rfl _ _ fM.out Tryz.underlying29 rfl (by kernel_rfl) ?_)
    let z1 := (wr.alloc (.cells #[.int .u8 dt, .slice dp dj dm, .slice dn cZ dk, .int .u8 eo, .bool dA, .bool dy, .slice dC dz dB, .bool dF, .bool dD, .slice dH dE dG] 29))
    change Code.wp _ _ _ _ z1
    have DA : Below wr.heap.size wr z1 := (Below.refl _ _).alloc (Nat.le_refl _) _
    have Z : Hid (Box z1 wr.heap.size 29 #[.int .u8 dt, .slice dp dj dm, .slice dn cZ dk, .int .u8 eo, .bool dA, .bool dy, .slice dC dz dB, .bool dF, .bool dD, .slice dH dE dG]) := I5 (Box.new _ _ _)
    have Kz : Hid (z1.rangeAt b2 (o2 + k * 10) [.int .u8 yU, .slice qm qh qk, .slice ql qg qj, .int .u8 fo, .bool yQ, .bool yO, .slice yS yP yR, .bool yX, .bool yV, .slice yZ yW yY]) := I5 (fun j v hv => (World.cell?_of_block (a := ⟨b2, o2 + k * 10 + j, none⟩) (DA.block b2 hb2l)).trans (KC.out j v hv))
    have hb3l := Nat.lt_of_lt_of_le hb2l DA.size
    replace nh := I5 (nh.out.after DA)
    replace xA := I5 (xA.out.after DA)
    replace X := I5 (X.out.after DA)
    replace Y := I5 (Y.out.after DA)
    replace B := B.trans (DA.mono B.size)
    clear_value z1
    generalize wr.heap.size = yE at *
    clear DA fM KC
    have CI := I5 (fun w' (h : Below z1.heap.size z1 w') => IH2.out w' (xA.out.after h) (nh.out.after h))
    refine aP z1.heap.size z1 rfl (by kernel_rfl) (Below.refl _ _) ?_
    refine Lk (.pointer (some ⟨w.heap.size, 2, none⟩)) ?_
    simp only [Act.put, I2, I3, I4]
    refine aa rfl (.slice (some ⟨b2, o2, none⟩) aks.length eT) (fun w' hw => by have := (X.out.after hw).cell 2 rfl; simp [go_sem, this]) ?_
    simp only [Act.put, I2, I3, I4]
    refine Lk (.int .i64 k) ?_
    simp only [Act.put, I2, I3, I4]
    refine aa rfl (.pointer (some ⟨b2, o2 + k * 10, none⟩)) (fun w' hw => by simp [go_sem, cL, Er, mm]) ?_
    simp only [Act.put, I2, I3, I4]
    refine bI rfl 29 _ rfl b2 (o2 + k * 10) rfl [.int .u8 yU, .slice qm qh qk, .slice ql qg qj, .int .u8 fo, .bool yQ, .bool yO, .slice yS yP yR, .bool yX, .bool yV, .slice yZ yW yY] _ Kz.out hb3l Tryz.underlying29 rfl (by kernel_rfl) ?_
    simp only [Act.put, I2, I3, I4]
    refine aU rfl 29 _ rfl Z.out (by rfl) Z.out.lt Tryz.underlying29 rfl (by kernel_rfl) ?_
    simp only [Act.put, I2, I3, I4]
    refine be rfl 33 #[.agg #[.int .u8 yU, .slice qm qh qk, .slice ql qg qj, .int .u8 fo, .bool yQ, .bool yO, .slice yS yP yR, .bool yX, .bool yV, .slice yZ yW yY], .agg #[.int .u8 dt, .slice dp dj dm, .slice dn cZ dk, .int .u8 eo, .bool dA, .bool dy, .slice dC dz dB, .bool dF, .bool dD, .slice dH dE dG]] (fun w' => by simp [go_sem]) (.bool ck) (Nat.le_refl _) (fun w' hw => CI.out w' hw) ?_
    simp only [Act.put, I2, I3, I4]
    refine Lk (.bool (!ck)) ?_
    simp only [Act.put, I2, I3, I4]
    intro z9 JU
    replace X := I5 (X.out.after JU)
    replace Y := I5 (Y.out.after JU)
    replace Z := I5 (Z.out.after JU)
    replace B := B.trans (JU.mono B.size)
    clear JU
    clear CI nh xA Z Kz
    cases ck with
    | false =>
     have HF : Hid (R = false) := I5 (by rw [HD.out]; exact Kj yM aJ gQ.out.symm)
     go_wp2_with fail
     go_ret
     exact ⟨by rw [HF.out] <;> rfl, B⟩
    | true =>
     go_wp2_with fail
     go_roundw
     case rel => exact ⟨k + 1, by omega, by go_num, I5 (fun j h h2 => by
       by_cases hj : j < k
       ·exact Ks.out j hj h2
       ·obtain rfl : j = k := by omega
        exact gQ.out.symm), B, X.out, Y.out⟩
     case measure => simp [intOf]; omega
 replace HD := I5 (HD.out.trans (if_neg h_t4))
 have n4 : du = 3 → ¬ dU = 3 := fun h h2 => h_t4 ⟨h, h2⟩
 clear h_t4
 by_cases a3 : du = 3
 case pos =>
  have gG : ((du : Int) == 3) = true := beq_iff_eq.mpr (by omega)
  have nb3 := n4 a3
  have tb3 : ((dU : Int) == 3) = false := beq_eq_false_iff_ne.mpr (by omega)
  have ta5 : ((du : Int) == 5) = false := beq_eq_false_iff_ne.mpr (by omega)
  have ta6 : ((du : Int) == 6) = false := beq_eq_false_iff_ne.mpr (by omega)
  replace HD := I5 (HD.out.trans (if_neg (fun h => by omega)))
  replace HD := I5 (HD.out.trans (if_neg (fun h => by omega)))
  have gj : ¬ du = 2 := by omega
  clear a3 n4 nb3
  by_cases h2 : du = 2
  case neg =>
   have t2a : ((du : Int) == 2) = false := beq_eq_false_iff_ne.mpr (by omega)
   replace HD : Hid (R = false) := I5 (by rw [HD.out, decide_eq_false h2]; rfl)
   clear h2
   go_wp2_with fail
   go_ret
   exact ⟨by rw [HD.out] <;> rfl, B⟩
  have t2a : ((du : Int) == 2) = true := beq_iff_eq.mpr (by omega)
  replace HD : Hid (R = Tg.takes dU bd ⟨bo, ⟨eB, eA, A3⟩, ⟨eD, eC, A4⟩⟩ ad) := I5 (by rw [HD.out, decide_eq_true h2]; rfl)
  clear h2
  go_wp2_with (refine ab rfl 29 _ rfl Y.out (by rfl) Tryz.underlying29 rfl (by kernel_rfl) ?_)
  refine (kK dU ej fd ft fI bks.length fH bo eB eA fm fe fk A3 eD eC fq ff fp A4 bd eJ dV eI ad x0 (Sb.out.after B) (SLb.out.after B) (by omega) (SHb.out.after B) (by omega) (Sa.out.after B) l1a).mono ?_
  rintro e x1 ⟨rfl, DE⟩
  replace X := I5 (X.out.after DE)
  replace Y := I5 (Y.out.after DE)
  replace B := B.trans (DE.mono B.size)
  clear DE
  go_wp2_with fail
  go_ret
  exact ⟨by rw [HD.out] <;> rfl, B⟩
 have gG : ((du : Int) == 3) = false := beq_eq_false_iff_ne.mpr (by omega)
 clear n4 a3
 by_cases h_t5 : du = 5 ∧ dU = 5
 case pos =>
  obtain ⟨Kq, JU⟩ := h_t5
  have t5a : ((du : Int) == 5) = true := beq_iff_eq.mpr (by omega)
  have t5b : ((dU : Int) == 5) = true := beq_iff_eq.mpr (by omega)
  replace HD := I5 (HD.out.trans (if_pos ⟨Kq, JU⟩))
  clear Kq JU
  go_wp2_with fail
  refine (jh eJ dV eI ad ej fd ft bd x0 (Sa.out.after B) (Sb.out.after B)).mono ?_
  rintro e x1 ⟨rfl, DE⟩
  replace X := I5 (X.out.after DE)
  replace Y := I5 (Y.out.after DE)
  replace B := B.trans (DE.mono B.size)
  clear DE
  go_wp2_with fail
  go_ret
  exact ⟨by rw [HD.out] <;> rfl, B⟩
 replace HD := I5 (HD.out.trans (if_neg h_t5))
 have n5 : du = 5 → ¬ dU = 5 := fun h h2 => h_t5 ⟨h, h2⟩
 clear h_t5
 by_cases a5 : du = 5
 case pos =>
  have ta5 : ((du : Int) == 5) = true := beq_iff_eq.mpr (by omega)
  have nb5 := n5 a5
  have tb5 : ((dU : Int) == 5) = false := beq_eq_false_iff_ne.mpr (by omega)
  have ta6 : ((du : Int) == 6) = false := beq_eq_false_iff_ne.mpr (by omega)
  replace HD := I5 (HD.out.trans (if_neg (fun h => by omega)))
  have gj : ¬ du = 2 := by omega
  clear a5 n5 nb5
  by_cases h2 : du = 2
  case neg =>
   have t2a : ((du : Int) == 2) = false := beq_eq_false_iff_ne.mpr (by omega)
   replace HD : Hid (R = false) := I5 (by rw [HD.out, decide_eq_false h2]; rfl)
   clear h2
   go_wp2_with fail
   go_ret
   exact ⟨by rw [HD.out] <;> rfl, B⟩
  have t2a : ((du : Int) == 2) = true := beq_iff_eq.mpr (by omega)
  replace HD : Hid (R = Tg.takes dU bd ⟨bo, ⟨eB, eA, A3⟩, ⟨eD, eC, A4⟩⟩ ad) := I5 (by rw [HD.out, decide_eq_true h2]; rfl)
  clear h2
  go_wp2_with (refine ab rfl 29 _ rfl Y.out (by rfl) Tryz.underlying29 rfl (by kernel_rfl) ?_)
  refine (kK dU ej fd ft fI bks.length fH bo eB eA fm fe fk A3 eD eC fq ff fp A4 bd eJ dV eI ad x0 (Sb.out.after B) (SLb.out.after B) (by omega) (SHb.out.after B) (by omega) (Sa.out.after B) l1a).mono ?_
  rintro e x1 ⟨rfl, DE⟩
  replace X := I5 (X.out.after DE)
  replace Y := I5 (Y.out.after DE)
  replace B := B.trans (DE.mono B.size)
  clear DE
  go_wp2_with fail
  go_ret
  exact ⟨by rw [HD.out] <;> rfl, B⟩
 have ta5 : ((du : Int) == 5) = false := beq_eq_false_iff_ne.mpr (by omega)
 clear n5 a5
 by_cases h_t6 : du = 6 ∧ dU = 6
 case pos =>
  obtain ⟨Kq, JU⟩ := h_t6
  have t6a : ((du : Int) == 6) = true := beq_iff_eq.mpr (by omega)
  have t6b : ((dU : Int) == 6) = true := beq_iff_eq.mpr (by omega)
  replace HD := I5 (HD.out.trans (if_pos ⟨Kq, JU⟩))
  clear Kq JU
  go_wp2_with first | (refine ai rfl 27 _ rfl _ 3 rfl [.int .u8 ao, .bool dZ, .bool dY, .slice eF ek eE, .bool d8, .bool d7, .slice eH em eG] _ (Box.midR X.out 3 [.int .u8 ao, .bool dZ, .bool dY, .slice eF ek eE, .bool d8, .bool d7, .slice eH em eG] rfl) Tryz.underlying27 rfl (by kernel_rfl) ?_) | (refine ai rfl 27 _ rfl _ 3 rfl [.int .u8 bo, .bool eB, .bool eA, .slice fm fe fk, .bool eD, .bool eC, .slice fq ff fp] _ (Box.midR Y.out 3 [.int .u8 bo, .bool eB, .bool eA, .slice fm fe fk, .bool eD, .bool eC, .slice fq ff fp] rfl) Tryz.underlying27 rfl (by kernel_rfl) ?_)
  refine (JQ ao dZ dY eF ek eE all d8 d7 eH em eG A6 bo eB eA fm fe fk A3 eD eC fq ff fp A4 x0 (SLa.out.after B) (by omega) (SHa.out.after B) (by omega) (SLb.out.after B) (by omega) (SHb.out.after B) (by omega)).mono ?_
  rintro e x1 ⟨rfl, DE⟩
  replace X := I5 (X.out.after DE)
  replace Y := I5 (Y.out.after DE)
  replace B := B.trans (DE.mono B.size)
  clear DE
  go_wp2_with fail
  go_ret
  exact ⟨by rw [HD.out] <;> rfl, B⟩
 replace HD := I5 (HD.out.trans (if_neg h_t6))
 have n6 : du = 6 → ¬ dU = 6 := fun h h2 => h_t6 ⟨h, h2⟩
 clear h_t6
 by_cases a6 : du = 6
 case pos =>
  have ta6 : ((du : Int) == 6) = true := beq_iff_eq.mpr (by omega)
  have nb6 := n6 a6
  have tb6 : ((dU : Int) == 6) = false := beq_eq_false_iff_ne.mpr (by omega)
  have gj : ¬ du = 2 := by omega
  clear a6 n6 nb6
  by_cases h2 : du = 2
  case neg =>
   have t2a : ((du : Int) == 2) = false := beq_eq_false_iff_ne.mpr (by omega)
   replace HD : Hid (R = false) := I5 (by rw [HD.out, decide_eq_false h2]; rfl)
   clear h2
   go_wp2_with fail
   go_ret
   exact ⟨by rw [HD.out] <;> rfl, B⟩
  have t2a : ((du : Int) == 2) = true := beq_iff_eq.mpr (by omega)
  replace HD : Hid (R = Tg.takes dU bd ⟨bo, ⟨eB, eA, A3⟩, ⟨eD, eC, A4⟩⟩ ad) := I5 (by rw [HD.out, decide_eq_true h2]; rfl)
  clear h2
  go_wp2_with (refine ab rfl 29 _ rfl Y.out (by rfl) Tryz.underlying29 rfl (by kernel_rfl) ?_)
  refine (kK dU ej fd ft fI bks.length fH bo eB eA fm fe fk A3 eD eC fq ff fp A4 bd eJ dV eI ad x0 (Sb.out.after B) (SLb.out.after B) (by omega) (SHb.out.after B) (by omega) (Sa.out.after B) l1a).mono ?_
  rintro e x1 ⟨rfl, DE⟩
  replace X := I5 (X.out.after DE)
  replace Y := I5 (Y.out.after DE)
  replace B := B.trans (DE.mono B.size)
  clear DE
  go_wp2_with fail
  go_ret
  exact ⟨by rw [HD.out] <;> rfl, B⟩
 have ta6 : ((du : Int) == 6) = false := beq_eq_false_iff_ne.mpr (by omega)
 clear n6 a6
 by_cases h2 : du = 2
 case neg =>
  have t2a : ((du : Int) == 2) = false := beq_eq_false_iff_ne.mpr (by omega)
  replace HD : Hid (R = false) := I5 (by rw [HD.out, decide_eq_false h2]; rfl)
  clear h2
  go_wp2_with fail
  go_ret
  exact ⟨by rw [HD.out] <;> rfl, B⟩
 have t2a : ((du : Int) == 2) = true := beq_iff_eq.mpr (by omega)
 replace HD : Hid (R = Tg.takes dU bd ⟨bo, ⟨eB, eA, A3⟩, ⟨eD, eC, A4⟩⟩ ad) := I5 (by rw [HD.out, decide_eq_true h2]; rfl)
 clear h2
 go_wp2_with (refine ab rfl 29 _ rfl Y.out (by rfl) Tryz.underlying29 rfl (by kernel_rfl) ?_)
 refine (kK dU ej fd ft fI bks.length fH bo eB eA fm fe fk A3 eD eC fq ff fp A4 bd eJ dV eI ad x0 (Sb.out.after B) (SLb.out.after B) (by omega) (SHb.out.after B) (by omega) (Sa.out.after B) l1a).mono ?_
 rintro e x1 ⟨rfl, DE⟩
 replace X := I5 (X.out.after DE)
 replace Y := I5 (Y.out.after DE)
 replace B := B.trans (DE.mono B.size)
 clear DE
 go_wp2_with fail
 go_ret
 exact ⟨by rw [HD.out] <;> rfl, B⟩
theorem Jm : ∀ n, WithinOk n
 | 0 => fun a b va vb w h => by have := kV a; omega
 | n + 1 => JV n (Jm n)
end Go.Proofs.YtmmkaclmgnpplaaGreatDoor

import Derived.Test.YtmmkaclmgnpplaaGreatDoorMz29
import Derived.Deep.CutBlock
set_option maxRecDepth 100000
set_option maxHeartbeats 64000000
set_option linter.unusedSimpArgs false
set_option linter.unusedVariables false
namespace Go.Proofs.YtmmkaclmgnpplaaGreatDoor
open Go.RowKit
theorem wd (ks : List Tg) (k : Nat) (h : k < ks.length) : Tg.okL (ks.take (k + 1)) = (Tg.okL (ks.take k) && ks[k].ok) := by
 induction ks generalizing k with
 | nil => simp at h
 | cons x s ih =>
  cases k with
  | zero => simp [Tg.okL]
  | succ k =>
   simp only [List.take_succ_cons, Tg.okL, List.getElem_cons_succ]
   rw [ih k (by simpa using h), Bool.and_assoc]
theorem sa (ks : List Sx) (k : Nat) (h : k < ks.length) : Sx.conRL (ks.take (k + 1)) = (Sx.conRL (ks.take k) && ks[k].conR) := by
 induction ks generalizing k with
 | nil => simp at h
 | cons x s ih =>
  cases k with
  | zero => simp [Sx.conRL]
  | succ k =>
   simp only [List.take_succ_cons, Sx.conRL, List.getElem_cons_succ]
   rw [ih k (by simpa using h), Bool.and_assoc]
theorem xh {ks : List Sx} {k : Nat} (h : k < ks.length) (hk : ks[k].conR = false) : Sx.conRL ks = false := by
 induction ks generalizing k with
 | nil => simp at h
 | cons x s ih =>
  cases k with
  | zero => simp only [Sx.conRL]; rw [show x.conR = false from hk]; rfl
  | succ k => simp only [Sx.conRL]; rw [ih (by simpa using h) (by simpa using hk)]; simp
theorem cC {ops : Array Oper} {rest : List Oper} {o : Oper} {a : Act} {w : World} {Q : Exit → Act → World → Prop} (x : Operand) (ho : o.op = .load 29 x)
  (b k : Nat) (hx : a.eval x = .pointer (some ⟨b, k, none⟩)) (v : TV) (hc : w.rangeAt b k v.cells.toList) (dR : Region.wanted o (yielded ops a.tmps) = true) (h : wpList Tryz.prog ops Q rest (a.put o.dst v.val) w) : wpList Tryz.prog ops Q (o :: rest) a w :=
 ai dR 29 x ho b k hx _ _ hc Tryz.underlying29 rfl (by kernel_rfl) h
theorem mW (t : Tg) : ∀ (v : TV) (m : Nat) (w : World), RdT (fun _ => True) w v t → t.wide m = false → Calls Tryz.prog 27 #[v.val] w fun e w' => e = .returned (.bool t.ok) ∧ Below w.heap.size w w' := by
 induction t using Tg.ind with
 | h kd da ks r ih =>
 intro v m w hr hw
 have IH := I5 ih
 clear ih
 obtain ⟨_, g2, g3, g4, g5, g6⟩ := cy hw
 have HG := I5 g6
 clear g6 hw
 obtain ⟨⟨cH, ho, cK, dv, dx, dw, fJ, fF⟩, an, hsl, cf, hn, K, ah, hk⟩ := hr.parts
 obtain ⟨ay, aw, ap, av, aA, aS, az, vo, am, ak, aE, aB, aD, ar, aq, aI, aC, aH⟩ := v
 obtain ⟨ro, ⟨li, lo, ll⟩, ⟨hi, mN, hl⟩⟩ := r
 dsimp only [Tg.kd, Tg.r, Tg.da, Tg.ks] at cH ho cK dv dx dw fJ fF an hsl cf hn ah hk
 subst cH ho cK dv dx dw hn
 have fL := I5 an
 have ke := I5 hsl
 have kf := I5 cf
 have HR := I5 ah
 have HK := I5 hk
 have ep := I5 an.1
 have kF := I5 hsl.1
 have kG := I5 cf.1
 have cF := Nat.le_trans an.2.1 an.2.2.1
 have cE := Nat.le_trans ah.1 ah.2.1
 unfold maxLen at cF cE
 clear an hsl cf ah hk hr
 have HO := I5 (iH ay da ks ⟨vo, ⟨am, ak, ll⟩, ⟨ar, aq, hl⟩⟩)
 rw [show blankT ay da.length ks.length ⟨vo, ⟨am, ak, ll⟩, ⟨ar, aq, hl⟩⟩ = blankT ay ap ks.length ⟨vo, ⟨am, ak, ll⟩, ⟨ar, aq, hl⟩⟩ by rw [ep.out]] at HO
 generalize (Tg.mk ay da ks ⟨vo, ⟨am, ak, ll⟩, ⟨ar, aq, hl⟩⟩).ok = R at *
 obtain ⟨q, hq⟩ : ∃ q, q = sameR ⟨vo, ⟨am, ak, ll⟩, ⟨ar, aq, hl⟩⟩ noR := ⟨_, rfl⟩
 obtain ⟨mb, uu⟩ : ∃ q, q = mayB ⟨vo, ⟨am, ak, ll⟩, ⟨ar, aq, hl⟩⟩ := ⟨_, rfl⟩
 have HB := I5 (show blankT ay ap ks.length ⟨vo, ⟨am, ak, ll⟩, ⟨ar, aq, hl⟩⟩ = (if ay = 1 then !decide (0 < ap) && !decide (0 < ks.length) && q else if ay = 2 ∨ ay = 5 then !decide (0 < ks.length) && q else if ay = 3 ∨ ay = 4 then !decide (0 < ap) && q else decide (ay = 6) && !decide (0 < ap) && !decide (0 < ks.length) && mb) by rw [hq, uu]; rfl)
 have CS := I5 (fun w' (h : Below w.heap.size w w') => tK vo am ak aE aB aD ll ar aq aI aC aH hl 0 false false none 0 0 [] false false none 0 0 [] w' (ke.out.after h) (kf.out.after h) (Sl.nil _) (Sl.nil _))
 simp only [show sameR ⟨vo, ⟨am, ak, ll⟩, ⟨ar, aq, hl⟩⟩ ⟨(0 : Nat), ⟨false, false, []⟩, ⟨false, false, []⟩⟩ = q from hq.symm] at CS
 have CM := I5 (fun w' (h : Below w.heap.size w w') => aW vo am ak aE aB aD ll ar aq aI aC aH hl w' (ke.out.after h) (by have := kF.out; (try dsimp only at g4); omega) (kf.out.after h) (by have := kG.out; (try dsimp only at g5); omega))
 simp only [← uu] at CM
 clear hq uu
 obtain ⟨H0, EZ⟩ : ∃ b, b = (blankT ay ap ks.length ⟨vo, ⟨am, ak, ll⟩, ⟨ar, aq, hl⟩⟩ && !starT ay ks) := ⟨_, rfl⟩
 rw [← EZ] at HO
 have HH := I5 EZ
 generalize blankT ay ap ks.length ⟨vo, ⟨am, ak, ll⟩, ⟨ar, aq, hl⟩⟩ = bl9 at *
 clear EZ
 let x0 := (w.alloc (.cells #[.int .u8 ay, .slice aw ap av, .slice aA ks.length az, .int .u8 vo, .bool am, .bool ak, .slice aE aB aD, .bool ar, .bool aq, .slice aI aC aH] 29))
 have B : Below w.heap.size w x0 := (Below.refl _ _).alloc (Nat.le_refl _) _
 have X : Hid (Box x0 w.heap.size 29 #[.int .u8 ay, .slice aw ap av, .slice aA ks.length az, .int .u8 vo, .bool am, .bool ak, .slice aE aB aD, .bool ar, .bool aq, .slice aI aC aH]) := I5 (Box.new _ _ _)
 show Calls _ _ #[.agg #[.int .u8 ay, .slice aw ap av, .slice aA ks.length az, .int .u8 vo, .bool am, .bool ak, .slice aE aB aD, .bool ar, .bool aq, .slice aI aC aH]] _ _
 go_enter Tryz.func27, Tryz.ntmps27
 go_upto_region 1 with fail
 change Code.wp _ _ _ _ x0
 clear_value x0
 go_wp2_with (refine ai rfl 27 _ rfl _ 3 rfl [.int .u8 vo, .bool am, .bool ak, .slice aE aB aD, .bool ar, .bool aq, .slice aI aC aH] _ (Box.midR X.out 3 [.int .u8 vo, .bool am, .bool ak, .slice aE aB aD, .bool ar, .bool aq, .slice aI aC aH] rfl) Tryz.underlying27 rfl (by kernel_rfl) ?_)
 refine (CS.out x0 B).mono ?_
 rintro e x1 ⟨rfl, bx1⟩
 replace X := I5 (X.out.after bx1)
 replace B := B.trans (bx1.mono B.size)
 clear bx1
 clear CS
 have q0 := X.out.cell 0 rfl
 go_upto_block 0 with fail
 go_cut [4] from 12 to 97 (fun s4 wx => s4 = .bool H0 ∧ Box wx w.heap.size 29 #[.int .u8 ay, .slice aw ap av, .slice aA ks.length az, .int .u8 vo, .bool am, .bool ak, .slice aE aB aD, .bool ar, .bool aq, .slice aI aC aH] ∧ Below w.heap.size w wx)
 case first =>
  have q1 := X.out.cell 1 rfl
  have q2 := X.out.cell 2 rfl
  have nostar : ay ≠ 3 → starT ay ks = false := fun h => by unfold starT; rw [decide_eq_false h]; rfl
  by_cases h1 : ay = 1
  case pos =>
   subst h1
   have ns := nostar (by decide)
   cases q with
   | false =>
    have HF : Hid (H0 = false) := I5 (by rw [HH.out, HB.out]; simp)
    clear HH HB HO
    try clear jo
    try clear cL
    go_wp2_with fail
    go_meet
    exact ⟨by rw [HF.out] <;> rfl, X.out, B⟩
   | true =>
    by_cases jo : ap = 0
    case neg =>
     have tn : ((ap : Int) == 0) = false := beq_eq_false_iff_ne.mpr (by omega)
     have HF : Hid (H0 = false) := I5 (by rw [HH.out, HB.out]; simp [jo, Nat.pos_iff_ne_zero])
     clear HH HB HO
     try clear jo
     try clear cL
     go_wp2_with fail
     go_meet
     exact ⟨by rw [HF.out] <;> rfl, X.out, B⟩
    have tn : ((ap : Int) == 0) = true := beq_iff_eq.mpr (by omega)
    by_cases cL : ks.length = 0
    case neg =>
     have tk : ((ks.length : Int) == 0) = false := beq_eq_false_iff_ne.mpr (by omega)
     have HF : Hid (H0 = false) := I5 (by rw [HH.out, HB.out]; simp [cL, Nat.pos_iff_ne_zero])
     clear HH HB HO
     try clear jo
     try clear cL
     go_wp2_with fail
     go_meet
     exact ⟨by rw [HF.out] <;> rfl, X.out, B⟩
    have tk : ((ks.length : Int) == 0) = true := beq_iff_eq.mpr (by omega)
    have HF : Hid (H0 = true) := I5 (by rw [HH.out, HB.out]; simp [ns, jo, cL])
    clear HH HB HO
    try clear jo
    try clear cL
    go_wp2_with fail
    go_meet
    exact ⟨by rw [HF.out] <;> rfl, X.out, B⟩
  have t1 : ((ay : Int) == 1) = false := by simp; omega
  by_cases h2 : ay = 2
  case pos =>
   subst h2
   have ns := nostar (by decide)
   cases q with
   | false =>
    have HF : Hid (H0 = false) := I5 (by rw [HH.out, HB.out]; simp)
    clear HH HB HO
    try clear jo
    try clear cL
    go_wp2_with fail
    go_meet
    exact ⟨by rw [HF.out] <;> rfl, X.out, B⟩
   | true =>
    by_cases cL : ks.length = 0
    case neg =>
     have tk : ((ks.length : Int) == 0) = false := beq_eq_false_iff_ne.mpr (by omega)
     have HF : Hid (H0 = false) := I5 (by rw [HH.out, HB.out]; simp [cL, Nat.pos_iff_ne_zero])
     clear HH HB HO
     try clear jo
     try clear cL
     go_wp2_with fail
     go_meet
     exact ⟨by rw [HF.out] <;> rfl, X.out, B⟩
    have tk : ((ks.length : Int) == 0) = true := beq_iff_eq.mpr (by omega)
    have HF : Hid (H0 = true) := I5 (by rw [HH.out, HB.out]; simp [ns, cL])
    clear HH HB HO
    try clear jo
    try clear cL
    go_wp2_with fail
    go_meet
    exact ⟨by rw [HF.out] <;> rfl, X.out, B⟩
  have t2 : ((ay : Int) == 2) = false := by simp; omega
  by_cases h5 : ay = 5
  case pos =>
   subst h5
   have ns := nostar (by decide)
   cases q with
   | false =>
    have HF : Hid (H0 = false) := I5 (by rw [HH.out, HB.out]; simp)
    clear HH HB HO
    try clear jo
    try clear cL
    go_wp2_with fail
    go_meet
    exact ⟨by rw [HF.out] <;> rfl, X.out, B⟩
   | true =>
    by_cases cL : ks.length = 0
    case neg =>
     have tk : ((ks.length : Int) == 0) = false := beq_eq_false_iff_ne.mpr (by omega)
     have HF : Hid (H0 = false) := I5 (by rw [HH.out, HB.out]; simp [cL, Nat.pos_iff_ne_zero])
     clear HH HB HO
     try clear jo
     try clear cL
     go_wp2_with fail
     go_meet
     exact ⟨by rw [HF.out] <;> rfl, X.out, B⟩
    have tk : ((ks.length : Int) == 0) = true := beq_iff_eq.mpr (by omega)
    have HF : Hid (H0 = true) := I5 (by rw [HH.out, HB.out]; simp [ns, cL])
    clear HH HB HO
    try clear jo
    try clear cL
    go_wp2_with fail
    go_meet
    exact ⟨by rw [HF.out] <;> rfl, X.out, B⟩
  have t5 : ((ay : Int) == 5) = false := by simp; omega
  by_cases h3 : ay = 3
  case pos =>
   subst h3
   clear nostar
   cases q with
   | false =>
    have HF : Hid (H0 = false) := I5 (by rw [HH.out, HB.out]; simp)
    clear HH HB HO
    try clear jo
    try clear cL
    go_wp2_with fail
    go_meet
    exact ⟨by rw [HF.out] <;> rfl, X.out, B⟩
   | true =>
    by_cases jo : ap = 0
    case neg =>
     have tn : ((ap : Int) == 0) = false := beq_eq_false_iff_ne.mpr (by omega)
     have HF : Hid (H0 = false) := I5 (by rw [HH.out, HB.out]; simp [jo, Nat.pos_iff_ne_zero])
     clear HH HB HO
     try clear jo
     try clear cL
     go_wp2_with fail
     go_meet
     exact ⟨by rw [HF.out] <;> rfl, X.out, B⟩
    have tn : ((ap : Int) == 0) = true := beq_iff_eq.mpr (by omega)
    have BL : Hid (H0 = !headStar ks) := I5 (by rw [HH.out, HB.out]; simp [jo, starT])
    by_cases cL : ks.length = 0
    case pos =>
     have tk : ((ks.length : Int) == 0) = true := beq_iff_eq.mpr (by omega)
     have HF : Hid (H0 = true) := I5 (by rw [BL.out, List.eq_nil_of_length_eq_zero cL]; rfl)
     clear HH HB HO BL
     go_wp2_with fail
     go_meet
     exact ⟨by rw [HF.out] <;> rfl, X.out, B⟩
    have tk : ((ks.length : Int) == 0) = false := beq_eq_false_iff_ne.mpr (by omega)
    have mg : 0 < ks.length := by omega
    have BU : (0 : Int) < ks.length := by omega
    obtain ⟨b, o, rfl, a8⟩ := (HR.out.after B).range mg
    have K0 := HK.out 0 mg
    have yG : headStar ks = (decide ((ks[0]'mg).kd = 2) && ((ks[0]'mg).da == starL)) := by
     cases ks with
     | nil => cases mg
     | cons x s => rfl
    generalize (ks[0]'mg) = k0 at *
    have e1 := K0.parts.1.1
    have e2 := (K0.parts.2.1).after B
    clear K0
    have c0 : x1.cell? ⟨b, o, none⟩ = some (.int .u8 (K 0).kd) := by have := a8 0 _ rfl; simpa using this
    have c1 : x1.cell? ⟨b, o + 1, none⟩ = some (.slice (K 0).a1 (K 0).n1 (K 0).c1) := by have := a8 1 _ rfl; simpa using this
    clear a8
    by_cases nM : k0.kd = 2
    case neg =>
     have t2b : (((K 0).kd : Int) == 2) = false := by simp; omega
     have t2c : (((K 0).kd : Int) != 2) = true := by simp; omega
     have HF : Hid (H0 = true) := I5 (by rw [BL.out, yG, decide_eq_false nM]; rfl)
     clear HH HB HO BL yG e1 e2 nM
     go_wp2_with fail
     go_meet
     exact ⟨by rw [HF.out] <;> rfl, X.out, B⟩
    have t2b : (((K 0).kd : Int) == 2) = true := by simp; omega
    have t2c : (((K 0).kd : Int) != 2) = false := by simp; omega
    have EE := bv e2
    have DK : Hid (H0 = !(k0.da == [42])) := I5 (by rw [BL.out, yG, decide_eq_true nM]; rfl)
    clear HH HB HO BL yG e1 e2 nM
    generalize k0.da = dl at *
    cases F6 : (dl == [42]) with
    | true =>
     have HF : Hid (H0 = false) := I5 (by rw [DK.out, F6]; rfl)
     clear DK
     go_wp2_with fail
     go_meet
     exact ⟨by rw [HF.out] <;> rfl, X.out, B⟩
    | false =>
     have HF : Hid (H0 = true) := I5 (by rw [DK.out, F6]; rfl)
     clear DK
     go_wp2_with fail
     go_meet
     exact ⟨by rw [HF.out] <;> rfl, X.out, B⟩
  have t3 : ((ay : Int) == 3) = false := by simp; omega
  by_cases h4 : ay = 4
  case pos =>
   subst h4
   have ns := nostar (by decide)
   cases q with
   | false =>
    have HF : Hid (H0 = false) := I5 (by rw [HH.out, HB.out]; simp)
    clear HH HB HO
    try clear jo
    try clear cL
    go_wp2_with fail
    go_meet
    exact ⟨by rw [HF.out] <;> rfl, X.out, B⟩
   | true =>
    by_cases jo : ap = 0
    case neg =>
     have tn : ((ap : Int) == 0) = false := beq_eq_false_iff_ne.mpr (by omega)
     have HF : Hid (H0 = false) := I5 (by rw [HH.out, HB.out]; simp [jo, Nat.pos_iff_ne_zero])
     clear HH HB HO
     try clear jo
     try clear cL
     go_wp2_with fail
     go_meet
     exact ⟨by rw [HF.out] <;> rfl, X.out, B⟩
    have tn : ((ap : Int) == 0) = true := beq_iff_eq.mpr (by omega)
    have HF : Hid (H0 = true) := I5 (by rw [HH.out, HB.out]; simp [ns, jo])
    clear HH HB HO
    try clear jo
    try clear cL
    go_wp2_with fail
    go_meet
    exact ⟨by rw [HF.out] <;> rfl, X.out, B⟩
  have t4 : ((ay : Int) == 4) = false := by simp; omega
  by_cases h6 : ay = 6
  case neg =>
   have t6 : ((ay : Int) == 6) = false := by simp; omega
   have HF : Hid (H0 = false) := I5 (by rw [HH.out, HB.out]; simp [h1, h2, h5, h3, h4, h6])
   clear HH HB HO
   try clear jo
   try clear cL
   go_wp2_with fail
   go_meet
   exact ⟨by rw [HF.out] <;> rfl, X.out, B⟩
  subst h6
  have ns := nostar (by decide)
  clear t1 t2 t5 t3 t4
  go_wp2_with (refine ai rfl 27 _ rfl _ 3 rfl [.int .u8 vo, .bool am, .bool ak, .slice aE aB aD, .bool ar, .bool aq, .slice aI aC aH] _ (Box.midR X.out 3 [.int .u8 vo, .bool am, .bool ak, .slice aE aB aD, .bool ar, .bool aq, .slice aI aC aH] rfl) Tryz.underlying27 rfl (by kernel_rfl) ?_)
  refine (CM.out x1 B).mono ?_
  rintro e x2 ⟨rfl, bx2⟩
  replace X := I5 (X.out.after bx2)
  replace B := B.trans (bx2.mono B.size)
  clear bx2
  have q1 := X.out.cell 1 rfl
  have q2 := X.out.cell 2 rfl
  cases mb with
  | false =>
   have HF : Hid (H0 = false) := I5 (by rw [HH.out, HB.out]; simp)
   clear HH HB HO
   try clear jo
   try clear cL
   go_wp2_with fail
   go_meet
   exact ⟨by rw [HF.out] <;> rfl, X.out, B⟩
  | true =>
   by_cases jo : ap = 0
   case neg =>
    have tn : ((ap : Int) == 0) = false := beq_eq_false_iff_ne.mpr (by omega)
    have HF : Hid (H0 = false) := I5 (by rw [HH.out, HB.out]; simp [jo, Nat.pos_iff_ne_zero])
    clear HH HB HO
    try clear jo
    try clear cL
    go_wp2_with fail
    go_meet
    exact ⟨by rw [HF.out] <;> rfl, X.out, B⟩
   have tn : ((ap : Int) == 0) = true := beq_iff_eq.mpr (by omega)
   by_cases cL : ks.length = 0
   case neg =>
    have tk : ((ks.length : Int) == 0) = false := beq_eq_false_iff_ne.mpr (by omega)
    have HF : Hid (H0 = false) := I5 (by rw [HH.out, HB.out]; simp [cL, Nat.pos_iff_ne_zero])
    clear HH HB HO
    try clear jo
    try clear cL
    go_wp2_with fail
    go_meet
    exact ⟨by rw [HF.out] <;> rfl, X.out, B⟩
   have tk : ((ks.length : Int) == 0) = true := beq_iff_eq.mpr (by omega)
   have HF : Hid (H0 = true) := I5 (by rw [HH.out, HB.out]; simp [ns, jo, cL])
   clear HH HB HO
   try clear jo
   try clear cL
   go_wp2_with fail
   go_meet
   exact ⟨by rw [HF.out] <;> rfl, X.out, B⟩
 case rest =>
  clear q0 X B CM
  obtain ⟨rfl, X, B⟩ := hcut
  replace X := I5 X
  have q2 := X.out.cell 2 rfl
  clear HH HB
  go_wp2_with fail
  go_loopw [4, 98] (fun s4 i wr => ∃ (k : Nat) (c9 : Bool), k ≤ ks.length ∧ s4 = .bool c9 ∧ i = .int .i64 k ∧ Hid (c9 = (H0 && Tg.okL (ks.take k))) ∧ Below w.heap.size w wr ∧ Box wr w.heap.size 29 #[.int .u8 ay, .slice aw ap av, .slice aA ks.length az, .int .u8 vo, .bool am, .bool ak, .slice aE aB aD, .bool ar, .bool aq, .slice aI aC aH]) (fun _ i _ => ks.length - (intOf i).toNat)
  case atStart => exact ⟨0, H0, Nat.zero_le _, rfl, rfl, I5 (by simp [Tg.okL]), B, X.out⟩
  case round =>
   clear q2 X B
   obtain ⟨k, c9, fy, rfl, rfl, hc9, B, hX⟩ := hrel
   have X := I5 hX
   clear hX
   have q2 := X.out.cell 2 rfl
   by_cases aJ : k < ks.length
   case neg =>
    have fS : ¬ (k : Int) < ks.length := by omega
    have HF : Hid (R = c9) := I5 (by rw [HO.out, hc9.out, List.take_of_length_le (by omega)])
    go_wp2_with fail
    go_ret
    exact ⟨by rw [HF.out] <;> rfl, B⟩
   case pos =>
    have fS : (k : Int) < ks.length := by omega
    have cL : (0 : Int) ≤ k := by omega
    obtain ⟨b, o, rfl, a8⟩ := (HR.out.after B).range aJ
    have jy := I5 (wd ks k aJ)
    cases c9 with
    | false =>
     have HN : Hid (false = (H0 && Tg.okL (ks.take (k + 1)))) := I5 (by rw [jy.out, ← Bool.and_assoc, ← hc9.out]; rfl)
     go_wp2_with fail
     go_roundw
     case rel => exact ⟨k + 1, false, by omega, rfl, by go_num, HN, B, X.out⟩
     case measure => simp [intOf]; omega
    | true =>
     obtain ⟨ck, fT⟩ : ∃ ck, ck = ks[k].ok := ⟨_, rfl⟩
     have IH2 := I5 (IH.out _ (List.getElem_mem aJ) (K k) (m + 1) wr ((HK.out k aJ).after B) (HG.out _ (List.getElem_mem aJ)))
     rw [← fT] at IH2 jy
     have HN : Hid (ck = (H0 && Tg.okL (ks.take (k + 1)))) := I5 (by rw [jy.out, ← Bool.and_assoc, ← hc9.out]; rfl)
     have fM := I5 a8
     clear a8 fT
     go_wp2_with (refine cC _ rfl b _ rfl _ fM.out rfl ?_)
     refine IH2.out.mono ?_
     rintro e z1 ⟨rfl, af⟩
     have B1 := B.trans (af.mono B.size)
     replace X := I5 (X.out.after af)
     clear af B IH2 fM
     go_wp2_with fail
     go_roundw
     case rel => exact ⟨k + 1, ck, by omega, rfl, by go_num, HN, B1, X.out⟩
     case measure => simp [intOf]; omega
end Go.Proofs.YtmmkaclmgnpplaaGreatDoor

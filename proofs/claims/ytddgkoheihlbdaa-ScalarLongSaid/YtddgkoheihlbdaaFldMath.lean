/- Field: limbs of 51 bits: plain numbers. -/
namespace Go.Proofs.Ytddgkoheihlbdaa

structure L5 where
  a : Nat
  b : Nat
  c : Nat
  d : Nat
  e : Nat
def P25 : Nat := 57896044618658097711785492504343953926634992332820282019728792003956564819949
def L5.val (x : L5) : Nat := x.a + 2251799813685248 * x.b + 5070602400912917605986812821504 * x.c + 11417981541647679048466287755595961091061972992 * x.d + 25711008708143844408671393477458601640355247900524685364822016 * x.e
/-- each limb below a bound -/
def L5.lt (x : L5) (m : Nat) : Prop := x.a < m ∧ x.b < m ∧ x.c < m ∧ x.d < m ∧ x.e < m
def car (x : Nat) : Nat := x / 2251799813685248
def low (x : Nat) : Nat := x % 2251799813685248
theorem car_low (x : Nat) : x = 2251799813685248 * car x + low x := by unfold car low; omega
theorem low_lt (x : Nat) : low x < 2251799813685248 := by unfold low; omega
/-- the carries -/
def L5.c1 (x : L5) : Nat := car x.a
def L5.c2 (x : L5) : Nat := car (x.b + x.c1)
def L5.c3 (x : L5) : Nat := car (x.c + x.c2)
def L5.c4 (x : L5) : Nat := car (x.d + x.c3)
def L5.c5 (x : L5) : Nat := car (x.e + x.c4)
/-- carried, what is above 2^255 left out -/
def L5.cut (x : L5) : L5 := ⟨low x.a, low (x.b + x.c1), low (x.c + x.c2), low (x.d + x.c3), low (x.e + x.c4)⟩
def L5.cry (x : L5) : L5 := ⟨low x.a + 19 * x.c5, low (x.b + x.c1), low (x.c + x.c2), low (x.d + x.c3), low (x.e + x.c4)⟩

theorem cut_val (x : L5) : x.val = x.cut.val + 57896044618658097711785492504343953926634992332820282019728792003956564819968 * x.c5 := by
  have h1 := car_low x.a
  have h2 := car_low (x.b + x.c1)
  have h3 := car_low (x.c + x.c2)
  have h4 := car_low (x.d + x.c3)
  have h5 := car_low (x.e + x.c4)
  have g1 : car x.a = x.c1 := rfl
  have g2 : car (x.b + x.c1) = x.c2 := rfl
  have g3 : car (x.c + x.c2) = x.c3 := rfl
  have g4 : car (x.d + x.c3) = x.c4 := rfl
  have g5 : car (x.e + x.c4) = x.c5 := rfl
  rw [g1] at h1
  rw [g2] at h2
  rw [g3] at h3
  rw [g4] at h4
  rw [g5] at h5
  simp only [L5.val, L5.cut]
  omega
theorem cut_lt (x : L5) : x.cut.lt 2251799813685248 := ⟨low_lt _, low_lt _, low_lt _, low_lt _, low_lt _⟩
theorem cut_bd (x : L5) (h : x.lt 2251799813685248) : x.val < 57896044618658097711785492504343953926634992332820282019728792003956564819968 := by
  obtain ⟨h1, h2, h3, h4, h5⟩ := h
  simp only [L5.val]; omega
theorem cry_val (x : L5) : x.val = x.cry.val + P25 * x.c5 := by
  have h := cut_val x
  have e : x.cry.val = x.cut.val + 19 * x.c5 := by simp only [L5.val, L5.cry, L5.cut]; omega
  unfold P25; omega
theorem cry_mod (x : L5) : x.cry.val % P25 = x.val % P25 := by
  rw [cry_val x, Nat.add_mul_mod_self_left]
theorem car_bd (x m : Nat) (h : x < 2251799813685248 * m) : car x < m := by unfold car; omega
theorem c5_bd (x : L5) (h : x.lt 9223372036854775808) : x.c1 ≤ 4096 ∧ x.c2 ≤ 4096 ∧ x.c3 ≤ 4096 ∧ x.c4 ≤ 4096 ∧ x.c5 ≤ 4096 := by
  obtain ⟨h1, h2, h3, h4, h5⟩ := h
  have g1 : x.c1 ≤ 4096 := by unfold L5.c1 car; omega
  have g2 : x.c2 ≤ 4096 := by unfold L5.c2 car; omega
  have g3 : x.c3 ≤ 4096 := by unfold L5.c3 car; omega
  have g4 : x.c4 ≤ 4096 := by unfold L5.c4 car; omega
  have g5 : x.c5 ≤ 4096 := by unfold L5.c5 car; omega
  exact ⟨g1, g2, g3, g4, g5⟩
theorem cry_lt (x : L5) (h : x.lt 9223372036854775808) : x.cry.a < 2251799813763072 + 1 ∧ x.cry.b < 2251799813685248 ∧ x.cry.c < 2251799813685248 ∧ x.cry.d < 2251799813685248 ∧ x.cry.e < 2251799813685248 := by
  have := c5_bd x h
  have := low_lt x.a
  refine ⟨?_, low_lt _, low_lt _, low_lt _, low_lt _⟩
  simp only [L5.cry]; omega
/-- three times carried it is below 2^255, each limb below 2^51 -/
theorem cry3 (x : L5) (h : x.lt 9223372036854775808) : x.cry.cry.cry.lt 2251799813685248 ∧ x.cry.cry.cry.val % P25 = x.val % P25 := by
  refine ⟨?_, by rw [cry_mod, cry_mod, cry_mod]⟩
  obtain ⟨a1, a2, a3, a4, a5⟩ := cry_lt x h
  obtain ⟨y, hy⟩ : ∃ y, y = x.cry := ⟨_, rfl⟩
  rw [← hy] at a1 a2 a3 a4 a5 ⊢
  -- the second time
  have e1 : y.c1 ≤ 1 := by unfold L5.c1 car; omega
  have e2 : y.c2 ≤ 1 := by unfold L5.c2 car; omega
  have e3 : y.c3 ≤ 1 := by unfold L5.c3 car; omega
  have e4 : y.c4 ≤ 1 := by unfold L5.c4 car; omega
  have e5 : y.c5 ≤ 1 := by unfold L5.c5 car; omega
  have l1 := low_lt y.a
  obtain ⟨z, hz⟩ : ∃ z, z = y.cry := ⟨_, rfl⟩
  have z1 : z.a < 2251799813685248 + 19 := by rw [hz]; simp only [L5.cry]; omega
  have z2 : z.b < 2251799813685248 := by rw [hz]; exact low_lt _
  have z3 : z.c < 2251799813685248 := by rw [hz]; exact low_lt _
  have z4 : z.d < 2251799813685248 := by rw [hz]; exact low_lt _
  have z5 : z.e < 2251799813685248 := by rw [hz]; exact low_lt _
  rw [← hz]
  refine ⟨?_, low_lt _, low_lt _, low_lt _, low_lt _⟩
  -- the third time
  by_cases hc : z.c5 = 0
  · simp only [L5.cry, hc]; have := low_lt z.a; omega
  · have f5 : z.c5 ≤ 1 := by
      have g1 : z.c1 ≤ 1 := by unfold L5.c1 car; omega
      have g2 : z.c2 ≤ 1 := by unfold L5.c2 car; omega
      have g3 : z.c3 ≤ 1 := by unfold L5.c3 car; omega
      have g4 : z.c4 ≤ 1 := by unfold L5.c4 car; omega
      unfold L5.c5 car; omega
    have k4 : z.c4 ≠ 0 := by intro h0; apply hc; unfold L5.c5 car; rw [h0]; omega
    have k3 : z.c3 ≠ 0 := by intro h0; apply k4; unfold L5.c4 car; rw [h0]; omega
    have k2 : z.c2 ≠ 0 := by intro h0; apply k3; unfold L5.c3 car; rw [h0]; omega
    have k1 : z.c1 ≠ 0 := by intro h0; apply k2; unfold L5.c2 car; rw [h0]; omega
    have hz1 : 2251799813685248 ≤ z.a := by
      unfold L5.c1 car at k1; omega
    simp only [L5.cry]
    have : low z.a < 19 := by unfold low; omega
    omega
/-- with 19 put to the first limb -/
def L5.more (x : L5) : L5 := ⟨x.a + 19, x.b, x.c, x.d, x.e⟩
def L5.red (x : L5) : L5 := if 0 < x.cry.cry.cry.more.c5 then x.cry.cry.cry.more.cut else x.cry.cry.cry
theorem red_ok (x : L5) (h : x.lt 9223372036854775808) : x.red.lt 2251799813685248 ∧ x.red.val = x.val % P25 := by
  obtain ⟨h1, h2⟩ := cry3 x h
  unfold L5.red
  obtain ⟨y, hy⟩ : ∃ y, y = x.cry.cry.cry := ⟨_, rfl⟩
  rw [← hy] at h1 h2 ⊢
  have hb := cut_bd y h1
  have hm : y.more.val = y.val + 19 := by simp only [L5.val, L5.more]; omega
  have hc := cut_val y.more
  have hl := cut_lt y.more
  have hlb := cut_bd y.more.cut hl
  rw [hm] at hc
  by_cases h0 : 0 < y.more.c5
  · rw [if_pos h0]
    refine ⟨hl, ?_⟩
    rw [← h2]
    have c1 : y.more.c5 = 1 := by omega
    rw [c1] at hc
    have : y.val = y.more.cut.val + P25 * 1 := by unfold P25; omega
    rw [this, Nat.add_mul_mod_self_left, Nat.mod_eq_of_lt (by unfold P25; omega)]
  · rw [if_neg h0]
    refine ⟨h1, ?_⟩
    rw [← h2]
    have c0 : y.more.c5 = 0 := by omega
    rw [c0] at hc
    rw [Nat.mod_eq_of_lt (by unfold P25; omega)]
end Go.Proofs.Ytddgkoheihlbdaa

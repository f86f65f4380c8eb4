/- Plain lemmas on turning a number of W bits. -/
namespace Go.Ob.Rot
/-- a number cut at a, and at twice a -/
theorem cut2 (x a : Int) (ha : 0 < a) : ∃ q t l, x / (2 * a) = q ∧ x % (2 * a) = t * a + l ∧ x / a = 2 * q + t ∧ x % a = l ∧ 0 ≤ l ∧ l < a ∧ (t = 0 ∨ t = 1) := by
  have e := Int.emod_add_mul_ediv x (2 * a)
  have r0 := Int.emod_nonneg x (show 2 * a ≠ 0 by omega)
  have r1 := Int.emod_lt_of_pos x (show 0 < 2 * a by omega)
  generalize hq : x / (2 * a) = q at *
  generalize hr : x % (2 * a) = r at *
  have hm : 2 * a * q = 2 * (a * q) := Int.mul_assoc _ _ _
  by_cases c : r < a
  · have := (Int.ediv_emod_unique (a := x) (b := a) (r := r) (q := 2 * q) ha).mpr ⟨by rw [show a * (2 * q) = 2 * (a * q) by rw [← Int.mul_assoc, Int.mul_comm a 2, Int.mul_assoc]]; omega, r0, c⟩
    exact ⟨q, 0, r, rfl, by omega, by omega, this.2, r0, c, .inl rfl⟩
  · have := (Int.ediv_emod_unique (a := x) (b := a) (r := r - a) (q := 2 * q + 1) ha).mpr ⟨by rw [Int.mul_add, show a * (2 * q) = 2 * (a * q) by rw [← Int.mul_assoc, Int.mul_comm a 2, Int.mul_assoc]]; omega, by omega, by omega⟩
    exact ⟨q, 1, r - a, rfl, by omega, by omega, this.2, by omega, by omega, .inr rfl⟩
def rotl (W : Nat) (x : Int) (i : Nat) : Int := (x % 2 ^ (W - i)) * 2 ^ i + x / 2 ^ (W - i)
def rotr (W : Nat) (x : Int) (i : Nat) : Int := x / 2 ^ i + (x % 2 ^ i) * 2 ^ (W - i)
theorem rotl_step (W i : Nat) (hi : i < W) (x M H : Int) (hM : M = 2 ^ W) (hH : 2 * H = M) (h0 : 0 ≤ x) (h1 : x < M) :
    rotl W x (i + 1) = (2 * rotl W x i) % M + (if rotl W x i ≥ H then 1 else 0) ∧ 0 ≤ rotl W x i ∧ rotl W x i < M := by
  unfold rotl
  have ha : (0 : Int) < 2 ^ (W - (i + 1)) := Int.pow_pos (by decide)
  have hb : (0 : Int) < 2 ^ i := Int.pow_pos (by decide)
  have e1 : (2 : Int) ^ (W - i) = 2 * 2 ^ (W - (i + 1)) := by rw [show W - i = (W - (i + 1)) + 1 by omega, Int.pow_succ, Int.mul_comm]
  have e2 : (2 : Int) ^ (i + 1) = 2 * 2 ^ i := by rw [Int.pow_succ, Int.mul_comm]
  have e3 : M = 2 * (2 ^ (W - (i + 1)) * 2 ^ i) := by rw [hM, ← Int.pow_add, ← Int.pow_succ', show W - (i + 1) + i + 1 = W by omega]
  rw [e1, e2]
  generalize (2 : Int) ^ (W - (i + 1)) = a at *
  generalize (2 : Int) ^ i = b at *
  obtain ⟨q, t, l, c1, c2, c3, c4, l0, l1, ht⟩ := cut2 x a ha
  rw [c1, c2, c3, c4]
  have hq0 : 0 ≤ q := by rw [← c1]; exact Int.ediv_nonneg h0 (by omega)
  have hq1 : q < b := by
    rw [← c1]
    refine Int.ediv_lt_of_lt_mul (by omega) ?_
    rw [show b * (2 * a) = 2 * (a * b) by rw [← Int.mul_assoc, Int.mul_comm b 2, Int.mul_assoc, Int.mul_comm b a]]
    omega
  have hP0 : 0 ≤ l * b := Int.mul_nonneg l0 (by omega)
  have hP1 : l * b + b ≤ a * b := by
    have := Int.mul_le_mul_of_nonneg_right (show l + 1 ≤ a by omega) (show 0 ≤ b by omega)
    rw [Int.add_mul, Int.one_mul] at this
    exact this
  have hl2 : l * (2 * b) = 2 * (l * b) := by rw [← Int.mul_assoc, Int.mul_comm l 2, Int.mul_assoc]
  rw [hl2]
  generalize hPd : l * b = P at *
  generalize hA : a * b = A at *
  rcases ht with rfl | rfl
  · have e : (0 * a + l) * b = l * b := by rw [Int.zero_mul, Int.zero_add]
    rw [e]
    rw [hPd, if_neg (by omega), e3, Int.emod_eq_of_lt (by omega) (by omega)]
    omega
  · have e : (1 * a + l) * b = a * b + l * b := by rw [Int.one_mul, Int.add_mul]
    rw [e]
    rw [hPd, hA, if_pos (by omega), e3]
    have : (2 * (A + P + q)) % (2 * A) = 2 * P + 2 * q := by
      rw [show 2 * (A + P + q) = 2 * P + 2 * q + 2 * A by omega, Int.add_emod_right, Int.emod_eq_of_lt (by omega) (by omega)]
    rw [this]
    omega
theorem rotr_step (W i : Nat) (hi : i < W) (x M H : Int) (hM : M = 2 ^ W) (hH : 2 * H = M) (h0 : 0 ≤ x) (h1 : x < M) :
    rotr W x (i + 1) = rotr W x i / 2 + (rotr W x i % 2) * H ∧ 0 ≤ rotr W x i ∧ rotr W x i < M := by
  unfold rotr
  have ha : (0 : Int) < 2 ^ i := Int.pow_pos (by decide)
  have hb : (0 : Int) < 2 ^ (W - (i + 1)) := Int.pow_pos (by decide)
  have e1 : (2 : Int) ^ (W - i) = 2 * 2 ^ (W - (i + 1)) := by rw [show W - i = (W - (i + 1)) + 1 by omega, Int.pow_succ, Int.mul_comm]
  have e2 : (2 : Int) ^ (i + 1) = 2 * 2 ^ i := by rw [Int.pow_succ, Int.mul_comm]
  have e3 : M = 2 * (2 ^ i * 2 ^ (W - (i + 1))) := by rw [hM, ← Int.pow_add, ← Int.pow_succ', show i + (W - (i + 1)) + 1 = W by omega]
  rw [e1, e2]
  generalize (2 : Int) ^ (W - (i + 1)) = b at *
  generalize (2 : Int) ^ i = a at *
  obtain ⟨q, t, l, c1, c2, c3, c4, l0, l1, ht⟩ := cut2 x a ha
  rw [c1, c2, c3, c4]
  have hq0 : 0 ≤ q := by rw [← c1]; exact Int.ediv_nonneg h0 (by omega)
  have hq1 : q < b := by
    rw [← c1]
    refine Int.ediv_lt_of_lt_mul (by omega) ?_
    rw [show b * (2 * a) = 2 * (a * b) by rw [← Int.mul_assoc, Int.mul_comm b 2, Int.mul_assoc, Int.mul_comm b a]]
    omega
  have hP0 : 0 ≤ l * b := Int.mul_nonneg l0 (by omega)
  have hP1 : l * b + b ≤ a * b := by
    have := Int.mul_le_mul_of_nonneg_right (show l + 1 ≤ a by omega) (show 0 ≤ b by omega)
    rw [Int.add_mul, Int.one_mul] at this
    exact this
  have hl2 : l * (2 * b) = 2 * (l * b) := by rw [← Int.mul_assoc, Int.mul_comm l 2, Int.mul_assoc]
  rw [hl2]
  have hHA : H = a * b := by omega
  rw [hHA]
  rcases ht with rfl | rfl
  · rw [show (0 * a + l) * b = l * b by rw [Int.zero_mul, Int.zero_add]]
    generalize l * b = P at *
    generalize a * b = A at *
    rw [show (2 * q + 0 + 2 * P) % 2 = 0 by omega, Int.zero_mul]
    omega
  · rw [show (1 * a + l) * b = a * b + l * b by rw [Int.one_mul, Int.add_mul]]
    generalize l * b = P at *
    generalize a * b = A at *
    rw [show (2 * q + 1 + 2 * P) % 2 = 1 by omega, Int.one_mul]
    omega
theorem rotl_zero (W : Nat) (x : Int) (h0 : 0 ≤ x) (h1 : x < 2 ^ W) : rotl W x 0 = x := by
  unfold rotl
  rw [Nat.sub_zero, Int.emod_eq_of_lt h0 h1, Int.ediv_eq_zero_of_lt h0 h1]
  omega
theorem rotr_zero (W : Nat) (x : Int) : rotr W x 0 = x := by
  unfold rotr
  simp
theorem rotl_back (W i : Nat) (hi : i ≤ W) (x : Int) : rotl W x (W - i) = rotr W x i := by
  unfold rotl rotr
  rw [show W - (W - i) = i by omega]
  omega
/-- turned to the left, and back -/
theorem rotr_rotl (W i : Nat) (hi : i ≤ W) (x : Int) (h0 : 0 ≤ x) (h1 : x < 2 ^ W) : rotr W (rotl W x i) i = x := by
  unfold rotl rotr
  have ha : (0 : Int) < 2 ^ i := Int.pow_pos (by decide)
  have hb : (0 : Int) < 2 ^ (W - i) := Int.pow_pos (by decide)
  have hq1 : x / 2 ^ (W - i) < 2 ^ i := Int.ediv_lt_of_lt_mul hb (by rw [← Int.pow_add, show i + (W - i) = W by omega]; exact h1)
  have hq0 : 0 ≤ x / 2 ^ (W - i) := Int.ediv_nonneg h0 (by omega)
  have e := Int.emod_add_mul_ediv x (2 ^ (W - i))
  have u := (Int.ediv_emod_unique (a := x % 2 ^ (W - i) * 2 ^ i + x / 2 ^ (W - i)) (b := 2 ^ i) (r := x / 2 ^ (W - i)) (q := x % 2 ^ (W - i)) ha).mpr ⟨by rw [Int.mul_comm (2 ^ i)]; omega, hq0, hq1⟩
  rw [u.1, u.2, Int.mul_comm]
  exact e
end Go.Ob.Rot

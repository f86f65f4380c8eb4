/- Plain lemmas: one digit of a long division (B: the base, y = y1 * B + y0 with y1 at least half of B). -/
namespace Go.Ob.Knuth
set_option linter.unusedVariables false

/-- what one digit's loop keeps: q and what is left of u -/
structure St (B y1 y0 u u1 q r : Int) : Prop where
  eq : u = q * y1 + r
  r0 : 0 ≤ r
  hi : (u * B + u1) / (y1 * B + y0) ≤ q
  top : q ≤ B + 1

/-- the numbers of one digit -/
structure Nums (B y1 y0 u u1 : Int) : Prop where
  hB : 0 < B
  h1 : B ≤ 2 * y1
  h1' : y1 < B
  h0 : 0 ≤ y0
  h0' : y0 < B
  hu : 0 ≤ u
  huy : u < y1 * B + y0
  hv : 0 ≤ u1
  hv' : u1 < B

variable {B y1 y0 u u1 q r : Int}

theorem Nums.y (h : Nums B y1 y0 u u1) : 0 < y1 * B + y0 := by
  have := Int.mul_pos (show 0 < y1 by have := h.h1; have := h.hB; omega) h.hB
  have := h.h0
  omega
theorem Nums.true_lt (h : Nums B y1 y0 u u1) : (u * B + u1) / (y1 * B + y0) < B := by
  refine Int.ediv_lt_of_lt_mul h.y ?_
  have h2 : (u + 1) * B ≤ (y1 * B + y0) * B := Int.mul_le_mul_of_nonneg_right (by have := h.huy; omega) (Int.le_of_lt h.hB)
  rw [Int.mul_comm B]
  have := h.hv'
  rw [Int.add_mul] at h2
  omega
theorem Nums.true_nonneg (h : Nums B y1 y0 u u1) : 0 ≤ (u * B + u1) / (y1 * B + y0) := by
  refine Int.ediv_nonneg ?_ (Int.le_of_lt h.y)
  have := Int.mul_nonneg h.hu (Int.le_of_lt h.hB)
  have := h.hv
  omega

theorem Nums.start (h : Nums B y1 y0 u u1) : St B y1 y0 u u1 (u / y1) (u - u / y1 * y1) ∧ u - u / y1 * y1 < y1 := by
  have hy1 : 0 < y1 := by have := h.h1; have := h.hB; omega
  have e := Int.emod_add_mul_ediv u y1
  have m0 := Int.emod_nonneg u (show y1 ≠ 0 by omega)
  have m1 := Int.emod_lt_of_pos u hy1
  have hc : u / y1 * y1 = y1 * (u / y1) := Int.mul_comm _ _
  refine ⟨⟨by omega, by omega, ?_, ?_⟩, by omega⟩
  · -- the true digit is at most u / y1
    have hlt : (u * B + u1) / (y1 * B + y0) < u / y1 + 1 := by
      refine Int.ediv_lt_of_lt_mul h.y ?_
      have h2 : u + 1 ≤ (u / y1 + 1) * y1 := by rw [Int.add_mul, hc]; omega
      have h3 : (u + 1) * B ≤ (u / y1 + 1) * y1 * B := Int.mul_le_mul_of_nonneg_right h2 (Int.le_of_lt h.hB)
      have h4 : 0 ≤ (u / y1 + 1) * y0 := Int.mul_nonneg (by have := Int.ediv_nonneg h.hu (Int.le_of_lt hy1); omega) h.h0
      rw [Int.mul_add, ← Int.mul_assoc]
      rw [Int.add_mul u 1 B] at h3
      have := h.hv'
      omega
    omega
  · have h2 : u / y1 * y1 < (B + 2) * y1 := by
      rw [Int.add_mul, Int.mul_comm B y1]
      have := h.huy
      have := h.h0'
      have := h.h1
      omega
    have := Int.lt_of_mul_lt_mul_right h2 (Int.le_of_lt hy1)
    omega

theorem Nums.step (h : Nums B y1 y0 u u1) (s : St B y1 y0 u u1 q r) (hc : B ≤ q ∨ B * r + u1 < q * y0) : St B y1 y0 u u1 (q - 1) (r + y1) := by
  have hy1 : 0 < y1 := by have := h.h1; have := h.hB; omega
  refine ⟨by rw [Int.sub_mul, s.eq]; omega, by have := s.r0; omega, ?_, by have := s.top; omega⟩
  have hlt : (u * B + u1) / (y1 * B + y0) < q := by
    rcases hc with hc | hc
    · have := h.true_lt; omega
    · refine Int.ediv_lt_of_lt_mul h.y ?_
      rw [s.eq, Int.add_mul, Int.mul_add, ← Int.mul_assoc, Int.mul_comm r B]
      omega
  omega

/-- the loop is over: q is the digit -/
theorem Nums.done (h : Nums B y1 y0 u u1) (s : St B y1 y0 u u1 q r) (hc : q * y0 ≤ B * r + u1) : q = (u * B + u1) / (y1 * B + y0) := by
  have hle : q ≤ (u * B + u1) / (y1 * B + y0) := by
    refine Int.le_ediv_of_mul_le h.y ?_
    rw [s.eq, Int.add_mul, Int.mul_add, ← Int.mul_assoc, Int.mul_comm r B]
    omega
  have := s.hi
  omega
theorem Nums.broken (h : Nums B y1 y0 u u1) (s : St B y1 y0 u u1 q r) (hq : q ≤ B) (hr : B ≤ r) : q * y0 ≤ B * r + u1 := by
  have q0 : 0 ≤ q := by have := h.true_nonneg; have := s.hi; omega
  have a : q * y0 ≤ B * y0 := Int.mul_le_mul_of_nonneg_right hq h.h0
  have b : B * y0 ≤ B * r := Int.mul_le_mul_of_nonneg_left (by have := h.h0'; omega) (Int.le_of_lt h.hB)
  have := h.hv
  omega
/-- what is left behind the digit -/
theorem Nums.left (h : Nums B y1 y0 u u1) (hq : q = (u * B + u1) / (y1 * B + y0)) : u * B + u1 - q * (y1 * B + y0) = (u * B + u1) % (y1 * B + y0) := by
  have e := Int.emod_add_mul_ediv (u * B + u1) (y1 * B + y0)
  rw [hq, Int.mul_comm ((u * B + u1) / (y1 * B + y0))]
  omega
end Go.Ob.Knuth

/- Plain lemmas on numbers as bytes, for a reader that goes from the last byte to the first one. -/
import Derived.Test.YtgffcpoopnckkaaLebMath
namespace Go.Ob.Leb
theorem valU_split (m : Nat) : ∀ (l : List Int), valU l = valU (l.take m) + 128 ^ m * valU (l.drop m) := by
  induction m with
  | zero => intro l; simp [valU]
  | succ m ih =>
    intro l
    cases l with
    | nil => simp [valU]
    | cons b l =>
      simp only [List.take_succ_cons, List.drop_succ_cons, valU]
      have := ih l
      rw [Int.pow_succ, Int.mul_comm (128 ^ m) 128, Int.mul_assoc]
      omega
theorem valU_drop {l : List Int} {i : Nat} (h : i < l.length) : valU (l.drop i) = l[i] % 128 + 128 * valU (l.drop (i + 1)) := by
  rw [List.drop_eq_getElem_cons h]; rfl
/-- what stands behind is great: the number is great -/
theorem valU_big (l : List Int) (i : Nat) (h : 72057594037927936 ≤ valU (l.drop (i + 1))) : 9223372036854775808 ≤ valU l := by
  have e := valU_split (i + 1) l
  have h0 := valU_nonneg (l.take (i + 1))
  have hp : (1 : Int) ≤ 128 ^ i := Int.pow_pos (by decide)
  have hm : 1 * valU (l.drop (i + 1)) ≤ 128 ^ i * valU (l.drop (i + 1)) := Int.mul_le_mul_of_nonneg_right hp (by omega)
  rw [Int.pow_succ, Int.mul_comm (128 ^ i) 128, Int.mul_assoc] at e
  omega
/-- the last byte tells the sign -/
theorem last_sign {l : List Int} {j : Nat} (h : l.length = j + 1) : (64 ≤ l[j] % 128 ↔ ¬ valU l < 64 * 128 ^ j) := by
  have e := valU_split j l
  have h0 := valU_nonneg (l.take j)
  have h1 := valU_lt (l.take j)
  rw [List.length_take, Nat.min_eq_left (by omega)] at h1
  have hd := valU_drop (l := l) (i := j) (by omega)
  rw [List.drop_eq_nil_of_le (i := j + 1) (by omega)] at hd
  simp only [valU, Int.mul_zero, Int.add_zero] at hd
  rw [hd] at e
  have hp : (1 : Int) ≤ 128 ^ j := Int.pow_pos (by decide)
  constructor
  · intro hl
    have := Int.mul_le_mul_of_nonneg_left hl (show (0 : Int) ≤ 128 ^ j by omega)
    rw [Int.mul_comm (128 ^ j) 64] at this
    omega
  · intro hl
    refine Int.not_lt.mp fun hc => ?_
    have := Int.mul_le_mul_of_nonneg_left (show l[j] % 128 ≤ 63 by omega) (show (0 : Int) ≤ 128 ^ j by omega)
    rw [Int.mul_comm (128 ^ j) 63] at this
    omega
end Go.Ob.Leb

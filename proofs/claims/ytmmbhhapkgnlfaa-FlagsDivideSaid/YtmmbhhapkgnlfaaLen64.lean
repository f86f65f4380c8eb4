/- Division of a number of 128 bits by one of 64: the library's function, in plain numbers. -/
import Derived.Test.YtmmbhhapkgnlfaaFlagsCore
import Derived.Test.YtmmbhhapkgnlfaaKnuth
namespace Go.Proofs.Ytmmbhhapkgnlfaa.FlagsCore
open Go.RowKit Go.Proofs.Ytmmbhhapkgnlfaa.MA Go.Proofs.YtmmbhhapkgnlfaaW.PrintWords Go.Proofs.YtmmbhhapkgnlfaaW.PrintLast Go.Proofs.YtmmbhhapkgnlfaaW.PrintMore Go.Ob Go.Ob.Flags Go.Ob.Knuth
set_option linter.unusedVariables false
set_option linter.unusedSimpArgs false
theorem tab8 : ∀ n : Nat, n < 256 → 0 < n → 1 ≤ bt (⟨#[0, 1, 2, 2, 3, 3, 3, 3, 4, 4, 4, 4, 4, 4, 4, 4, 5, 5, 5, 5, 5, 5, 5, 5, 5, 5, 5, 5, 5, 5, 5, 5, 6, 6, 6, 6, 6, 6, 6, 6, 6, 6, 6, 6, 6, 6, 6, 6, 6, 6, 6, 6, 6, 6, 6, 6, 6, 6, 6, 6, 6, 6, 6, 6, 7, 7, 7, 7, 7, 7, 7, 7, 7, 7, 7, 7, 7, 7, 7, 7, 7, 7, 7, 7, 7, 7, 7, 7, 7, 7, 7, 7, 7, 7, 7, 7, 7, 7, 7, 7, 7, 7, 7, 7, 7, 7, 7, 7, 7, 7, 7, 7, 7, 7, 7, 7, 7, 7, 7, 7, 7, 7, 7, 7, 7, 7, 7, 7, 8, 8, 8, 8, 8, 8, 8, 8, 8, 8, 8, 8, 8, 8, 8, 8, 8, 8, 8, 8, 8, 8, 8, 8, 8, 8, 8, 8, 8, 8, 8, 8, 8, 8, 8, 8, 8, 8, 8, 8, 8, 8, 8, 8, 8, 8, 8, 8, 8, 8, 8, 8, 8, 8, 8, 8, 8, 8, 8, 8, 8, 8, 8, 8, 8, 8, 8, 8, 8, 8, 8, 8, 8, 8, 8, 8, 8, 8, 8, 8, 8, 8, 8, 8, 8, 8, 8, 8, 8, 8, 8, 8, 8, 8, 8, 8, 8, 8, 8, 8, 8, 8, 8, 8, 8, 8, 8, 8, 8, 8, 8, 8, 8, 8, 8, 8, 8, 8, 8, 8, 8, 8, 8, 8, 8, 8, 8, 8]⟩ : ByteArray) (n : Int) ∧ bt (⟨#[0, 1, 2, 2, 3, 3, 3, 3, 4, 4, 4, 4, 4, 4, 4, 4, 5, 5, 5, 5, 5, 5, 5, 5, 5, 5, 5, 5, 5, 5, 5, 5, 6, 6, 6, 6, 6, 6, 6, 6, 6, 6, 6, 6, 6, 6, 6, 6, 6, 6, 6, 6, 6, 6, 6, 6, 6, 6, 6, 6, 6, 6, 6, 6, 7, 7, 7, 7, 7, 7, 7, 7, 7, 7, 7, 7, 7, 7, 7, 7, 7, 7, 7, 7, 7, 7, 7, 7, 7, 7, 7, 7, 7, 7, 7, 7, 7, 7, 7, 7, 7, 7, 7, 7, 7, 7, 7, 7, 7, 7, 7, 7, 7, 7, 7, 7, 7, 7, 7, 7, 7, 7, 7, 7, 7, 7, 7, 7, 8, 8, 8, 8, 8, 8, 8, 8, 8, 8, 8, 8, 8, 8, 8, 8, 8, 8, 8, 8, 8, 8, 8, 8, 8, 8, 8, 8, 8, 8, 8, 8, 8, 8, 8, 8, 8, 8, 8, 8, 8, 8, 8, 8, 8, 8, 8, 8, 8, 8, 8, 8, 8, 8, 8, 8, 8, 8, 8, 8, 8, 8, 8, 8, 8, 8, 8, 8, 8, 8, 8, 8, 8, 8, 8, 8, 8, 8, 8, 8, 8, 8, 8, 8, 8, 8, 8, 8, 8, 8, 8, 8, 8, 8, 8, 8, 8, 8, 8, 8, 8, 8, 8, 8, 8, 8, 8, 8, 8, 8, 8, 8, 8, 8, 8, 8, 8, 8, 8, 8, 8, 8, 8, 8, 8, 8, 8, 8]⟩ : ByteArray) (n : Int) ≤ 8 ∧ (2 : Int) ^ ((bt (⟨#[0, 1, 2, 2, 3, 3, 3, 3, 4, 4, 4, 4, 4, 4, 4, 4, 5, 5, 5, 5, 5, 5, 5, 5, 5, 5, 5, 5, 5, 5, 5, 5, 6, 6, 6, 6, 6, 6, 6, 6, 6, 6, 6, 6, 6, 6, 6, 6, 6, 6, 6, 6, 6, 6, 6, 6, 6, 6, 6, 6, 6, 6, 6, 6, 7, 7, 7, 7, 7, 7, 7, 7, 7, 7, 7, 7, 7, 7, 7, 7, 7, 7, 7, 7, 7, 7, 7, 7, 7, 7, 7, 7, 7, 7, 7, 7, 7, 7, 7, 7, 7, 7, 7, 7, 7, 7, 7, 7, 7, 7, 7, 7, 7, 7, 7, 7, 7, 7, 7, 7, 7, 7, 7, 7, 7, 7, 7, 7, 8, 8, 8, 8, 8, 8, 8, 8, 8, 8, 8, 8, 8, 8, 8, 8, 8, 8, 8, 8, 8, 8, 8, 8, 8, 8, 8, 8, 8, 8, 8, 8, 8, 8, 8, 8, 8, 8, 8, 8, 8, 8, 8, 8, 8, 8, 8, 8, 8, 8, 8, 8, 8, 8, 8, 8, 8, 8, 8, 8, 8, 8, 8, 8, 8, 8, 8, 8, 8, 8, 8, 8, 8, 8, 8, 8, 8, 8, 8, 8, 8, 8, 8, 8, 8, 8, 8, 8, 8, 8, 8, 8, 8, 8, 8, 8, 8, 8, 8, 8, 8, 8, 8, 8, 8, 8, 8, 8, 8, 8, 8, 8, 8, 8, 8, 8, 8, 8, 8, 8, 8, 8, 8, 8, 8, 8, 8, 8]⟩ : ByteArray) (n : Int)).toNat - 1) ≤ (n : Int) ∧ (n : Int) < 2 ^ (bt (⟨#[0, 1, 2, 2, 3, 3, 3, 3, 4, 4, 4, 4, 4, 4, 4, 4, 5, 5, 5, 5, 5, 5, 5, 5, 5, 5, 5, 5, 5, 5, 5, 5, 6, 6, 6, 6, 6, 6, 6, 6, 6, 6, 6, 6, 6, 6, 6, 6, 6, 6, 6, 6, 6, 6, 6, 6, 6, 6, 6, 6, 6, 6, 6, 6, 7, 7, 7, 7, 7, 7, 7, 7, 7, 7, 7, 7, 7, 7, 7, 7, 7, 7, 7, 7, 7, 7, 7, 7, 7, 7, 7, 7, 7, 7, 7, 7, 7, 7, 7, 7, 7, 7, 7, 7, 7, 7, 7, 7, 7, 7, 7, 7, 7, 7, 7, 7, 7, 7, 7, 7, 7, 7, 7, 7, 7, 7, 7, 7, 8, 8, 8, 8, 8, 8, 8, 8, 8, 8, 8, 8, 8, 8, 8, 8, 8, 8, 8, 8, 8, 8, 8, 8, 8, 8, 8, 8, 8, 8, 8, 8, 8, 8, 8, 8, 8, 8, 8, 8, 8, 8, 8, 8, 8, 8, 8, 8, 8, 8, 8, 8, 8, 8, 8, 8, 8, 8, 8, 8, 8, 8, 8, 8, 8, 8, 8, 8, 8, 8, 8, 8, 8, 8, 8, 8, 8, 8, 8, 8, 8, 8, 8, 8, 8, 8, 8, 8, 8, 8, 8, 8, 8, 8, 8, 8, 8, 8, 8, 8, 8, 8, 8, 8, 8, 8, 8, 8, 8, 8, 8, 8, 8, 8, 8, 8, 8, 8, 8, 8, 8, 8, 8, 8, 8, 8, 8, 8]⟩ : ByteArray) (n : Int)).toNat := by decide +kernel
theorem tab (i : Int) (h0 : 0 < i) (h1 : i < 256) : ∃ b : Nat, bt (⟨#[0, 1, 2, 2, 3, 3, 3, 3, 4, 4, 4, 4, 4, 4, 4, 4, 5, 5, 5, 5, 5, 5, 5, 5, 5, 5, 5, 5, 5, 5, 5, 5, 6, 6, 6, 6, 6, 6, 6, 6, 6, 6, 6, 6, 6, 6, 6, 6, 6, 6, 6, 6, 6, 6, 6, 6, 6, 6, 6, 6, 6, 6, 6, 6, 7, 7, 7, 7, 7, 7, 7, 7, 7, 7, 7, 7, 7, 7, 7, 7, 7, 7, 7, 7, 7, 7, 7, 7, 7, 7, 7, 7, 7, 7, 7, 7, 7, 7, 7, 7, 7, 7, 7, 7, 7, 7, 7, 7, 7, 7, 7, 7, 7, 7, 7, 7, 7, 7, 7, 7, 7, 7, 7, 7, 7, 7, 7, 7, 8, 8, 8, 8, 8, 8, 8, 8, 8, 8, 8, 8, 8, 8, 8, 8, 8, 8, 8, 8, 8, 8, 8, 8, 8, 8, 8, 8, 8, 8, 8, 8, 8, 8, 8, 8, 8, 8, 8, 8, 8, 8, 8, 8, 8, 8, 8, 8, 8, 8, 8, 8, 8, 8, 8, 8, 8, 8, 8, 8, 8, 8, 8, 8, 8, 8, 8, 8, 8, 8, 8, 8, 8, 8, 8, 8, 8, 8, 8, 8, 8, 8, 8, 8, 8, 8, 8, 8, 8, 8, 8, 8, 8, 8, 8, 8, 8, 8, 8, 8, 8, 8, 8, 8, 8, 8, 8, 8, 8, 8, 8, 8, 8, 8, 8, 8, 8, 8, 8, 8, 8, 8, 8, 8, 8, 8, 8, 8]⟩ : ByteArray) i = b ∧ 1 ≤ b ∧ b ≤ 8 ∧ (2 : Int) ^ (b - 1) ≤ i ∧ i < 2 ^ b := by
  obtain ⟨n, rfl⟩ := Int.eq_ofNat_of_zero_le (show 0 ≤ i by omega)
  obtain ⟨a, b, c, d⟩ := tab8 n (by omega) (by omega)
  obtain ⟨m, hm⟩ := Int.eq_ofNat_of_zero_le (show 0 ≤ bt (⟨#[0, 1, 2, 2, 3, 3, 3, 3, 4, 4, 4, 4, 4, 4, 4, 4, 5, 5, 5, 5, 5, 5, 5, 5, 5, 5, 5, 5, 5, 5, 5, 5, 6, 6, 6, 6, 6, 6, 6, 6, 6, 6, 6, 6, 6, 6, 6, 6, 6, 6, 6, 6, 6, 6, 6, 6, 6, 6, 6, 6, 6, 6, 6, 6, 7, 7, 7, 7, 7, 7, 7, 7, 7, 7, 7, 7, 7, 7, 7, 7, 7, 7, 7, 7, 7, 7, 7, 7, 7, 7, 7, 7, 7, 7, 7, 7, 7, 7, 7, 7, 7, 7, 7, 7, 7, 7, 7, 7, 7, 7, 7, 7, 7, 7, 7, 7, 7, 7, 7, 7, 7, 7, 7, 7, 7, 7, 7, 7, 8, 8, 8, 8, 8, 8, 8, 8, 8, 8, 8, 8, 8, 8, 8, 8, 8, 8, 8, 8, 8, 8, 8, 8, 8, 8, 8, 8, 8, 8, 8, 8, 8, 8, 8, 8, 8, 8, 8, 8, 8, 8, 8, 8, 8, 8, 8, 8, 8, 8, 8, 8, 8, 8, 8, 8, 8, 8, 8, 8, 8, 8, 8, 8, 8, 8, 8, 8, 8, 8, 8, 8, 8, 8, 8, 8, 8, 8, 8, 8, 8, 8, 8, 8, 8, 8, 8, 8, 8, 8, 8, 8, 8, 8, 8, 8, 8, 8, 8, 8, 8, 8, 8, 8, 8, 8, 8, 8, 8, 8, 8, 8, 8, 8, 8, 8, 8, 8, 8, 8, 8, 8, 8, 8, 8, 8, 8, 8]⟩ : ByteArray) (n : Int) by omega)
  rw [hm] at a b c d
  rw [Int.toNat_natCast] at c d
  exact ⟨m, hm, by omega, by omega, c, d⟩
/-- the size of a number, moved -/
theorem lift_len (y : Int) (sh b : Nat) (hb1 : 1 ≤ b) (hb8 : b ≤ 8) (h0 : (2 : Int) ^ (b - 1) ≤ y / 2 ^ sh) (h1 : y / 2 ^ sh < 2 ^ b) : (2 : Int) ^ (sh + b - 1) ≤ y ∧ y < 2 ^ (sh + b) := by
  have hp : (0 : Int) < 2 ^ sh := Int.pow_pos (by decide)
  have e := Int.emod_add_mul_ediv y (2 ^ sh)
  have m0 := Int.emod_nonneg y (show (2 : Int) ^ sh ≠ 0 by omega)
  have m1 := Int.emod_lt_of_pos y hp
  rw [show sh + b - 1 = sh + (b - 1) by omega, Int.pow_add, Int.pow_add]
  have a1 := Int.mul_le_mul_of_nonneg_left h0 (Int.le_of_lt hp)
  have a2 := Int.mul_le_mul_of_nonneg_left (show y / 2 ^ sh + 1 ≤ 2 ^ b by omega) (Int.le_of_lt hp)
  rw [Int.mul_add] at a2
  constructor <;> omega
theorem len_j0 (k : Nat) (y x c : Int) (sh : Nat) (hsh : sh = 0 ∨ sh = 32) (hx : x = y / 2 ^ sh) (hc : c = sh) (h0 : 0 < x) (h1 : x < 4294967296) : ∃ L : Nat, bits_Len64.j0 (k + 1) x c = some (L : Int) ∧ 1 ≤ L ∧ L ≤ 32 + sh ∧ (2 : Int) ^ (L - 1) ≤ y ∧ y < 2 ^ L := by
  subst hc
  rw [bits_Len64.j0.eq_2]
  have hdd : ∀ m : Nat, x / 2 ^ m = y / 2 ^ (sh + m) := fun m => by rw [hx, Int.pow_add, Int.ediv_ediv_of_nonneg (Int.le_of_lt (Int.pow_pos (by decide)))]
  have w1 : ∀ z : Int, 0 ≤ z → z ≤ 100 → wrap64 z = z := fun z a b => by unfold wrap64; omega
  by_cases c1 : x ≥ 65536
  · rw [if_pos c1]
    by_cases c2 : x / 65536 ≥ 256
    · obtain ⟨b, hb, b1, b8, l0, l1⟩ := tab (x / 65536 / 256) (by omega) (by omega)
      have hm : x / 65536 / 256 % 256 = x / 65536 / 256 := by omega
      rw [if_pos c2, hm, if_pos (by omega), if_pos (by omega), hb]
      rw [show x / 65536 / 256 = x / 2 ^ 24 by omega, hdd 24] at l0 l1
      have := lift_len y (sh + 24) b b1 b8 l0 l1
      refine ⟨sh + 24 + b, ?_, by omega, by omega, this.1, this.2⟩
      rw [w1 ((sh : Int) + 16) (by omega) (by omega), w1 ((sh : Int) + 16 + 8) (by omega) (by omega), w1 (b : Int) (by omega) (by omega), w1 _ (by omega) (by omega)]
      congr 1
      try (push_cast; omega)
    · obtain ⟨b, hb, b1, b8, l0, l1⟩ := tab (x / 65536) (by omega) (by omega)
      have hm : x / 65536 % 256 = x / 65536 := by omega
      rw [if_neg c2, hm, if_pos (by omega), if_pos (by omega), hb]
      rw [show x / 65536 = x / 2 ^ 16 by omega, hdd 16] at l0 l1
      have := lift_len y (sh + 16) b b1 b8 l0 l1
      refine ⟨sh + 16 + b, ?_, by omega, by omega, this.1, this.2⟩
      rw [w1 ((sh : Int) + 16) (by omega) (by omega), w1 (b : Int) (by omega) (by omega), w1 _ (by omega) (by omega)]
      congr 1
  · rw [if_neg c1]
    by_cases c2 : x ≥ 256
    · obtain ⟨b, hb, b1, b8, l0, l1⟩ := tab (x / 256) (by omega) (by omega)
      have hm : x / 256 % 256 = x / 256 := by omega
      rw [if_pos c2, hm, if_pos (by omega), if_pos (by omega), hb]
      rw [show x / 256 = x / 2 ^ 8 by omega, hdd 8] at l0 l1
      have := lift_len y (sh + 8) b b1 b8 l0 l1
      refine ⟨sh + 8 + b, ?_, by omega, by omega, this.1, this.2⟩
      rw [w1 ((sh : Int) + 8) (by omega) (by omega), w1 (b : Int) (by omega) (by omega), w1 _ (by omega) (by omega)]
      congr 1
    · obtain ⟨b, hb, b1, b8, l0, l1⟩ := tab x (by omega) (by omega)
      have hm : x % 256 = x := by omega
      rw [if_neg c2, hm, if_pos (by omega), if_pos (by omega), hb]
      rw [show x = x / 2 ^ 0 by simp, hdd 0] at l0 l1
      have := lift_len y (sh + 0) b b1 b8 l0 l1
      refine ⟨sh + 0 + b, ?_, by omega, by omega, this.1, this.2⟩
      rw [w1 (b : Int) (by omega) (by omega), w1 _ (by omega) (by omega)]
      congr 1
theorem len_eq (k : Nat) (y : Int) (h0 : 0 < y) (h1 : y < 18446744073709551616) : ∃ L : Nat, bits_Len64.f (k + 1) y = some (L : Int) ∧ 1 ≤ L ∧ L ≤ 64 ∧ (2 : Int) ^ (L - 1) ≤ y ∧ y < 2 ^ L := by
  unfold bits_Len64.f
  by_cases c : y ≥ 4294967296
  · rw [if_pos c]
    exact len_j0 k y _ _ 32 (.inr rfl) (by rfl) (by rfl) (by omega) (by omega)
  · rw [if_neg c]
    obtain ⟨L, a, b, c, d, e⟩ := len_j0 k y y 0 0 (.inl rfl) (by simp) (by rfl) (by omega) (by omega)
    exact ⟨L, a, b, by omega, d, e⟩
end Go.Proofs.Ytmmbhhapkgnlfaa.FlagsCore

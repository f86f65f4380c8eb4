/- Plain lemmas on bits of int64 values: masks, and-not, or of values without a common bit. -/
import Derived.Laws.BitsAllLaws
import Derived.OpenShut
import Derived.RowKit
namespace Go.Ob
open Go Go.RowKit

theorem wrap_i64_toNat (r : BitVec 64) : IntKind.i64.wrap (r.toNat : Int) = r.toInt := by
  rw [BitVec.toInt_eq_toNat_cond]
  have := r.isLt
  simp [IntKind.wrap, IntKind.bits, IntKind.signed]
  split <;> split <;> omega
theorem bits_and_i64 (a b : Int) : bits .and .i64 a b = (BitVec.ofInt 64 a &&& BitVec.ofInt 64 b).toInt := wrap_i64_toNat _
theorem bits_or_i64 (a b : Int) : bits .or .i64 a b = (BitVec.ofInt 64 a ||| BitVec.ofInt 64 b).toInt := wrap_i64_toNat _
theorem bits_xor_i64 (a b : Int) : bits .xor .i64 a b = (BitVec.ofInt 64 a ^^^ BitVec.ofInt 64 b).toInt := wrap_i64_toNat _
theorem bits_andNot_i64 (a b : Int) : bits .andNot .i64 a b = (BitVec.ofInt 64 a &&& ~~~BitVec.ofInt 64 b).toInt := wrap_i64_toNat _
theorem toInt_of (a : Int) (h0 : -9223372036854775808 ≤ a) (h1 : a ≤ 9223372036854775807) : (BitVec.ofInt 64 a).toInt = a := by
  rw [BitVec.toInt_ofInt]
  apply Int.bmod_eq_of_le <;> simp <;> omega
theorem ofInt_toInt (x : BitVec 64) : BitVec.ofInt 64 x.toInt = x := BitVec.ofInt_toInt

/-- an int64 seen as a bit vector -/
theorem as_bv (a : Int) (h0 : -9223372036854775808 ≤ a) (h1 : a ≤ 9223372036854775807) : ∃ x : BitVec 64, a = x.toInt :=
  ⟨BitVec.ofInt 64 a, (toInt_of a h0 h1).symm⟩

theorem toNat_of (a : Int) : (BitVec.ofInt 64 a).toNat = (a % 18446744073709551616).toNat := by
  rw [BitVec.toNat_ofInt]; rfl

/-- a and (2^j - 1) = a mod 2^j, for every j below 64 and every a -/
theorem and_mask (a : Int) (j : Nat) (hj : j < 64) : bits .and .i64 a (2 ^ j - 1) = a % 2 ^ j := by
  have hp : (0 : Int) < 2 ^ j := Int.pow_pos (by decide)
  have hpn : 0 < 2 ^ j := Nat.two_pow_pos j
  have hle : (2 : Nat) ^ j ≤ 2 ^ 63 := Nat.pow_le_pow_right (by decide) (by omega)
  have hm : (BitVec.ofInt 64 (2 ^ j - 1)).toNat = 2 ^ j - 1 := by
    have : ((2 : Int) ^ j - 1) = ((2 ^ j - 1 : Nat) : Int) := by rw [Int.natCast_sub hpn]; simp
    rw [this, BitVec.ofInt_natCast, BitVec.toNat_ofNat]
    exact Nat.mod_eq_of_lt (by omega)
  rw [bits_and_i64]
  have hn : (BitVec.ofInt 64 a &&& BitVec.ofInt 64 (2 ^ j - 1)).toNat = (a % 2 ^ j).toNat := by
    rw [BitVec.toNat_and, hm, Nat.and_two_pow_sub_one_eq_mod, toNat_of]
    have h64 : (0 : Int) ≤ a % 18446744073709551616 := Int.emod_nonneg _ (by decide)
    have hd : ((2 : Int) ^ j) ∣ 18446744073709551616 := by
      refine ⟨2 ^ (64 - j), ?_⟩
      rw [← Int.pow_add, show j + (64 - j) = 64 by omega]; rfl
    have e : ((a % 18446744073709551616) % 2 ^ j) = a % 2 ^ j := Int.emod_emod_of_dvd a hd
    have c : (((a % 18446744073709551616).toNat % 2 ^ j : Nat) : Int) = a % 2 ^ j := by
      rw [Int.natCast_emod, Int.toNat_of_nonneg h64]; simpa using e
    omega
  have hlt : a % 2 ^ j < 2 ^ j := Int.emod_lt_of_pos _ hp
  have hc : ((2 ^ j : Nat) : Int) = 2 ^ j := by simp
  have hge : 0 ≤ a % 2 ^ j := Int.emod_nonneg _ (by omega)
  rw [BitVec.toInt_eq_toNat_of_lt (by rw [hn]; omega), hn]
  omega

theorem toInt_add_toNat (x y : BitVec 64) (h : x &&& y = 0#64) : x ||| y = x + y := (BitVec.add_eq_or_of_and_eq_zero x y h).symm

/-- a and-not (2^j - 1) = a - a mod 2^j -/
theorem andNot_mask (a : Int) (h0 : -9223372036854775808 ≤ a) (h1 : a ≤ 9223372036854775807) (j : Nat) (hj : j < 64) :
    bits .andNot .i64 a (2 ^ j - 1) = a - a % 2 ^ j := by
  have hp : (0 : Int) < 2 ^ j := Int.pow_pos (by decide)
  have hge : 0 ≤ a % 2 ^ j := Int.emod_nonneg _ (by omega)
  have hlt : a % 2 ^ j < 2 ^ j := Int.emod_lt_of_pos _ hp
  have hk := and_mask a j hj
  rw [bits_and_i64] at hk
  rw [bits_andNot_i64]
  have hx : BitVec.ofInt 64 a = (BitVec.ofInt 64 a &&& ~~~BitVec.ofInt 64 (2 ^ j - 1)) + (BitVec.ofInt 64 a &&& BitVec.ofInt 64 (2 ^ j - 1)) := by
    rw [BitVec.add_eq_or_of_and_eq_zero]
    · apply BitVec.eq_of_getLsbD_eq
      intro i hi
      simp only [BitVec.getLsbD_or, BitVec.getLsbD_and, BitVec.getLsbD_not, hi, decide_true, Bool.true_and]
      cases (BitVec.ofInt 64 a).getLsbD i <;> cases (BitVec.ofInt 64 (2 ^ j - 1)).getLsbD i <;> rfl
    · apply BitVec.eq_of_getLsbD_eq
      intro i hi
      simp only [BitVec.getLsbD_and, BitVec.getLsbD_not, hi, decide_true, Bool.true_and, BitVec.getLsbD_zero]
      cases (BitVec.ofInt 64 a).getLsbD i <;> cases (BitVec.ofInt 64 (2 ^ j - 1)).getLsbD i <;> rfl
  have hy : (BitVec.ofInt 64 a &&& ~~~BitVec.ofInt 64 (2 ^ j - 1)) = BitVec.ofInt 64 (a - a % 2 ^ j) := by
    have hs : BitVec.ofInt 64 a = BitVec.ofInt 64 (a - a % 2 ^ j) + BitVec.ofInt 64 (a % 2 ^ j) := by
      rw [← BitVec.ofInt_add]; congr 1; omega
    have hm : BitVec.ofInt 64 (a % 2 ^ j) = BitVec.ofInt 64 a &&& BitVec.ofInt 64 (2 ^ j - 1) := by rw [← hk, ofInt_toInt]
    rw [hm] at hs
    exact (BitVec.add_left_inj (BitVec.ofInt 64 a &&& BitVec.ofInt 64 (2 ^ j - 1))).mp (hx.symm.trans hs)
  rw [hy]
  refine toInt_of _ ?_ (by omega)
  have hle : (2 : Int) ^ j ∣ 9223372036854775808 := by
    refine ⟨2 ^ (63 - j), ?_⟩
    rw [← Int.pow_add, show j + (63 - j) = 63 by omega]; rfl
  have hd : (2 : Int) ^ j ∣ a - a % 2 ^ j := Int.dvd_self_sub_emod
  obtain ⟨q, hq⟩ := hle
  obtain ⟨r, hr⟩ := hd
  rw [hr]
  have : -q ≤ r := by
    have h : 2 ^ j * (-q - 1) < (2 : Int) ^ j * r := by
      rw [← hr, Int.mul_sub, Int.mul_neg, ← hq]; omega
    have := Int.lt_of_mul_lt_mul_left h (Int.le_of_lt hp)
    omega
  have h2 := Int.mul_le_mul_of_nonneg_left this (Int.le_of_lt hp)
  rw [Int.mul_neg, ← hq] at h2
  exact h2

/-- an or of two without a common bit: the low j bits of one are nought, the other lies below 2^j -/
theorem or_add (a b : Int) (h0 : -9223372036854775808 ≤ a) (h1 : a ≤ 9223372036854775807) (j : Nat) (hj : j < 64) (ha : a % 2 ^ j = 0) (hb0 : 0 ≤ b) (hb : b < 2 ^ j) :
    bits .or .i64 a b = a + b := by
  have hp : (0 : Int) < 2 ^ j := Int.pow_pos (by decide)
  have hle : (2 : Int) ^ j ≤ 9223372036854775808 := by
    have : (2 : Nat) ^ j ≤ 2 ^ 63 := Nat.pow_le_pow_right (by decide) (by omega)
    have h2 : ((2 ^ j : Nat) : Int) ≤ ((2 ^ 63 : Nat) : Int) := Int.ofNat_le.mpr this
    simpa using h2
  rw [bits_or_i64]
  have hz : BitVec.ofInt 64 a &&& BitVec.ofInt 64 b = 0#64 := by
    have hk := and_mask a j hj
    rw [bits_and_i64, ha] at hk
    have hb' : BitVec.ofInt 64 b = BitVec.ofInt 64 (2 ^ j - 1) &&& BitVec.ofInt 64 b := by
      have := and_mask b j hj
      rw [bits_and_i64, Int.emod_eq_of_lt hb0 hb] at this
      rw [BitVec.and_comm]
      apply BitVec.eq_of_toInt_eq
      rw [this, toInt_of b (by omega) (by omega)]
    rw [hb', ← BitVec.and_assoc]
    have : BitVec.ofInt 64 a &&& BitVec.ofInt 64 (2 ^ j - 1) = 0#64 := by
      apply BitVec.eq_of_toInt_eq
      rw [hk]; rfl
    rw [this]; simp
  rw [toInt_add_toNat _ _ hz, ← BitVec.ofInt_add]
  refine toInt_of _ (by omega) ?_
  have hd : (2 : Int) ^ j ∣ 9223372036854775808 := by
    refine ⟨2 ^ (63 - j), ?_⟩
    rw [← Int.pow_add, show j + (63 - j) = 63 by omega]; rfl
  obtain ⟨q, hq⟩ := hd
  obtain ⟨r, hr⟩ := Int.dvd_of_emod_eq_zero ha
  have : r < q := by
    have h : (2 : Int) ^ j * r < 2 ^ j * q := by rw [← hr, ← hq]; omega
    exact Int.lt_of_mul_lt_mul_left h (Int.le_of_lt hp)
  have h2 := Int.mul_le_mul_of_nonneg_left (show r + 1 ≤ q by omega) (Int.le_of_lt hp)
  rw [Int.mul_add, ← hr, ← hq] at h2
  omega

end Go.Ob

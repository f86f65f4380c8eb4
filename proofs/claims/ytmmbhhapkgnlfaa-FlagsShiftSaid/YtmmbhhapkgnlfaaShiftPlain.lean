/- What the program's and the reference's turning and moving of values answer, in plain numbers. -/
import Derived.Test.YtmmbhhapkgnlfaaMHx4
import Derived.Test.YtmmbhhapkgnlfaaFlagsPlain
import Derived.Test.YtmmbhhapkgnlfaaRot
namespace Go.Proofs.Ytmmbhhapkgnlfaa.ShiftCore
open Go.RowKit Go.Proofs.Ytmmbhhapkgnlfaa.MH Go.Proofs.YtmmbhhapkgnlfaaW.PrintWords Go.Proofs.YtmmbhhapkgnlfaaW.PrintLast Go.Proofs.YtmmbhhapkgnlfaaW.PrintMore Go.Ob Go.Ob.Flags Go.Ob.Rot
set_option linter.unusedVariables false
set_option linter.unusedSimpArgs false
theorem ex400 : oubliettelaw10_examples.f 400 = some true := by decide +kernel
theorem trim_eq (w : Bool) (v : Int) : flags_Trim.f w v = some (tr w v) := by unfold flags_Trim.f tr; split <;> rfl
theorem sign_eq (w : Bool) (v : Int) : flags_sign.f w v = some (sg w v) := by unfold flags_sign.f sg; rw [wrap_sg]; split <;> rfl
theorem rtrim_eq (w : Bool) (v : Int) : oublietteref10_Trim.f w v = some (tr w v) := by unfold oublietteref10_Trim.f tr; rw [and32]; split <;> rfl
/-- the width's bits; their number; a number without sign, and with the width's form again -/
def wd (w : Bool) : Nat := if w then 64 else 32
def md (w : Bool) : Int := if w then 18446744073709551616 else 4294967296
def hf (w : Bool) : Int := if w then 9223372036854775808 else 2147483648
def un (w : Bool) (v : Int) : Int := v % md w
def vv (w : Bool) (u : Int) : Int := if w then wrap64 u else u
theorem un_in (w : Bool) (v : Int) : 0 ≤ un w v ∧ un w v < md w := by cases w <;> simp [un, md] <;> omega
theorem vv_un (w : Bool) (v : Int) (h0 : -9223372036854775808 ≤ v) (h1 : v ≤ 9223372036854775807) : vv w (un w (tr w v)) = tr w v := by
  cases w <;> simp [vv, un, md, tr]
  unfold wrap64; omega
theorem un_vv (w : Bool) (u : Int) (h0 : 0 ≤ u) (h1 : u < md w) : un w (vv w u) = u := by
  cases w with
  | true => simp only [vv, un, md, if_true] at *; unfold wrap64; omega
  | false => simp only [vv, un, md, Bool.false_eq_true, if_false] at *; omega
theorem tr_vv (w : Bool) (u : Int) (h0 : 0 ≤ u) (h1 : u < md w) : tr w (vv w u) = vv w u := by
  cases w <;> simp [vv, tr, md] at *
  omega
theorem md_pow (w : Bool) : md w = 2 ^ wd w := by cases w <;> rfl
theorem hf2 (w : Bool) : 2 * hf w = md w := by cases w <;> rfl
theorem by_eq (w : Bool) (n : Int) : flags_Shift.by w n = n % (wd w : Int) := by
  unfold flags_Shift.by wd
  cases w with
  | true => exact and_mask n 6 (by decide)
  | false => exact and_mask n 5 (by decide)
theorem or_u (a b : Int) (s : Nat) (ha : 0 ≤ a) (hb0 : 0 ≤ b) (hb : b < 2 ^ s) (h : a * 2 ^ s < 18446744073709551616) (hs : s ≤ 64) : Go.bits .or .u64 (a * 2 ^ s) b = a * 2 ^ s + b := by
  obtain ⟨n, rfl⟩ := Int.eq_ofNat_of_zero_le ha
  obtain ⟨m, rfl⟩ := Int.eq_ofNat_of_zero_le hb0
  have hm : m < 2 ^ s := by exact_mod_cast hb
  have hn : n * 2 ^ s < 18446744073709551616 := by
    have h' : ((n * 2 ^ s : Nat) : Int) < 18446744073709551616 := by push_cast; exact h
    omega
  have hle : (2 : Nat) ^ s ≤ 2 ^ 64 := Nat.pow_le_pow_right (by decide) hs
  have := bits_or_u64_nat (n * 2 ^ s) m hn (by omega)
  rw [Nat.mul_comm n, ← Nat.two_pow_add_eq_or_of_lt hm, Nat.mul_comm] at this
  push_cast at this
  exact this
theorem bits_or_u32_nat (a b : Nat) (ha : a < 4294967296) (hb : b < 4294967296) : Go.bits .or .u32 (a : Int) (b : Int) = ((a ||| b : Nat) : Int) := by
  have h : Go.bits .or .u32 (a : Int) (b : Int) = IntKind.u32.wrap ((BitVec.ofInt 32 (a : Int) ||| BitVec.ofInt 32 (b : Int)).toNat : Int) := rfl
  rw [h, BitVec.toNat_or, BitVec.toNat_ofInt, BitVec.toNat_ofInt]
  have e1 : ((a : Int) % ((2 ^ 32 : Nat) : Int)).toNat = a := by omega
  have e2 : ((b : Int) % ((2 ^ 32 : Nat) : Int)).toNat = b := by omega
  rw [e1, e2]
  have : a ||| b < 2 ^ 32 := Nat.or_lt_two_pow (by omega) (by omega)
  rw [IntKind.wrap_u32]
  omega
theorem or_u32 (a b : Int) (s : Nat) (ha : 0 ≤ a) (hb0 : 0 ≤ b) (hb : b < 2 ^ s) (h : a * 2 ^ s < 4294967296) (hs : s ≤ 32) : Go.bits .or .u32 (a * 2 ^ s) b = a * 2 ^ s + b := by
  obtain ⟨n, rfl⟩ := Int.eq_ofNat_of_zero_le ha
  obtain ⟨m, rfl⟩ := Int.eq_ofNat_of_zero_le hb0
  have hm : m < 2 ^ s := by exact_mod_cast hb
  have hn : n * 2 ^ s < 4294967296 := by
    have h' : ((n * 2 ^ s : Nat) : Int) < 4294967296 := by push_cast; exact h
    omega
  have hle : (2 : Nat) ^ s ≤ 2 ^ 32 := Nat.pow_le_pow_right (by decide) hs
  have := bits_or_u32_nat (n * 2 ^ s) m hn (by omega)
  rw [Nat.mul_comm n, ← Nat.two_pow_add_eq_or_of_lt hm, Nat.mul_comm] at this
  push_cast at this
  exact this
/-- the library's turns -/
theorem turn_mod (W : Nat) (x : Int) (s : Nat) (hs : s ≤ W) : (x * 2 ^ s) % 2 ^ W = (x % 2 ^ (W - s)) * 2 ^ s := by
  have e : (2 : Int) ^ W = 2 ^ s * 2 ^ (W - s) := by rw [← Int.pow_add, show s + (W - s) = W by omega]
  rw [e, Int.mul_comm x, Int.mul_emod_mul_of_pos _ _ (Int.pow_pos (by decide)), Int.mul_comm]
theorem r64_eq (x : Int) (s : Nat) (h0 : 0 ≤ x) (h1 : x < 18446744073709551616) (hs : s ≤ 63) : flags_Shift.r64 x (s : Int) = rotl 64 x s := by
  unfold flags_Shift.r64 rotl
  have hp : (0 : Int) < 2 ^ (64 - s) := Int.pow_pos (by decide)
  have e64 : (2 : Int) ^ s * 2 ^ (64 - s) = 18446744073709551616 := by rw [← Int.pow_add, show s + (64 - s) = 64 by omega]; rfl
  have hm := turn_mod 64 x s (by omega)
  rw [show ((2 : Int) ^ 64) = 18446744073709551616 by rfl] at hm
  rw [IntKind.wrap_u64, Int.toNat_natCast, show ((64 : Int) - (s : Int)).toNat = 64 - s by omega, hm]
  have m0 := Int.emod_nonneg x (show (2 : Int) ^ (64 - s) ≠ 0 by omega)
  refine or_u _ _ s m0 (Int.ediv_nonneg h0 (by omega)) (Int.ediv_lt_of_lt_mul hp (by rw [e64]; exact h1)) ?_ (by omega)
  rw [← hm]
  exact Int.emod_lt_of_pos _ (by decide)
theorem r32_eq (x : Int) (s : Nat) (h0 : 0 ≤ x) (h1 : x < 4294967296) (hs : s ≤ 31) : flags_Shift.r32 x (s : Int) = rotl 32 x s := by
  unfold flags_Shift.r32 rotl
  have hp : (0 : Int) < 2 ^ (32 - s) := Int.pow_pos (by decide)
  have e64 : (2 : Int) ^ s * 2 ^ (32 - s) = 4294967296 := by rw [← Int.pow_add, show s + (32 - s) = 32 by omega]; rfl
  have hm := turn_mod 32 x s (by omega)
  rw [show ((2 : Int) ^ 32) = 4294967296 by rfl] at hm
  rw [Int.toNat_natCast, show ((32 : Int) - (s : Int)).toNat = 32 - s by omega, hm]
  have m0 := Int.emod_nonneg x (show (2 : Int) ^ (32 - s) ≠ 0 by omega)
  refine or_u32 _ _ s m0 (Int.ediv_nonneg h0 (by omega)) (Int.ediv_lt_of_lt_mul hp (by rw [e64]; exact h1)) ?_ (by omega)
  rw [← hm]
  exact Int.emod_lt_of_pos _ (by decide)
theorem mask_u (k : Int) : Go.bits .and .u64 (IntKind.u64.wrap k) 63 = k % 64 ∧ Go.bits .and .u64 (IntKind.u64.wrap k) 31 = k % 32 := by
  obtain ⟨n, hn⟩ := Int.eq_ofNat_of_zero_le (show 0 ≤ IntKind.u64.wrap k by rw [IntKind.wrap_u64]; omega)
  have hlt : IntKind.u64.wrap k < 18446744073709551616 := by rw [IntKind.wrap_u64]; omega
  have hk : IntKind.u64.wrap k = k % 18446744073709551616 := IntKind.wrap_u64 k
  have h1 := bits_and_u64_nat n 63 (by omega) (by omega)
  have h2 := bits_and_u64_nat n 31 (by omega) (by omega)
  rw [show n &&& 63 = n % 64 from Nat.and_two_pow_sub_one_eq_mod n 6] at h1
  rw [show n &&& 31 = n % 32 from Nat.and_two_pow_sub_one_eq_mod n 5] at h2
  rw [hn]
  constructor
  · rw [show ((63 : Nat) : Int) = 63 from rfl] at h1; rw [h1]; omega
  · rw [show ((31 : Nat) : Int) = 31 from rfl] at h2; rw [h2]; omega
theorem turn_eq (w : Bool) (v k : Int) (s : Nat) (hs : k % (wd w : Int) = s) : flags_Shift.turn w (tr w v) k = vv w (rotl (wd w) (un w (tr w v)) s) := by
  have hm := mask_u k
  unfold flags_Shift.turn
  cases w with
  | true =>
    simp only [wd, if_true] at hs
    simp only [if_true, wd, vv, un, md, tr]
    rw [hm.1, show k % 64 = (s : Int) from hs, IntKind.wrap_u64, r64_eq _ s (by omega) (by omega) (by omega)]
  | false =>
    simp only [wd, Bool.false_eq_true, if_false] at hs
    simp only [Bool.false_eq_true, if_false, wd, vv, un, md, tr]
    rw [hm.2, show k % 32 = (s : Int) from hs, r32_eq _ s (by omega) (by omega) (by omega)]
    have hb := rotl_step 32 s (by omega) (v % 4294967296 % 4294967296) 4294967296 2147483648 (by rfl) (by rfl) (by omega) (by omega)
    unfold wrap64
    omega
end Go.Proofs.Ytmmbhhapkgnlfaa.ShiftCore

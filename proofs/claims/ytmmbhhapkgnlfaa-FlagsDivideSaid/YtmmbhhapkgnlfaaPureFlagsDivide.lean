/- Any number of twice the width is divided by any other one, without and with signs, as the chapter says, or refused: for any numbers and both widths. No condition of its own. This text is the plain law. -/
import Derived.Test.YtmmbhhapkgnlfaaMAx5
import Derived.Test.YtmmbhhapkgnlfaaDiv64
namespace Go.Proofs.Ytmmbhhapkgnlfaa.Pure
open Go.RowKit Go.Proofs.Ytmmbhhapkgnlfaa.MA Go.Proofs.YtmmbhhapkgnlfaaW.PrintWords Go.Proofs.YtmmbhhapkgnlfaaW.PrintLast Go.Ob Go.Ob.Flags Go.Proofs.Ytmmbhhapkgnlfaa.FlagsCore
set_option linter.unusedVariables false
theorem rtrim_eq (w : Bool) (v : Int) : oublietteref10_Trim.f w v = some (tr w v) := by unfold oublietteref10_Trim.f tr; rw [and32]; split <;> rfl
/-- divided without signs: h, l, d below 2^n (n: 32 or 64), h below d -/
def qr (n : Nat) (h l d : Int) : Int × Int := ((h * 2 ^ n + l) / d, (h * 2 ^ n + l) % d)
theorem bit_u (x : Int) (i : Nat) (hi : i ≤ 64) (h0 : 0 ≤ x) (h1 : x < 18446744073709551616) : Go.bits .and .u64 (shr .u64 x (i : Int)) 1 = x / 2 ^ i % 2 := by
  rw [shr_u x i hi]
  have hp : (1 : Int) ≤ 2 ^ i := Int.pow_pos (by decide)
  have hq0 : 0 ≤ x / 2 ^ i := Int.ediv_nonneg h0 (by omega)
  have hq1 : x / 2 ^ i ≤ x := Int.ediv_le_self _ h0
  generalize x / 2 ^ i = z at *
  obtain ⟨n, rfl⟩ := Int.eq_ofNat_of_zero_le hq0
  have := bits_and_u64_nat n 1 (by omega) (by omega)
  rw [Nat.and_one_is_mod] at this
  exact this
theorem or_bit (x b : Int) (h0 : 0 ≤ x) (h1 : x * 2 < 18446744073709551616) (hb0 : 0 ≤ b) (hb1 : b < 2) : Go.bits .or .u64 (x * 2) b = x * 2 + b := or_high x b 1 h0 hb0 (by omega) (by omega) (by omega)
/-- one step of a long division -/
theorem long_step (N d b : Int) (hd : 0 < d) (hb0 : 0 ≤ b) (hb1 : b < 2) (hN : 0 ≤ N) :
    ((2 * N + b) / d = if 2 * (N % d) + b ≥ d then 2 * (N / d) + 1 else 2 * (N / d)) ∧ ((2 * N + b) % d = if 2 * (N % d) + b ≥ d then 2 * (N % d) + b - d else 2 * (N % d) + b) := by
  have e := Int.emod_add_mul_ediv N d
  have m0 := Int.emod_nonneg N (show d ≠ 0 by omega)
  have m1 := Int.emod_lt_of_pos N hd
  generalize N / d = q at *
  generalize N % d = r at *
  have hm : d * (2 * q + 1) = 2 * (d * q) + d := by rw [Int.mul_add, Int.mul_one, ← Int.mul_assoc, Int.mul_comm d 2, Int.mul_assoc]
  have hm2 : d * (2 * q) = 2 * (d * q) := by rw [← Int.mul_assoc, Int.mul_comm d 2, Int.mul_assoc]
  by_cases c : 2 * r + b ≥ d
  · rw [if_pos c, if_pos c]
    exact (Int.ediv_emod_unique hd).mpr ⟨by omega, by omega, by omega⟩
  · rw [if_neg c, if_neg c]
    exact (Int.ediv_emod_unique hd).mpr ⟨by omega, by omega, by omega⟩
theorem ref_loop (n : Nat) (hn : n ≤ 64) (h l d : Int) (h0 : 0 ≤ h) (hd : h < d) (hd1 : d < 18446744073709551616) (l0 : 0 ≤ l) (l1 : l < 2 ^ n) : ∀ (m k : Nat), m ≤ n → m < k →
    oublietteref10_Div.l0 k l d ((h * 2 ^ (n - m) + l / 2 ^ m) / d) ((h * 2 ^ (n - m) + l / 2 ^ m) % d) ((m : Int) - 1) = some (wrap64 ((h * 2 ^ n + l) / d), wrap64 ((h * 2 ^ n + l) % d), true) := by
  have hl64 : l < 18446744073709551616 := by
    have : (2 : Int) ^ n ≤ 18446744073709551616 := by
      have h2 : (2 : Nat) ^ n ≤ 2 ^ 64 := Nat.pow_le_pow_right (by decide) hn
      have h3 : ((2 ^ n : Nat) : Int) ≤ ((2 ^ 64 : Nat) : Int) := Int.ofNat_le.mpr h2
      simpa using h3
    omega
  intro m
  induction m with
  | zero =>
    intro k hm hk
    obtain ⟨k, rfl⟩ : ∃ q, k = q + 1 := ⟨k - 1, by omega⟩
    simp only [oublietteref10_Div.l0]
    rw [if_neg (by omega)]
    simp
  | succ m ih =>
    intro k hm hk
    obtain ⟨k, rfl⟩ : ∃ q, k = q + 1 := ⟨k - 1, by omega⟩
    have hp : (1 : Int) ≤ 2 ^ m := Int.pow_pos (by decide)
    have hpn : (1 : Int) ≤ 2 ^ (n - (m + 1)) := Int.pow_pos (by decide)
    have hlq : l / 2 ^ m = 2 * (l / 2 ^ (m + 1)) + l / 2 ^ m % 2 := by
      rw [Int.pow_succ, ← Int.ediv_ediv_of_nonneg (Int.le_of_lt (show (0 : Int) < 2 ^ m by omega))]; omega
    have hN : h * 2 ^ (n - m) + l / 2 ^ m = 2 * (h * 2 ^ (n - (m + 1)) + l / 2 ^ (m + 1)) + l / 2 ^ m % 2 := by
      rw [show n - m = (n - (m + 1)) + 1 by omega, Int.pow_succ, ← Int.mul_assoc]
      omega
    have hN0 : 0 ≤ h * 2 ^ (n - (m + 1)) + l / 2 ^ (m + 1) := by
      have a1 := Int.mul_nonneg h0 (show (0 : Int) ≤ 2 ^ (n - (m + 1)) by omega)
      have a2 : 0 ≤ l / 2 ^ (m + 1) := Int.ediv_nonneg l0 (Int.le_of_lt (Int.pow_pos (by decide)))
      omega
    have hls := long_step (h * 2 ^ (n - (m + 1)) + l / 2 ^ (m + 1)) d (l / 2 ^ m % 2) (by omega) (by omega) (by omega) hN0
    rw [← hN] at hls
    -- the quotient is small
    have hq : (h * 2 ^ (n - (m + 1)) + l / 2 ^ (m + 1)) / d < 9223372036854775808 := by
      refine Int.ediv_lt_of_lt_mul (by omega) ?_
      have b1 : l / 2 ^ (m + 1) < 2 ^ (n - (m + 1)) := Int.ediv_lt_of_lt_mul (Int.pow_pos (by decide)) (by rw [← Int.pow_add, show n - (m + 1) + (m + 1) = n by omega]; exact l1)
      have b2 := Int.mul_le_mul_of_nonneg_right (show h + 1 ≤ d by omega) (show (0 : Int) ≤ 2 ^ (n - (m + 1)) by omega)
      rw [Int.add_mul, Int.one_mul] at b2
      have b3 : (2 : Int) ^ (n - (m + 1)) ≤ 9223372036854775808 := by
        have h2 : (2 : Nat) ^ (n - (m + 1)) ≤ 2 ^ 63 := Nat.pow_le_pow_right (by decide) (by omega)
        have h3 : ((2 ^ (n - (m + 1)) : Nat) : Int) ≤ ((2 ^ 63 : Nat) : Int) := Int.ofNat_le.mpr h2
        simpa using h3
      have b4 := Int.mul_le_mul_of_nonneg_left b3 (show (0 : Int) ≤ d by omega)
      rw [Int.mul_comm 9223372036854775808]
      omega
    have hq0 : 0 ≤ (h * 2 ^ (n - (m + 1)) + l / 2 ^ (m + 1)) / d := Int.ediv_nonneg hN0 (by omega)
    have hr0 := Int.emod_nonneg (h * 2 ^ (n - (m + 1)) + l / 2 ^ (m + 1)) (show d ≠ 0 by omega)
    have hr1 := Int.emod_lt_of_pos (h * 2 ^ (n - (m + 1)) + l / 2 ^ (m + 1)) (show 0 < d by omega)
    have hih := ih k (by omega) (by omega)
    rw [hls.1, hls.2] at hih
    simp only [oublietteref10_Div.l0]
    rw [if_pos (by omega), if_pos (by omega), show ((m + 1 : Nat) : Int) - 1 = (m : Int) by omega, show wrap64 ((m : Int) - 1) = (m : Int) - 1 by unfold wrap64; omega]
    simp only [bit_u l m (by omega) l0 hl64]
    generalize (h * 2 ^ (n - (m + 1)) + l / 2 ^ (m + 1)) / d = q at *
    generalize (h * 2 ^ (n - (m + 1)) + l / 2 ^ (m + 1)) % d = r at *
    have hb0 : 0 ≤ l / 2 ^ m % 2 := by omega
    have hb1 : l / 2 ^ m % 2 < 2 := by omega
    generalize l / 2 ^ m % 2 = b at *
    rw [u64_in (x := q * 2) (by omega) (by omega), show (1 : Int) = (1 : Int) from rfl, or_bit q 1 hq0 (by omega) (by omega) (by omega)]
    by_cases c1 : r / 9223372036854775808 = 1
    · rw [if_pos c1]
      have hw : IntKind.u64.wrap (r * 2) = (r - 9223372036854775808) * 2 := by rw [u64_is]; omega
      rw [hw, or_bit _ b (by omega) (by omega) hb0 hb1]
      rw [if_pos (by omega), if_pos (by omega)] at hih
      rw [show IntKind.u64.wrap ((r - 9223372036854775808) * 2 + b - d) = 2 * r + b - d by rw [u64_is]; omega, show q * 2 + 1 = 2 * q + 1 by omega]
      exact hih
    · rw [if_neg c1]
      rw [u64_in (x := r * 2) (by omega) (by omega), or_bit r b hr0 (by omega) hb0 hb1]
      by_cases c2 : r * 2 + b ≥ d
      · rw [if_pos c2]
        rw [if_pos (by omega), if_pos (by omega)] at hih
        rw [show IntKind.u64.wrap (r * 2 + b - d) = 2 * r + b - d by rw [u64_is]; omega, show q * 2 + 1 = 2 * q + 1 by omega]
        exact hih
      · rw [if_neg c2]
        rw [if_neg (by omega), if_neg (by omega)] at hih
        rw [show q * 2 = 2 * q by omega, show r * 2 + b = 2 * r + b by omega]
        exact hih
theorem tr_lt (v : Int) : 0 ≤ tr false v ∧ tr false v < 4294967296 := by simp [tr]; omega
theorem div_eq (w : Bool) (high low by_ : Int) (k : Nat) (hk : 40 ≤ k) : ∃ r, flags_Div.f k w high low by_ = some r ∧ oublietteref10_Div.f (k + 100) w high low by_ = some r := by
  obtain ⟨k, rfl⟩ : ∃ m, k = m + 35 := ⟨k - 35, by omega⟩
  unfold flags_Div.f oublietteref10_Div.f
  simp only [trim_eq, rtrim_eq, Option.bind_some, u64_is]
  have h0 : 0 ≤ tr w high % 18446744073709551616 := by omega
  have l0 : 0 ≤ tr w low % 18446744073709551616 := by omega
  have d0 : 0 ≤ tr w by_ % 18446744073709551616 := by omega
  have d1 : tr w by_ % 18446744073709551616 < 18446744073709551616 := by omega
  have hl1 : tr w low % 18446744073709551616 < 18446744073709551616 := by omega
  have hn : w = false → tr w high % 18446744073709551616 < 4294967296 ∧ tr w low % 18446744073709551616 < 4294967296 := by
    rintro rfl
    have := tr_lt high
    have := tr_lt low
    omega
  generalize tr w high % 18446744073709551616 = h at *
  generalize tr w low % 18446744073709551616 = l at *
  generalize tr w by_ % 18446744073709551616 = d at *
  by_cases hz : d = 0
  · rw [if_pos hz, if_pos hz]
    exact ⟨(0, 0, false), by simp only [flags_Div.j0, if_true], by simp only [oublietteref10_Div.j0, if_true]⟩
  · rw [if_neg hz, if_neg hz]
    by_cases hge : h ≥ d
    · rw [decide_eq_true hge]
      exact ⟨(0, 0, false), by simp only [flags_Div.j0, if_true], by simp only [oublietteref10_Div.j0, if_true]⟩
    · rw [decide_eq_false hge]
      simp only [flags_Div.j0, oublietteref10_Div.j0, Bool.false_eq_true, if_false]
      cases w with
      | true =>
        simp only [if_true]
        rw [Div64_eq (k + 34) (by omega) h l d h0 (by omega) l0 hl1 d1]
        refine ⟨_, rfl, ?_⟩
        have hr := ref_loop 64 (by omega) h l d h0 (by omega) d1 l0 (by simpa using hl1) 64 (k + 134) (by omega) (by omega)
        simp only [oublietteref10_bits.f, if_true, Option.bind_some]
        have e0 : l / 2 ^ 64 = 0 := Int.ediv_eq_zero_of_lt l0 (by simpa using hl1)
        rw [Nat.sub_self, Int.pow_zero, Int.mul_one, e0, Int.add_zero, Int.ediv_eq_zero_of_lt h0 (by omega), Int.emod_eq_of_lt h0 (by omega)] at hr
        rw [show wrap64 (64 - 1) = ((64 : Nat) : Int) - 1 by unfold wrap64; omega, show (18446744073709551616 : Int) = 2 ^ 64 by decide]
        exact hr
      | false =>
        obtain ⟨hh1, hl1'⟩ := hn rfl
        simp only [Bool.false_eq_true, if_false]
        have hor : Go.bits .or .u64 (IntKind.u64.wrap (h * 4294967296)) l = h * 4294967296 + l := by
          rw [u64_in (by omega) (by omega)]
          exact or_high h l 32 h0 l0 (by simpa using hl1') (by omega) (by omega)
        have hs0 : 0 ≤ h * 4294967296 + l := by omega
        have hq0 : 0 ≤ (h * 4294967296 + l) / d := Int.ediv_nonneg hs0 d0
        have hq1 : (h * 4294967296 + l) / d ≤ h * 4294967296 + l := Int.ediv_le_self _ hs0
        rw [if_neg hz, hor, tdivp hs0, tmodp hs0, u64_in hq0 (by omega)]
        refine ⟨_, rfl, ?_⟩
        have hr := ref_loop 32 (by omega) h l d h0 (by omega) d1 l0 (by simpa using hl1') 32 (k + 134) (by omega) (by omega)
        simp only [oublietteref10_bits.f, Bool.false_eq_true, if_false, Option.bind_some]
        have e0 : l / 2 ^ 32 = 0 := Int.ediv_eq_zero_of_lt l0 (by simpa using hl1')
        rw [Nat.sub_self, Int.pow_zero, Int.mul_one, e0, Int.add_zero, Int.ediv_eq_zero_of_lt h0 (by omega), Int.emod_eq_of_lt h0 (by omega)] at hr
        rw [show wrap64 (32 - 1) = ((32 : Nat) : Int) - 1 by unfold wrap64; omega, show (4294967296 : Int) = 2 ^ 32 by decide]
        exact hr
theorem signed_eq (w : Bool) (v : Int) (h0 : -9223372036854775808 ≤ v) (h1 : v ≤ 9223372036854775807) : oublietteref10_signed.f w v = some (sg w v) := by
  unfold oublietteref10_signed.f
  rw [rtrim_eq]
  simp only [Option.bind_some]
  cases w with
  | true => rfl
  | false =>
    simp only [Bool.false_eq_true, if_false, tr, sg]
    split
    · rw [show wrap64 (v % 4294967296 - 4294967296) = v % 4294967296 - 4294967296 by unfold wrap64; omega]; congr 1; omega
    · congr 1; omega
theorem idiv_eq (w : Bool) (high low by_ : Int) (hl0 : -9223372036854775808 ≤ low) (hl1 : low ≤ 9223372036854775807) (hb0 : -9223372036854775808 ≤ by_) (hb1 : by_ ≤ 9223372036854775807) (k : Nat) :
    ∃ r, flags_Idiv.f (k + 10) w high low by_ = some r ∧ oublietteref10_Idiv.f (k + 10) w high low by_ = some r := by
  unfold flags_Idiv.f oublietteref10_Idiv.f
  simp only [trim_eq, sign_eq, signed_eq w low hl0 hl1, signed_eq w by_ hb0 hb1, Option.bind_some]
  have hsp : sg w low / 9223372036854775808 = if sg w low < 0 then -1 else 0 := by
    have : -9223372036854775808 ≤ sg w low ∧ sg w low ≤ 9223372036854775807 := by unfold sg; split <;> omega
    split <;> omega
  have hrange : (w = true → -9223372036854775808 ≤ sg w low ∧ sg w low ≤ 9223372036854775807) ∧ (w = false → -2147483648 ≤ sg w low ∧ sg w low ≤ 2147483647) := ⟨by rintro rfl; simp [sg]; omega, by rintro rfl; simp [sg]; omega⟩
  have hneg : (sg w (wrap64 (-(sg w low))) != sg w low) = !decide (sg w low = if w then -9223372036854775808 else -2147483648) ∨ sg w low = 0 := by
    by_cases c : sg w low = 0
    · exact .inr c
    · refine .inl ?_
      cases w with
      | true =>
        have := hrange.1 rfl
        generalize sg true low = a at *
        rw [Bool.eq_iff_iff]
        simp [sg]
        unfold wrap64
        omega
      | false =>
        have := hrange.2 rfl
        generalize sg false low = a at *
        rw [Bool.eq_iff_iff]
        simp [sg]
        unfold wrap64
        omega
  generalize sg w by_ = d at *
  generalize sg w low = a at *
  rw [hsp]
  have main : ∀ want : Int, want = (if a < 0 then -1 else 0) → ∃ r, (if d = 0 then flags_Idiv.j0 (k + 10) w a d true else flags_Idiv.j0 (k + 10) w a d (tr w high != tr w want)) = some r ∧ oublietteref10_Idiv.j0 (k + 10) w high a d want = some r := by
    intro want hwant
    simp only [oublietteref10_Idiv.j0, rtrim_eq, Option.bind_some]
    by_cases hz : d = 0
    · rw [if_pos hz, if_pos hz]
      exact ⟨(0, 0, false), by simp only [flags_Idiv.j0, if_true], by simp only [oublietteref10_Idiv.j1, if_true]⟩
    · rw [if_neg hz, if_neg hz]
      by_cases hne : (tr w high != tr w want) = true
      · rw [hne]
        exact ⟨(0, 0, false), by simp only [flags_Idiv.j0, if_true], by simp only [oublietteref10_Idiv.j1, if_true]⟩
      · rw [Bool.not_eq_true] at hne
        rw [hne]
        simp only [flags_Idiv.j0, oublietteref10_Idiv.j1, Bool.false_eq_true, if_false]
        by_cases h1 : d = -1
        · rw [if_pos h1, if_pos h1]
          have hj2 : ∀ least : Int, least = (if w then -9223372036854775808 else -2147483648) → ∃ r, (if a = 0 then flags_Idiv.j1 (k + 9) w (wrap64 (-a)) true else (flags_sign.f w (wrap64 (-a))).bind fun t122 => flags_Idiv.j1 (k + 9) w (wrap64 (-a)) (t122 != a)) = some r ∧ oublietteref10_Idiv.j2 (k + 8) w a least = some r := by
            intro least hle
            simp only [sign_eq, Option.bind_some, oublietteref10_Idiv.j2, rtrim_eq]
            have hl : least < 0 := by rw [hle]; split <;> omega
            by_cases ha : a = 0
            · rw [if_pos ha, if_neg (by omega)]
              refine ⟨_, ?_, rfl⟩; simp only [flags_Idiv.j1, if_true, trim_eq, Option.bind_some]
            · rw [if_neg ha]
              rcases hneg with hneg | hneg
              · rw [hneg, ← hle]
                by_cases hal : a = least
                · rw [if_pos hal, decide_eq_true hal]
                  refine ⟨_, ?_, rfl⟩; simp only [flags_Idiv.j1, Bool.not_true, Bool.false_eq_true, if_false]
                · rw [if_neg hal, decide_eq_false hal]
                  refine ⟨_, ?_, rfl⟩; simp only [flags_Idiv.j1, Bool.not_false, if_true, trim_eq, Option.bind_some]
              · exact absurd hneg ha
          cases w with
          | true => simp only [if_true]; exact hj2 _ rfl
          | false => simp only [Bool.false_eq_true, if_false]; exact hj2 _ rfl
        · rw [if_neg h1, if_neg h1, if_neg hz, if_neg hz]
          simp only [trim_eq, rtrim_eq, Option.bind_some]
          exact ⟨_, rfl, rfl⟩
  by_cases ha : a < 0
  · rw [if_pos ha, if_pos ha]; exact main _ (by rw [if_pos ha])
  · rw [if_neg ha, if_neg ha]; exact main _ (by rw [if_neg ha])
theorem FlagsDivide : oubliettelaw10_FlagsDivide.Pure := by
  intro w high low by_ wh wl wb
  have hl := bounds_i64 wl
  have hb := bounds_i64 wb
  have hex : oubliettelaw10_examples.f 200 = some true := by decide +kernel
  obtain ⟨r, a1, a2⟩ := div_eq w high low by_ 100 (by omega)
  obtain ⟨s, b1, b2⟩ := idiv_eq w high low by_ hl.1 hl.2 hb.1 hb.2 190
  have a1' : flags_Div.f 200 w high low by_ = some r := by
    obtain ⟨r', c1, c2⟩ := div_eq w high low by_ 200 (by omega)
    have : flags_Div.f 200 w high low by_ = some r := by
      have hm : ∀ n, flags_Div.f (100 + n) w high low by_ = some r := by
        intro n
        induction n with
        | zero => exact a1
        | succ n ih => exact flags_Div.mono w high low by_ (100 + n) _ ih
      exact hm 100
    exact this
  refine ⟨200, ?_⟩
  unfold oubliettelaw10_FlagsDivide.f
  rw [hex, a1', a2, b1, b2]
  simp
end Go.Proofs.Ytmmbhhapkgnlfaa.Pure

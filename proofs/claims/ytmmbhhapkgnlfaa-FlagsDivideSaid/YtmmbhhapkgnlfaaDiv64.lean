/- Division of a number of 128 bits by one of 64: the library's function answers quotient and rest. -/
import Derived.Test.YtmmbhhapkgnlfaaLen64
import Derived.Test.YtmmbhhapkgnlfaaMAx3
namespace Go.Proofs.Ytmmbhhapkgnlfaa.FlagsCore
open Go.RowKit Go.Proofs.Ytmmbhhapkgnlfaa.MA Go.Proofs.YtmmbhhapkgnlfaaW.PrintWords Go.Proofs.YtmmbhhapkgnlfaaW.PrintLast Go.Proofs.YtmmbhhapkgnlfaaW.PrintMore Go.Ob Go.Ob.Flags Go.Ob.Knuth
set_option linter.unusedVariables false
set_option linter.unusedSimpArgs false
/-- the first digit's loop -/
theorem dig0 {y1 y0 u u1 : Int} (h : Nums 4294967296 y1 y0 u u1) (x2 x8 x14 : Int) : ∀ (n : Nat) (q r : Int) (k : Nat), St 4294967296 y1 y0 u u1 q r → r < 4294967296 → 4294967296 ≤ r + n * 2147483648 → 2 * n + 2 ≤ k →
    ∃ k', k ≤ k' + 2 * n + 2 ∧ bits_Div64.l0 k x2 x8 y1 y0 u u1 x14 q r = bits_Div64.j2 k' x2 x8 y1 y0 u u1 x14 ((u * 4294967296 + u1) / (y1 * 4294967296 + y0)) := by
  intro n
  induction n with
  | zero => intro q r k s hr hm hk; omega
  | succ n ih =>
    intro q r k s hr hm hk
    obtain ⟨k, rfl⟩ : ∃ m, k = m + 2 := ⟨k - 2, by omega⟩
    have hQ0 := h.true_nonneg
    have hhi := s.hi
    have hr0 := s.r0
    have htop := s.top
    have h1 := h.h1
    have h1' := h.h1'
    have hstep : (4294967296 ≤ q ∨ 4294967296 * r + u1 < q * y0) → ∃ k', k + 2 ≤ k' + 2 * (n + 1) + 2 ∧ bits_Div64.j1 (k + 1) x2 x8 y1 y0 u u1 x14 q r true = bits_Div64.j2 k' x2 x8 y1 y0 u u1 x14 ((u * 4294967296 + u1) / (y1 * 4294967296 + y0)) := by
      intro hc
      have st := h.step s hc
      simp only [bits_Div64.j1, if_true]
      have hq1 := st.hi
      rw [u64_in (x := r + y1) (by omega) (by omega), u64_in (x := q - 1) (by omega) (by omega)]
      by_cases hb : r + y1 ≥ 4294967296
      · rw [if_pos hb]
        have := h.done st (h.broken st (by omega) (by omega))
        exact ⟨k, by omega, by rw [this]⟩
      · rw [if_neg hb]
        obtain ⟨k', a, b⟩ := ih (q - 1) (r + y1) k st (by omega) (by omega) (by omega)
        exact ⟨k', by omega, b⟩
    simp only [bits_Div64.l0]
    by_cases hq : q ≥ 4294967296
    · rw [if_pos hq]
      exact hstep (.inl hq)
    · rw [if_neg hq]
      have hy0 := h.h0
      have hy0' := h.h0'
      have hp0 : 0 ≤ q * y0 := Int.mul_nonneg (by omega) hy0
      have hp1 : q * y0 ≤ 4294967295 * 4294967295 := Int.mul_le_mul (by omega) (by omega) hy0 (by omega)
      have hv := h.hv
      have hv' := h.hv'
      rw [u64_in (x := q * y0) hp0 (by omega), u64_in (x := 4294967296 * r) (by omega) (by omega), u64_in (x := 4294967296 * r + u1) (by omega) (by omega)]
      by_cases hc : q * y0 > 4294967296 * r + u1
      · rw [decide_eq_true hc]
        exact hstep (.inr hc)
      · rw [decide_eq_false hc]
        simp only [bits_Div64.j1, Bool.false_eq_true, if_false]
        have := h.done s (by omega)
        exact ⟨k, by omega, by rw [← this]⟩
/-- the second digit's loop, to the end -/
theorem dig1 {y1 y0 u u1 : Int} (h : Nums 4294967296 y1 y0 u u1) (x2 x8 x15 : Int) (h8 : 0 ≤ x8) : ∀ (n : Nat) (q r : Int) (k : Nat), St 4294967296 y1 y0 u u1 q r → r < 4294967296 → 4294967296 ≤ r + n * 2147483648 → 2 * n + 2 ≤ k →
    bits_Div64.l1 k x2 x8 y1 y0 u1 x15 r u q = some (IntKind.u64.wrap (IntKind.u64.wrap (x15 * 4294967296) + (u * 4294967296 + u1) / (y1 * 4294967296 + y0)), shr .u64 (IntKind.u64.wrap (IntKind.u64.wrap (IntKind.u64.wrap (u * 4294967296) + u1) - IntKind.u64.wrap ((u * 4294967296 + u1) / (y1 * 4294967296 + y0) * x2))) x8) := by
  intro n
  induction n with
  | zero => intro q r k s hr hm hk; omega
  | succ n ih =>
    intro q r k s hr hm hk
    obtain ⟨k, rfl⟩ : ∃ m, k = m + 2 := ⟨k - 2, by omega⟩
    have hQ0 := h.true_nonneg
    have hhi := s.hi
    have hr0 := s.r0
    have htop := s.top
    have h1 := h.h1
    have h1' := h.h1'
    have hstep : (4294967296 ≤ q ∨ 4294967296 * r + u1 < q * y0) → bits_Div64.j4 (k + 1) x2 x8 y1 y0 u1 x15 r u q true = some (IntKind.u64.wrap (IntKind.u64.wrap (x15 * 4294967296) + (u * 4294967296 + u1) / (y1 * 4294967296 + y0)), shr .u64 (IntKind.u64.wrap (IntKind.u64.wrap (IntKind.u64.wrap (u * 4294967296) + u1) - IntKind.u64.wrap ((u * 4294967296 + u1) / (y1 * 4294967296 + y0) * x2))) x8) := by
      intro hc
      have st := h.step s hc
      simp only [bits_Div64.j4, if_true]
      have hq1 := st.hi
      rw [u64_in (x := r + y1) (by omega) (by omega), u64_in (x := q - 1) (by omega) (by omega)]
      by_cases hb : r + y1 ≥ 4294967296
      · rw [if_pos hb, if_pos h8]
        have := h.done st (h.broken st (by omega) (by omega))
        rw [← this]
      · rw [if_neg hb]
        exact ih (q - 1) (r + y1) k st (by omega) (by omega) (by omega)
    simp only [bits_Div64.l1]
    by_cases hq : q ≥ 4294967296
    · rw [if_pos hq]
      exact hstep (.inl hq)
    · rw [if_neg hq]
      have hy0 := h.h0
      have hy0' := h.h0'
      have hp0 : 0 ≤ q * y0 := Int.mul_nonneg (by omega) hy0
      have hp1 : q * y0 ≤ 4294967295 * 4294967295 := Int.mul_le_mul (by omega) (by omega) hy0 (by omega)
      have hv := h.hv
      have hv' := h.hv'
      rw [u64_in (x := q * y0) hp0 (by omega), u64_in (x := 4294967296 * r) (by omega) (by omega), u64_in (x := 4294967296 * r + u1) (by omega) (by omega)]
      by_cases hc : q * y0 > 4294967296 * r + u1
      · rw [decide_eq_true hc]
        exact hstep (.inr hc)
      · rw [decide_eq_false hc]
        simp only [bits_Div64.j4, Bool.false_eq_true, if_false]
        have := h.done s (by omega)
        rw [if_pos h8, ← this]
theorem and_low (x : Int) (h0 : 0 ≤ x) (h1 : x < 18446744073709551616) : Go.bits .and .u64 x 4294967295 = x % 4294967296 := by
  obtain ⟨n, rfl⟩ := Int.eq_ofNat_of_zero_le h0
  have := bits_and_u64_nat n 4294967295 (by omega) (by omega)
  have e : n &&& 4294967295 = n % 4294967296 := Nat.and_two_pow_sub_one_eq_mod n 32
  rw [e] at this
  exact this
theorem or_high (a b : Int) (s : Nat) (ha : 0 ≤ a) (hb0 : 0 ≤ b) (hb : b < 2 ^ s) (h : a * 2 ^ s < 18446744073709551616) (hs : s ≤ 64) : Go.bits .or .u64 (a * 2 ^ s) b = a * 2 ^ s + b := by
  obtain ⟨n, rfl⟩ := Int.eq_ofNat_of_zero_le ha
  obtain ⟨m, rfl⟩ := Int.eq_ofNat_of_zero_le hb0
  have hm : m < 2 ^ s := by exact_mod_cast hb
  have hn : n * 2 ^ s < 18446744073709551616 := by
    have h' : ((n * 2 ^ s : Nat) : Int) < 18446744073709551616 := by push_cast; exact h
    omega
  have hle : (2 : Nat) ^ s ≤ 2 ^ 64 := Nat.pow_le_pow_right (by decide) hs
  have := bits_or_u64_nat (n * 2 ^ s) m hn (by omega)
  rw [Nat.mul_comm n, ← Nat.two_pow_add_eq_or_of_lt hm, Nat.mul_comm] at this
  push_cast at this
  exact this
theorem shl_u (x : Int) (s : Nat) (hs : s ≤ 64) : shl .u64 x (s : Int) = (x * 2 ^ s) % 18446744073709551616 := by
  unfold shl
  rw [show min ((s : Int)).toNat IntKind.u64.bits = s by simp [IntKind.bits]; omega, IntKind.wrap_u64]
theorem shr_u (x : Int) (s : Nat) (hs : s ≤ 64) : shr .u64 x (s : Int) = x / 2 ^ s := by
  unfold shr
  rw [show min ((s : Int)).toNat IntKind.u64.bits = s by simp [IntKind.bits]; omega]
theorem Div64_eq (k : Nat) (hk : 30 ≤ k) (hi lo y : Int) (a0 : 0 ≤ hi) (a1 : hi < y) (b0 : 0 ≤ lo) (b1 : lo < 18446744073709551616) (c1 : y < 18446744073709551616) :
    bits_Div64.f k hi lo y = some ((hi * 18446744073709551616 + lo) / y, (hi * 18446744073709551616 + lo) % y) := by
  unfold bits_Div64.f
  rw [if_neg (by omega), if_neg (by omega)]
  by_cases hz : hi = 0
  · subst hz
    have hq : 0 ≤ lo / y := Int.ediv_nonneg b0 (by omega)
    have hq2 : lo / y ≤ lo := Int.ediv_le_self _ b0
    rw [if_pos rfl, tdivp b0, tmodp b0, u64_in hq (by omega), Int.zero_mul, Int.zero_add]
  · rw [if_neg hz]
    obtain ⟨k, rfl⟩ : ∃ m, k = m + 20 := ⟨k - 20, by omega⟩
    obtain ⟨L, hL, L1, L64, g0, g1⟩ := len_eq (k + 19) y (by omega) c1
    unfold bits_LeadingZeros64.f
    rw [hL]
    simp only [Option.bind_some]
    have hw : wrap64 (64 - (L : Int)) = ((64 - L : Nat) : Int) := by unfold wrap64; omega
    rw [hw, u64_in (by omega) (by omega)]
    obtain ⟨s, hs⟩ : ∃ s, s = 64 - L := ⟨_, rfl⟩
    rw [← hs]
    have hLs : L = 64 - s := by omega
    have hs63 : s ≤ 63 := by omega
    rw [if_pos (by omega), show (64 : Int) - (s : Int) = ((64 - s : Nat) : Int) by omega, u64_in (by omega) (by omega), if_pos (by omega)]
    simp only [shl_u _ s (by omega), shr_u _ (64 - s) (by omega)]
    -- the numbers
    have hp : (1 : Int) ≤ 2 ^ s := Int.pow_pos (by decide)
    have e64 : (2 : Int) ^ s * 2 ^ (64 - s) = 18446744073709551616 := by rw [← Int.pow_add, show s + (64 - s) = 64 by omega]; rfl
    have e63 : (2 : Int) ^ s * 2 ^ (64 - s - 1) = 9223372036854775808 := by rw [← Int.pow_add, show s + (64 - s - 1) = 63 by omega]; rfl
    have hy63 : 9223372036854775808 ≤ y * 2 ^ s := by
      rw [← e63, Int.mul_comm]
      exact Int.mul_le_mul_of_nonneg_right (by rw [← hLs]; exact g0) (by omega)
    have hy64 : y * 2 ^ s < 18446744073709551616 := by
      rw [← e64, Int.mul_comm y]
      exact Int.mul_lt_mul_of_pos_left (by rw [← hLs]; exact g1) (by omega)
    have hhy : hi * 2 ^ s + 2 ^ s ≤ y * 2 ^ s := by
      have := Int.mul_le_mul_of_nonneg_right (show hi + 1 ≤ y by omega) (show (0 : Int) ≤ 2 ^ s by omega)
      rw [Int.add_mul, Int.one_mul] at this
      exact this
    have hh0 : 0 ≤ hi * 2 ^ s := Int.mul_nonneg a0 (by omega)
    have hp2 : (0 : Int) < 2 ^ (64 - s) := Int.pow_pos (by decide)
    have hlo0 : 0 ≤ lo / 2 ^ (64 - s) := Int.ediv_nonneg b0 (by omega)
    have hlo1 : lo / 2 ^ (64 - s) < 2 ^ s := Int.ediv_lt_of_lt_mul hp2 (by rw [e64]; exact b1)
    have elo := Int.emod_add_mul_ediv lo (2 ^ (64 - s))
    have hlm : (lo * 2 ^ s) % 18446744073709551616 = 2 ^ s * (lo % 2 ^ (64 - s)) := by
      rw [← e64, Int.mul_comm lo, Int.mul_emod_mul_of_pos _ _ (by omega)]
    have m0 := Int.emod_nonneg lo (show (2 : Int) ^ (64 - s) ≠ 0 by omega)
    have m1 := Int.emod_lt_of_pos lo hp2
    have hlm0 : 0 ≤ 2 ^ s * (lo % 2 ^ (64 - s)) := Int.mul_nonneg (by omega) m0
    have hlm1 : 2 ^ s * (lo % 2 ^ (64 - s)) < 18446744073709551616 := by rw [← hlm]; exact Int.emod_lt_of_pos _ (by decide)
    have hN : (hi * 18446744073709551616 + lo) * 2 ^ s = (hi * 2 ^ s + lo / 2 ^ (64 - s)) * 18446744073709551616 + 2 ^ s * (lo % 2 ^ (64 - s)) := by
      have e1 : 2 ^ s * lo = 2 ^ s * (lo % 2 ^ (64 - s)) + 18446744073709551616 * (lo / 2 ^ (64 - s)) := by
        rw [← e64, Int.mul_assoc, ← Int.mul_add, elo]
      rw [Int.add_mul, Int.mul_comm lo, e1, Int.add_mul]
      have : hi * 18446744073709551616 * 2 ^ s = hi * 2 ^ s * 18446744073709551616 := by rw [Int.mul_assoc, Int.mul_comm 18446744073709551616, Int.mul_assoc]
      omega
    rw [hlm, Int.emod_eq_of_lt hh0 (by omega), Int.emod_eq_of_lt (by omega) hy64, or_high hi _ s a0 hlo0 hlo1 (by omega) (by omega)]
    rw [and_low _ (by omega) hy64, and_low _ hlm0 hlm1]
    generalize hY : y * 2 ^ s = Y at *
    generalize hU : hi * 2 ^ s + lo / 2 ^ (64 - s) = U at *
    generalize hV : 2 ^ s * (lo % 2 ^ (64 - s)) = V at *
    have hU0 : 0 ≤ U := by omega
    have hUY : U < Y := by omega
    have hYs : Y / 4294967296 * 4294967296 + Y % 4294967296 = Y := by omega
    have n1 : Nums 4294967296 (Y / 4294967296) (Y % 4294967296) U (V / 4294967296) := ⟨by omega, by omega, by omega, by omega, by omega, hU0, by omega, by omega, by omega⟩
    have ns1 := n1.start
    have hq0 : 0 ≤ U / (Y / 4294967296) := Int.ediv_nonneg hU0 (by omega)
    have hqle : U / (Y / 4294967296) ≤ U := Int.ediv_le_self _ hU0
    rw [if_neg (by omega), tdivp hU0, u64_in hq0 (by omega)]
    have hmul0 : 0 ≤ U / (Y / 4294967296) * (Y / 4294967296) := Int.mul_nonneg hq0 (by omega)
    have hr0 := ns1.1.r0
    rw [u64_in (x := U / (Y / 4294967296) * (Y / 4294967296)) hmul0 (by omega), u64_in (x := U - U / (Y / 4294967296) * (Y / 4294967296)) hr0 (by omega)]
    obtain ⟨k', hk', hd⟩ := dig0 n1 Y (s : Int) (V % 4294967296) 2 _ _ (k + 20) ns1.1 (by have := ns1.2; omega) (by omega) (by omega)
    rw [hd, hYs]
    obtain ⟨k', rfl⟩ : ∃ m, k' = m + 1 := ⟨k' - 1, by omega⟩
    simp only [bits_Div64.j2]
    rw [if_neg (by omega)]
    have t0 := n1.true_nonneg
    have t1 := n1.true_lt
    have hl1 := n1.left rfl
    have hR0 := Int.emod_nonneg (U * 4294967296 + V / 4294967296) (show Y ≠ 0 by omega)
    have hR1 := Int.emod_lt_of_pos (U * 4294967296 + V / 4294967296) (show 0 < Y by omega)
    have eQ1 := Int.emod_add_mul_ediv (U * 4294967296 + V / 4294967296) Y
    rw [hYs] at t0 t1 hl1
    generalize hQ1 : (U * 4294967296 + V / 4294967296) / Y = Q1 at *
    generalize hRr : (U * 4294967296 + V / 4294967296) % Y = R1 at *
    have hun : IntKind.u64.wrap (IntKind.u64.wrap (IntKind.u64.wrap (U * 4294967296) + V / 4294967296) - IntKind.u64.wrap (Q1 * Y)) = R1 := by
      simp only [u64_is]
      omega
    simp only [hun]
    have n2 : Nums 4294967296 (Y / 4294967296) (Y % 4294967296) R1 (V % 4294967296) := ⟨by omega, by omega, by omega, by omega, by omega, hR0, by omega, by omega, by omega⟩
    have ns2 := n2.start
    have hq20 : 0 ≤ R1 / (Y / 4294967296) := Int.ediv_nonneg hR0 (by omega)
    have hq2le : R1 / (Y / 4294967296) ≤ R1 := Int.ediv_le_self _ hR0
    have hmul20 : 0 ≤ R1 / (Y / 4294967296) * (Y / 4294967296) := Int.mul_nonneg hq20 (by omega)
    have hr20 := ns2.1.r0
    rw [tdivp hR0, u64_in hq20 (by omega), u64_in (x := R1 / (Y / 4294967296) * (Y / 4294967296)) hmul20 (by omega), u64_in (x := R1 - R1 / (Y / 4294967296) * (Y / 4294967296)) hr20 (by omega)]
    rw [dig1 n2 Y (s : Int) Q1 (by omega) 2 _ _ k' ns2.1 (by have := ns2.2; omega) (by omega) (by omega), hYs]
    have t20 := n2.true_nonneg
    have t21 := n2.true_lt
    have hR20 := Int.emod_nonneg (R1 * 4294967296 + V % 4294967296) (show Y ≠ 0 by omega)
    have hR21 := Int.emod_lt_of_pos (R1 * 4294967296 + V % 4294967296) (show 0 < Y by omega)
    have eQ0 := Int.emod_add_mul_ediv (R1 * 4294967296 + V % 4294967296) Y
    rw [hYs] at t20 t21
    generalize hQ0 : (R1 * 4294967296 + V % 4294967296) / Y = Q0 at *
    generalize hR0r : (R1 * 4294967296 + V % 4294967296) % Y = R0 at *
    have hc1 : Q0 * Y = Y * Q0 := Int.mul_comm _ _
    have hun2 : IntKind.u64.wrap (IntKind.u64.wrap (IntKind.u64.wrap (R1 * 4294967296) + V % 4294967296) - IntKind.u64.wrap (Q0 * Y)) = R0 := by
      simp only [u64_is]
      omega
    rw [hun2, u64_in (x := Q1 * 4294967296) (by omega) (by omega), u64_in (x := Q1 * 4294967296 + Q0) (by omega) (by omega), shr_u R0 s (by omega)]
    have hfin : R0 + Y * (Q1 * 4294967296 + Q0) = (hi * 18446744073709551616 + lo) * 2 ^ s := by
      rw [hN, Int.mul_add]
      have : Y * (Q1 * 4294967296) = Y * Q1 * 4294967296 := by rw [Int.mul_assoc]
      omega
    have hu := (Int.ediv_emod_unique (a := (hi * 18446744073709551616 + lo) * 2 ^ s) (b := Y) (r := R0) (q := Q1 * 4294967296 + Q0) (by omega)).mpr ⟨hfin, hR20, hR21⟩
    rw [← hY] at hu
    have d1 : (hi * 18446744073709551616 + lo) * 2 ^ s / (y * 2 ^ s) = (hi * 18446744073709551616 + lo) / y := Int.mul_ediv_mul_of_pos_left _ _ (by omega)
    have d2 : (hi * 18446744073709551616 + lo) * 2 ^ s % (y * 2 ^ s) = 2 ^ s * ((hi * 18446744073709551616 + lo) % y) := by
      rw [Int.mul_comm _ ((2 : Int) ^ s), Int.mul_comm y, Int.mul_emod_mul_of_pos _ _ (by omega)]
    rw [d1, d2] at hu
    rw [← hu.1, ← hu.2, Int.mul_ediv_cancel_left _ (by omega)]
end Go.Proofs.Ytmmbhhapkgnlfaa.FlagsCore

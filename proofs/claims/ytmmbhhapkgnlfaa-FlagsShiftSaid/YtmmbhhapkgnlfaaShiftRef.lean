/- What the reference's turning and moving, one bit after the other, answers. -/
import Derived.Test.YtmmbhhapkgnlfaaShiftPlain
import Derived.Test.YtmmbhhapkgnlfaaMHx5
namespace Go.Proofs.Ytmmbhhapkgnlfaa.ShiftCore
open Go.RowKit Go.Proofs.Ytmmbhhapkgnlfaa.MH Go.Proofs.YtmmbhhapkgnlfaaW.PrintWords Go.Proofs.YtmmbhhapkgnlfaaW.PrintLast Go.Proofs.YtmmbhhapkgnlfaaW.PrintMore Go.Ob Go.Ob.Flags Go.Ob.Rot
set_option linter.unusedVariables false
set_option linter.unusedSimpArgs false
/-- one step, of the number without sign -/
def stp (kind : Int) (w : Bool) (u : Int) : Int :=
  if kind = 0 then (2 * u) % md w + (if u ≥ hf w then 1 else 0)
  else if kind = 1 then u / 2 + (u % 2) * hf w
  else if kind = 4 then (2 * u) % md w
  else if kind = 5 then u / 2
  else if kind = 7 then u / 2 + (if u ≥ hf w then hf w else 0)
  else u
theorem stp_in (kind : Int) (w : Bool) (u : Int) (h0 : 0 ≤ u) (h1 : u < md w) : 0 ≤ stp kind w u ∧ stp kind w u < md w := by
  unfold stp
  cases w <;> simp only [md, hf, Bool.false_eq_true, if_false, if_true] at * <;> repeat' split
  all_goals omega
theorem top_vv (w : Bool) (u : Int) (h0 : 0 ≤ u) (h1 : u < md w) : oublietteref10_top.f w (vv w u) = some (decide (u ≥ hf w)) := by
  unfold oublietteref10_top.f
  cases w with
  | true =>
    simp only [if_true, vv, hf, md] at *
    congr 1
    rw [Bool.eq_iff_iff]
    simp
    unfold wrap64
    omega
  | false =>
    simp only [Bool.false_eq_true, if_false, vv, hf, md, and1] at *
    congr 1
    rw [Bool.eq_iff_iff]
    simp
    omega
theorem shl_trim (w : Bool) (u : Int) (h0 : 0 ≤ u) (h1 : u < md w) : tr w (wrap64 (vv w u * 2)) = vv w ((2 * u) % md w) := by
  cases w <;> simp only [tr, vv, md, Bool.false_eq_true, if_false, if_true] at * <;> unfold wrap64 <;> omega
theorem or_one (w : Bool) (u : Int) (h0 : 0 ≤ u) (h1 : u < md w) : Go.bits .or .i64 (vv w ((2 * u) % md w)) 1 = vv w ((2 * u) % md w + 1) := by
  have e : (-9223372036854775808 ≤ vv w ((2 * u) % md w) ∧ vv w ((2 * u) % md w) ≤ 9223372036854775807) ∧ vv w ((2 * u) % md w) % 2 = 0 ∧ vv w ((2 * u) % md w) + 1 = vv w ((2 * u) % md w + 1) := by
    cases w with
    | true => simp only [vv, md, if_true]; unfold wrap64; omega
    | false => simp only [vv, md, Bool.false_eq_true, if_false]; refine ⟨⟨by omega, by omega⟩, by omega, ?_⟩; trivial
  rw [or_add _ 1 e.1.1 e.1.2 1 (by decide) (by simpa using e.2.1) (by decide) (by decide), e.2.2]
theorem low_bit (w : Bool) (u : Int) (h0 : 0 ≤ u) (h1 : u < md w) : (Go.bits .and .i64 (vv w u) 1 == 1) = decide (u % 2 = 1) := by
  rw [and1, Bool.eq_iff_iff]
  cases w <;> simp [vv, md] <;> unfold wrap64 <;> omega
theorem shr_one (w : Bool) (u : Int) (h0 : 0 ≤ u) (h1 : u < md w) : wrap64 (IntKind.u64.wrap (vv w u) / 2) = u / 2 := by
  rw [IntKind.wrap_u64]
  cases w <;> simp only [vv, md, Bool.false_eq_true, if_false, if_true] at * <;> unfold wrap64 <;> omega
theorem or_top (w : Bool) (u : Int) (h0 : 0 ≤ u) (h1 : u < md w) : Go.bits .or .i64 (u / 2) (shl .i64 1 (wrap64 ((wd w : Int) - 1))) = vv w (u / 2 + hf w) ∧ 0 ≤ wrap64 ((wd w : Int) - 1) := by
  have hc : ∀ a b : Int, Go.bits .or .i64 a b = Go.bits .or .i64 b a := fun a b => by rw [bits_or_i64, bits_or_i64, BitVec.or_comm]
  rw [hc]
  cases w with
  | true =>
    have e : shl .i64 1 (wrap64 ((wd true : Int) - 1)) = -9223372036854775808 := by decide +kernel
    rw [e, or_add (-9223372036854775808) (u / 2) (by decide) (by decide) 63 (by decide) (by decide) (by omega) (by simp [md] at h1; omega)]
    simp only [vv, md, hf, if_true] at *
    exact ⟨by unfold wrap64; omega, by decide +kernel⟩
  | false =>
    have e : shl .i64 1 (wrap64 ((wd false : Int) - 1)) = 2147483648 := by decide +kernel
    rw [e, or_add 2147483648 (u / 2) (by decide) (by decide) 31 (by decide) (by decide) (by omega) (by simp [md] at h1; omega)]
    simp only [vv, md, hf, Bool.false_eq_true, if_false] at *
    exact ⟨by omega, by decide +kernel⟩
theorem vv_half (w : Bool) (u : Int) (h0 : 0 ≤ u) (h1 : u < md w) : u / 2 = vv w (u / 2) := by
  cases w <;> simp only [vv, md, Bool.false_eq_true, if_false, if_true] at *
  unfold wrap64; omega
theorem one_round (kind : Int) (w : Bool) (u : Int) (h0 : 0 ≤ u) (h1 : u < md w) (n i : Nat) (hi : i < n) (hn : n ≤ 64) (k : Nat) :
    ∃ k', k ≤ k' ∧ oublietteref10_Shift.l0 (k + 4) kind w (vv w u) (n : Int) (wd w : Int) (i : Int) = oublietteref10_Shift.l0 k' kind w (vv w (stp kind w u)) (n : Int) (wd w : Int) ((i + 1 : Nat) : Int) := by
  have hw : wrap64 ((i : Int) + 1) = ((i + 1 : Nat) : Int) := by unfold wrap64; omega
  have hot := or_top w u h0 h1
  simp only [oublietteref10_Shift.l0]
  rw [if_pos (by omega), top_vv w u h0 h1, low_bit w u h0 h1]
  simp only [Option.bind_some]
  by_cases c0 : kind = 0
  · subst c0
    rw [if_pos rfl]
    simp only [oublietteref10_Shift.j1, beq_self_eq_true, if_true, rtrim_eq, Option.bind_some, shl_trim w u h0 h1, hw, or_one w u h0 h1]
    refine ⟨k + 2, by omega, ?_⟩
    unfold stp
    rw [if_pos rfl]
    by_cases ht : u ≥ hf w
    · rw [if_pos ht, decide_eq_true ht]; simp
    · rw [if_neg ht, decide_eq_false ht]; simp
  rw [if_neg c0]
  by_cases c4 : kind = 4
  · subst c4
    simp only [oublietteref10_Shift.j1, beq_self_eq_true, if_true, rtrim_eq, Option.bind_some, shl_trim w u h0 h1, hw]
    exact ⟨k + 2, by omega, by unfold stp; simp⟩
  have e4 : (kind == 4) = false := beq_eq_false_iff_ne.mpr c4
  simp only [oublietteref10_Shift.j1, e4, Bool.false_eq_true, if_false]
  by_cases c1 : kind = 1
  · subst c1
    simp only [if_true, oublietteref10_Shift.j2, beq_self_eq_true, shr_one w u h0 h1, show ¬ ((1 : Int) = 7) by decide, if_false]
    by_cases hl : u % 2 = 1
    · rw [decide_eq_true hl]
      simp only [if_true, oublietteref10_Shift.j3]
      rw [if_pos hot.2, hot.1, hw]
      exact ⟨k, by omega, by unfold stp; rw [if_neg (by decide), if_pos rfl, hl, Int.one_mul]⟩
    · rw [decide_eq_false hl]
      simp only [Bool.false_eq_true, if_false, oublietteref10_Shift.j3, hw]
      refine ⟨k, by omega, ?_⟩
      unfold stp
      rw [if_neg (by decide), if_pos rfl, show u % 2 = 0 by omega, Int.zero_mul, Int.add_zero, ← vv_half w u h0 h1]
  rw [if_neg c1]
  by_cases c5 : kind = 5
  · subst c5
    simp only [if_true, oublietteref10_Shift.j2, beq_self_eq_true, shr_one w u h0 h1, show ¬ ((5 : Int) = 7) by decide, show ¬ ((5 : Int) = 1) by decide, if_false, oublietteref10_Shift.j3, Bool.false_eq_true, hw]
    refine ⟨k, by omega, ?_⟩
    unfold stp
    rw [if_neg (by decide), if_neg (by decide), if_neg (by decide), if_pos rfl, ← vv_half w u h0 h1]
  rw [if_neg c5]
  by_cases c7 : kind = 7
  · subst c7
    simp only [if_true, oublietteref10_Shift.j2, beq_self_eq_true, shr_one w u h0 h1, show ¬ ((7 : Int) = 1) by decide, if_false]
    by_cases ht : u ≥ hf w
    · rw [decide_eq_true ht]
      simp only [if_true, oublietteref10_Shift.j3]
      rw [if_pos hot.2, hot.1, hw]
      exact ⟨k, by omega, by unfold stp; rw [if_neg (by decide), if_neg (by decide), if_neg (by decide), if_neg (by decide), if_pos rfl, if_pos ht]⟩
    · rw [decide_eq_false ht]
      simp only [Bool.false_eq_true, if_false, oublietteref10_Shift.j3, hw]
      refine ⟨k, by omega, ?_⟩
      unfold stp
      rw [if_neg (by decide), if_neg (by decide), if_neg (by decide), if_neg (by decide), if_pos rfl, if_neg ht, Int.add_zero, ← vv_half w u h0 h1]
  have e7 : (kind == 7) = false := beq_eq_false_iff_ne.mpr c7
  simp only [oublietteref10_Shift.j2, e7, Bool.false_eq_true, if_false, hw]
  exact ⟨k + 1, by omega, by unfold stp; rw [if_neg c0, if_neg c1, if_neg c4, if_neg c5, if_neg c7]⟩
/-- many steps -/
def many (kind : Int) (w : Bool) : Nat → Int → Int
  | 0, u => u
  | n + 1, u => stp kind w (many kind w n u)
theorem many_in (kind : Int) (w : Bool) (u : Int) (h0 : 0 ≤ u) (h1 : u < md w) (n : Nat) : 0 ≤ many kind w n u ∧ many kind w n u < md w := by
  induction n with
  | zero => exact ⟨h0, h1⟩
  | succ n ih => exact stp_in kind w _ ih.1 ih.2
theorem rounds (kind : Int) (w : Bool) (u : Int) (h0 : 0 ≤ u) (h1 : u < md w) (n : Nat) (hn : n ≤ 64) : ∀ (d i k : Nat), i + d = n → 4 * d + 2 ≤ k →
    oublietteref10_Shift.l0 k kind w (vv w (many kind w i u)) (n : Int) (wd w : Int) (i : Int) = some (if kind = 0 ∨ kind = 1 ∨ kind = 4 ∨ kind = 5 ∨ kind = 7 then (vv w (many kind w n u), true) else (0, false)) := by
  intro d
  induction d with
  | zero =>
    intro i k hi hk
    obtain ⟨k, rfl⟩ : ∃ m, k = m + 2 := ⟨k - 2, by omega⟩
    obtain rfl : i = n := by omega
    simp only [oublietteref10_Shift.l0]
    rw [if_neg (by omega)]
    by_cases c0 : kind = 0
    · subst c0; simp [oublietteref10_Shift.j4]
    by_cases c1 : kind = 1
    · subst c1; simp [oublietteref10_Shift.j4]
    by_cases c4 : kind = 4
    · subst c4; simp [oublietteref10_Shift.j4]
    by_cases c5 : kind = 5
    · subst c5; simp [oublietteref10_Shift.j4]
    by_cases c7 : kind = 7
    · subst c7; simp [oublietteref10_Shift.j4]
    simp [oublietteref10_Shift.j4, c0, c1, c4, c5, c7]
  | succ d ih =>
    intro i k hi hk
    obtain ⟨k, rfl⟩ : ∃ m, k = m + 4 := ⟨k - 4, by omega⟩
    have hm := many_in kind w u h0 h1 i
    obtain ⟨k', hk', e⟩ := one_round kind w _ hm.1 hm.2 n i (by omega) hn k
    rw [e]
    exact ih (i + 1) k' (by omega) (by omega)
/-- what many steps come to -/
theorem many_rol (w : Bool) (u : Int) (h0 : 0 ≤ u) (h1 : u < md w) : ∀ n : Nat, n ≤ wd w → many 0 w n u = rotl (wd w) u n := by
  intro n
  induction n with
  | zero => intro _; exact (rotl_zero _ u h0 (by rw [← md_pow]; exact h1)).symm
  | succ n ih =>
    intro hn
    have := rotl_step (wd w) n (by omega) u (md w) (hf w) (md_pow w) (hf2 w) h0 h1
    simp only [many]
    rw [ih (by omega), this.1]
    unfold stp
    rw [if_pos rfl]
theorem many_ror (w : Bool) (u : Int) (h0 : 0 ≤ u) (h1 : u < md w) : ∀ n : Nat, n ≤ wd w → many 1 w n u = rotr (wd w) u n := by
  intro n
  induction n with
  | zero => intro _; exact (rotr_zero _ u).symm
  | succ n ih =>
    intro hn
    have := rotr_step (wd w) n (by omega) u (md w) (hf w) (md_pow w) (hf2 w) h0 h1
    simp only [many]
    rw [ih (by omega), this.1]
    unfold stp
    rw [if_neg (by decide), if_pos rfl]
theorem many_shl (w : Bool) (u : Int) (h0 : 0 ≤ u) (h1 : u < md w) : ∀ n : Nat, many 4 w n u = (u * 2 ^ n) % md w := by
  intro n
  induction n with
  | zero => rw [Int.pow_zero, Int.mul_one, Int.emod_eq_of_lt h0 h1]; rfl
  | succ n ih =>
    simp only [many]
    rw [ih, Int.pow_succ, ← Int.mul_assoc]
    unfold stp
    rw [if_neg (by decide), if_neg (by decide), if_pos rfl]
    generalize u * 2 ^ n = z
    cases w <;> simp only [md, Bool.false_eq_true, if_false, if_true] <;> omega
theorem many_shr (w : Bool) (u : Int) (h0 : 0 ≤ u) (h1 : u < md w) : ∀ n : Nat, many 5 w n u = u / 2 ^ n := by
  intro n
  induction n with
  | zero => rw [Int.pow_zero, Int.ediv_one]; rfl
  | succ n ih =>
    simp only [many]
    rw [ih, Int.pow_succ, ← Int.ediv_ediv_of_nonneg (Int.le_of_lt (Int.pow_pos (by decide)))]
    unfold stp
    rw [if_neg (by decide), if_neg (by decide), if_neg (by decide), if_pos rfl]
theorem half_in (s H : Int) (n : Nat) (h0 : -H ≤ s) (h1 : s < H) (hH : 0 < H) : -H ≤ s / 2 ^ n ∧ s / 2 ^ n < H := by
  induction n with
  | zero => rw [Int.pow_zero, Int.ediv_one]; exact ⟨h0, h1⟩
  | succ n ih =>
    rw [Int.pow_succ, ← Int.ediv_ediv_of_nonneg (Int.le_of_lt (Int.pow_pos (by decide)))]
    omega
theorem many_sar (w : Bool) (s : Int) (h0 : -(hf w) ≤ s) (h1 : s < hf w) : ∀ n : Nat, many 7 w n (s % md w) = (s / 2 ^ n) % md w := by
  intro n
  induction n with
  | zero => rw [Int.pow_zero, Int.ediv_one]; rfl
  | succ n ih =>
    simp only [many]
    rw [ih, Int.pow_succ, ← Int.ediv_ediv_of_nonneg (Int.le_of_lt (Int.pow_pos (by decide)))]
    have := half_in s (hf w) n h0 h1 (by cases w <;> decide)
    unfold stp
    rw [if_neg (by decide), if_neg (by decide), if_neg (by decide), if_neg (by decide), if_pos rfl]
    generalize s / 2 ^ n = z at *
    cases w <;> simp only [md, hf, Bool.false_eq_true, if_false, if_true] at * <;> split <;> omega
end Go.Proofs.Ytmmbhhapkgnlfaa.ShiftCore

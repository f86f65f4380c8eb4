/- Any value is moved or turned by any number as the chapter says, or refused: for any numbers and both widths. No condition of its own. This text is the plain law. -/
import Derived.Test.YtmmbhhapkgnlfaaMHx5
import Derived.Test.YtmmbhhapkgnlfaaShiftRef
namespace Go.Proofs.Ytmmbhhapkgnlfaa.Pure
open Go.RowKit Go.Proofs.Ytmmbhhapkgnlfaa.MH Go.Proofs.YtmmbhhapkgnlfaaW.PrintWords Go.Proofs.YtmmbhhapkgnlfaaW.PrintLast Go.Ob Go.Ob.Flags Go.Ob.Rot Go.Proofs.Ytmmbhhapkgnlfaa.ShiftCore
set_option linter.unusedVariables false
set_option linter.unusedSimpArgs false
theorem by_in (w : Bool) (n : Int) : ∃ m : Nat, flags_Shift.by w n = m ∧ m < wd w := by
  rw [by_eq]
  have : (0 : Int) < wd w := by cases w <;> decide
  exact ⟨(n % (wd w : Int)).toNat, by have := Int.emod_nonneg n (show (wd w : Int) ≠ 0 by omega); omega, by have := Int.emod_nonneg n (show (wd w : Int) ≠ 0 by omega); have := Int.emod_lt_of_pos n (show (0 : Int) < wd w by omega); omega⟩
theorem ref_eq (kind : Int) (w : Bool) (v n : Int) (hv0 : -9223372036854775808 ≤ v) (hv1 : v ≤ 9223372036854775807) (m : Nat) (hm : flags_Shift.by w n = m) (hmw : m < wd w) (k : Nat) (hk : 400 ≤ k) :
    oublietteref10_Shift.f k kind w v n = some (if kind = 0 ∨ kind = 1 ∨ kind = 4 ∨ kind = 5 ∨ kind = 7 then (vv w (many kind w m (un w (tr w v))), true) else (0, false)) := by
  have hu := un_in w (tr w v)
  have hvv : vv w (un w (tr w v)) = tr w v := vv_un w v hv0 hv1
  have h64 : wd w ≤ 64 := by cases w <;> decide
  have hr := rounds kind w (un w (tr w v)) hu.1 hu.2 m (by omega) m 0 k (by omega) (by omega)
  simp only [many] at hr
  rw [hvv] at hr
  unfold oublietteref10_Shift.f oublietteref10_bits.f
  rw [rtrim_eq]
  have hb : Go.bits .and .i64 n (wrap64 ((wd w : Int) - 1)) = m := by
    rw [← hm]
    unfold flags_Shift.by
    have e1 : wrap64 ((wd true : Int) - 1) = 63 := by decide +kernel
    have e2 : wrap64 ((wd false : Int) - 1) = 31 := by decide +kernel
    cases w with
    | true => rw [e1, if_pos rfl]
    | false => rw [e2, if_neg (by decide)]
  cases w with
  | true =>
    simp only [Option.bind_some, if_true]
    have e : (64 : Int) = (wd true : Int) := rfl
    rw [e, hb]
    exact hr
  | false =>
    simp only [Option.bind_some, Bool.false_eq_true, if_false]
    have e : (32 : Int) = (wd false : Int) := rfl
    rw [e, hb]
    exact hr
theorem FlagsShift : oubliettelaw10_FlagsShift.Pure := by
  intro kind w v n wk wv wn
  have hv := bounds_i64 wv
  refine ⟨400, ?_⟩
  obtain ⟨m, hm, hmw⟩ := by_in w n
  have hu := un_in w (tr w v)
  have hvv : vv w (un w (tr w v)) = tr w v := vv_un w v hv.1 hv.2
  have hr := rotl_step (wd w) m hmw (un w (tr w v)) (md w) (hf w) (md_pow w) (hf2 w) hu.1 hu.2
  have hrr := rotr_step (wd w) m hmw (un w (tr w v)) (md w) (hf w) (md_pow w) (hf2 w) hu.1 hu.2
  have hp : (0 : Int) < 2 ^ m := Int.pow_pos (by decide)
  have key : flags_Shift.f kind w v n = some (if kind = 0 ∨ kind = 1 ∨ kind = 4 ∨ kind = 5 ∨ kind = 7 then (vv w (many kind w m (un w (tr w v))), true) else (0, false)) := by
    unfold flags_Shift.f
    simp only [trim_eq, sign_eq, Option.bind_some]
    by_cases c0 : kind = 0
    · subst c0
      simp only [if_true, true_or]
      rw [turn_eq w v _ m (by rw [hm, Int.emod_eq_of_lt (by omega) (by omega)]), tr_vv w _ hr.2.1 hr.2.2, many_rol w _ hu.1 hu.2 m (by omega)]
    rw [if_neg c0]
    by_cases c1 : kind = 1
    · subst c1
      simp only [if_true, true_or, or_true]
      have hs0 := Int.emod_nonneg (-(m : Int)) (show (wd w : Int) ≠ 0 by omega)
      obtain ⟨s, hs⟩ := Int.eq_ofNat_of_zero_le hs0
      have hrs : rotl (wd w) (un w (tr w v)) s = rotr (wd w) (un w (tr w v)) m := by
        by_cases c : m = 0
        · subst c
          have : s = 0 := by simp at hs; omega
          subst this
          rw [rotl_zero _ _ hu.1 (by rw [← md_pow]; exact hu.2), rotr_zero]
        · have hs' : s = wd w - m := by
            have : (-(m : Int)) % (wd w : Int) = (wd w : Int) - m := by
              rw [Int.neg_emod, if_neg]
              · rw [Int.emod_eq_of_lt (by omega) (by omega)]; omega
              · intro h
                have := Int.le_of_dvd (by omega) h
                omega
            omega
          subst hs'
          exact rotl_back _ _ (by omega) _
      rw [turn_eq w v _ s (by rw [hm]; exact hs), hrs, tr_vv w _ hrr.2.1 hrr.2.2, many_ror w _ hu.1 hu.2 m (by omega)]
    rw [if_neg c1]
    by_cases c4 : kind = 4
    · subst c4
      simp only [if_true, true_or, or_true]
      rw [hm, Int.toNat_natCast, many_shl w _ hu.1 hu.2 m]
      congr 2
      have e : tr w v * 2 ^ m = (un w (tr w v) + md w * (tr w v / md w)) * 2 ^ m := by unfold un; rw [Int.emod_add_mul_ediv]
      have e2 : (tr w v * 2 ^ m) % md w = (un w (tr w v) * 2 ^ m) % md w := by rw [e, Int.add_mul, Int.mul_assoc, Int.add_mul_emod_self_left]
      rw [← e2]
      generalize tr w v * 2 ^ m = z
      cases w <;> simp only [tr, vv, md, Bool.false_eq_true, if_false, if_true] <;> unfold wrap64 <;> omega
    rw [if_neg c4]
    by_cases c5 : kind = 5
    · subst c5
      simp only [if_true, true_or, or_true]
      rw [hm, Int.toNat_natCast, many_shr w _ hu.1 hu.2 m]
      congr 2
      have hq0 : 0 ≤ un w (tr w v) / 2 ^ m := Int.ediv_nonneg hu.1 (by omega)
      have hq1 : un w (tr w v) / 2 ^ m ≤ un w (tr w v) := Int.ediv_le_self _ hu.1
      have e : IntKind.u64.wrap (tr w v) = un w (tr w v) := by rw [IntKind.wrap_u64]; cases w <;> simp only [un, md, tr, Bool.false_eq_true, if_false, if_true] <;> omega
      rw [e]
      generalize un w (tr w v) / 2 ^ m = z at *
      have := hu.2
      cases w <;> simp only [tr, vv, md, Bool.false_eq_true, if_false, if_true] at * <;> unfold wrap64 <;> omega
    rw [if_neg c5]
    by_cases c7 : kind = 7
    · subst c7
      simp only [if_true, or_true]
      rw [hm, Int.toNat_natCast]
      have hs : -(hf w) ≤ sg w (tr w v) ∧ sg w (tr w v) < hf w := by cases w <;> simp only [sg, tr, hf, Bool.false_eq_true, if_false, if_true] <;> omega
      have hus : un w (tr w v) = sg w (tr w v) % md w := by cases w <;> simp only [un, sg, tr, md, Bool.false_eq_true, if_false, if_true] <;> omega
      have hh := half_in (sg w (tr w v)) (hf w) m hs.1 hs.2 (by cases w <;> decide)
      rw [hus, many_sar w _ hs.1 hs.2 m]
      congr 2
      generalize sg w (tr w v) / 2 ^ m = z at *
      cases w <;> simp only [tr, vv, md, hf, Bool.false_eq_true, if_false, if_true] at * <;> unfold wrap64 <;> omega
    rw [if_neg c7, if_neg (by rintro (h | h | h | h | h) <;> contradiction)]
  unfold oubliettelaw10_FlagsShift.f
  rw [ex400, key, ref_eq kind w v n hv.1 hv.2 m hm hmw 400 (by omega)]
  simp
end Go.Proofs.Ytmmbhhapkgnlfaa.Pure

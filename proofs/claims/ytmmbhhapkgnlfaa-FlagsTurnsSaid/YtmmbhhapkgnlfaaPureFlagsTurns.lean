/- Turned to the left and back to the right a value is as it was; moved by the width's bits it stays: for any numbers and both widths. No condition of its own. This text is the plain law. -/
import Derived.Test.YtmmbhhapkgnlfaaMHx6
import Derived.Test.YtmmbhhapkgnlfaaShiftPlain
namespace Go.Proofs.Ytmmbhhapkgnlfaa.Pure
open Go.RowKit Go.Proofs.Ytmmbhhapkgnlfaa.MH Go.Proofs.YtmmbhhapkgnlfaaW.PrintWords Go.Proofs.YtmmbhhapkgnlfaaW.PrintLast Go.Ob Go.Ob.Flags Go.Ob.Rot Go.Proofs.Ytmmbhhapkgnlfaa.ShiftCore
set_option linter.unusedVariables false
set_option linter.unusedSimpArgs false
theorem back (w : Bool) (x : Int) (m : Nat) (hm : m < wd w) (h0 : 0 ≤ x) (h1 : x < md w) (s : Nat) (hs : (-(m : Int)) % (wd w : Int) = s) : rotl (wd w) (rotl (wd w) x m) s = x := by
  have hb := rotl_step (wd w) m hm x (md w) (hf w) (md_pow w) (hf2 w) h0 h1
  by_cases c : m = 0
  · subst c
    have : s = 0 := by simp at hs; omega
    subst this
    rw [rotl_zero _ _ hb.2.1 (by rw [← md_pow]; exact hb.2.2), rotl_zero _ _ h0 (by rw [← md_pow]; exact h1)]
  · have hs' : s = wd w - m := by
      have : (-(m : Int)) % (wd w : Int) = (wd w : Int) - m := by
        rw [Int.neg_emod, if_neg]
        · rw [Int.emod_eq_of_lt (by omega) (by omega)]; omega
        · intro h
          have := Int.le_of_dvd (by omega) h
          omega
      omega
    subst hs'
    rw [rotl_back _ _ (by omega), rotr_rotl _ _ (by omega) x h0 (by rw [← md_pow]; exact h1)]
theorem by_in (w : Bool) (n : Int) : ∃ m : Nat, flags_Shift.by w n = m ∧ m < wd w := by
  rw [by_eq]
  have : (0 : Int) < wd w := by cases w <;> decide
  exact ⟨(n % (wd w : Int)).toNat, by have := Int.emod_nonneg n (show (wd w : Int) ≠ 0 by omega); omega, by have := Int.emod_nonneg n (show (wd w : Int) ≠ 0 by omega); have := Int.emod_lt_of_pos n (show (0 : Int) < wd w by omega); omega⟩
theorem FlagsTurns : oubliettelaw10_FlagsTurns.Pure := by
  intro w v n wv wn
  have hv := bounds_i64 wv
  refine ⟨400, ?_⟩
  obtain ⟨m, hm, hmw⟩ := by_in w n
  have hu := un_in w (tr w v)
  have hvv : vv w (un w (tr w v)) = tr w v := vv_un w v hv.1 hv.2
  have hr := rotl_step (wd w) m hmw (un w (tr w v)) (md w) (hf w) (md_pow w) (hf2 w) hu.1 hu.2
  have htt : tr w (tr w v) = tr w v := by cases w <;> simp [tr]
  -- turned to the left
  have e1 : flags_Shift.f 0 w v n = some (vv w (rotl (wd w) (un w (tr w v)) m), true) := by
    unfold flags_Shift.f
    simp only [trim_eq, Option.bind_some, if_true]
    rw [turn_eq w v _ m (by rw [hm, Int.emod_eq_of_lt (by omega) (by omega)]), tr_vv w _ hr.2.1 hr.2.2]
  have e2 : flags_Shift.f 1 w (vv w (rotl (wd w) (un w (tr w v)) m)) n = some (tr w v, true) := by
    have hs0 := Int.emod_nonneg (-(m : Int)) (show (wd w : Int) ≠ 0 by omega)
    obtain ⟨s, hs⟩ := Int.eq_ofNat_of_zero_le hs0
    unfold flags_Shift.f
    simp only [trim_eq, Option.bind_some, show ¬ ((1 : Int) = 0) by decide, if_false, if_true]
    rw [turn_eq w _ _ s (by rw [hm]; exact hs), tr_vv w _ hr.2.1 hr.2.2, un_vv w _ hr.2.1 hr.2.2, back w _ m hmw hu.1 hu.2 s hs, hvv, htt]
  have e3 : flags_Shift.f 4 w v 64 = some (tr w v, true) := by
    have hb : flags_Shift.by w 64 = 0 := by rw [by_eq]; cases w <;> decide
    unfold flags_Shift.f
    simp only [trim_eq, Option.bind_some, show ¬ ((4 : Int) = 0) by decide, show ¬ ((4 : Int) = 1) by decide, if_false, if_true, hb]
    rw [show (0 : Int).toNat = 0 by decide, Int.pow_zero, Int.mul_one]
    congr 2
    cases w <;> simp only [tr, Bool.false_eq_true, if_false, if_true] <;> unfold wrap64 <;> omega
  have e4 : flags_Shift.f 7 w v (-64) = some (tr w v, true) := by
    have hb : flags_Shift.by w (-64) = 0 := by rw [by_eq]; cases w <;> decide
    unfold flags_Shift.f
    simp only [trim_eq, sign_eq, Option.bind_some, show ¬ ((7 : Int) = 0) by decide, show ¬ ((7 : Int) = 1) by decide, show ¬ ((7 : Int) = 4) by decide, show ¬ ((7 : Int) = 5) by decide, if_false, if_true, hb]
    rw [show (0 : Int).toNat = 0 by decide, Int.pow_zero, Int.ediv_one]
    congr 2
    cases w <;> simp only [tr, sg, Bool.false_eq_true, if_false, if_true] <;> omega
  unfold oubliettelaw10_FlagsTurns.f
  rw [ex400, trim_eq, e1]
  simp only [Option.bind_some]
  rw [e2, e3, e4]
  simp
end Go.Proofs.Ytmmbhhapkgnlfaa.Pure

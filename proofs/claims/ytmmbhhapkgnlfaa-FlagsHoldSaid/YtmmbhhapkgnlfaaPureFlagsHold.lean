/- Of any flags it is told whether any condition holds, as the chapter says: for any flags and any number of a condition. No condition of its own. This text is the plain law. -/
import Derived.Test.YtmmbhhapkgnlfaaMAx6
namespace Go.Proofs.Ytmmbhhapkgnlfaa.Pure
open Go.RowKit Go.Proofs.Ytmmbhhapkgnlfaa.MA Go.Proofs.YtmmbhhapkgnlfaaW.PrintWords Go.Proofs.YtmmbhhapkgnlfaaW.PrintLast
set_option linter.unusedVariables false
theorem holds_both (c : Int) (z s b o : Bool) : flags_Holds.f c z s b o = oublietteref10_Holds.f c z s b o := by
  unfold flags_Holds.f oublietteref10_Holds.f
  by_cases h2 : c = 2
  · subst h2; cases b <;> rfl
  by_cases h3 : c = 3
  · subst h3; cases b <;> rfl
  by_cases h4 : c = 4
  · subst h4; cases z <;> rfl
  by_cases h5 : c = 5
  · subst h5; cases z <;> rfl
  by_cases h6 : c = 6
  · subst h6; cases z <;> cases b <;> rfl
  by_cases h7 : c = 7
  · subst h7; cases z <;> cases b <;> rfl
  by_cases h12 : c = 12
  · subst h12; cases s <;> cases o <;> rfl
  by_cases h13 : c = 13
  · subst h13; cases s <;> cases o <;> rfl
  by_cases h14 : c = 14
  · subst h14; cases z <;> cases s <;> cases o <;> rfl
  by_cases h15 : c = 15
  · subst h15; cases z <;> cases s <;> cases o <;> rfl
  simp only [h2, h3, h4, h5, h6, h7, h12, h13, h14, h15, if_false]
theorem holds_some (c : Int) (z s b o : Bool) : ∃ r, oublietteref10_Holds.f c z s b o = some r := by
  cases h : oublietteref10_Holds.f c z s b o with
  | some r => exact ⟨r, rfl⟩
  | none =>
    unfold oublietteref10_Holds.f at h
    repeat' split at h
    all_goals cases h
theorem FlagsHold : oubliettelaw10_FlagsHold.Pure := by
  intro c z s b o wc
  refine ⟨30, ?_⟩
  have hex : oubliettelaw10_examples.f 30 = some true := by decide +kernel
  obtain ⟨r, hr⟩ := holds_some c z s b o
  unfold oubliettelaw10_FlagsHold.f
  rw [hex, holds_both, hr]
  simp
end Go.Proofs.Ytmmbhhapkgnlfaa.Pure

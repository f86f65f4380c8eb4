/- Any operation of any values tells the value and the flags that the chapter says, or is refused: for any numbers and both widths. No condition of its own. This text is the plain law. -/
import Derived.Test.YtmmbhhapkgnlfaaMR2x6
import Derived.Test.YtmmbhhapkgnlfaaFlagsAluMR2
namespace Go.Proofs.Ytmmbhhapkgnlfaa.Pure
open Go.RowKit Go.Proofs.Ytmmbhhapkgnlfaa.MR2 Go.Proofs.YtmmbhhapkgnlfaaW.PrintWords Go.Proofs.YtmmbhhapkgnlfaaW.PrintLast Go.Ob Go.Ob.Flags Go.Proofs.Ytmmbhhapkgnlfaa.FlagsCoreMR2
set_option linter.unusedVariables false
theorem rtrim_eq (w : Bool) (v : Int) : oublietteref10_Trim.f w v = some (tr w v) := by unfold oublietteref10_Trim.f tr; rw [and32]; split <;> rfl
theorem rtop_eq (w : Bool) (v : Int) : oublietteref10_top.f w (tr w v) = some (decide (sg w (tr w v) < 0)) := by
  unfold oublietteref10_top.f
  cases w with
  | true => rfl
  | false =>
    simp only [Bool.false_eq_true, if_false, and1]
    congr 1
    rw [Bool.eq_iff_iff]
    simp [tr, sg]
    omega
theorem sg_tr' (w : Bool) (v : Int) : sg w (tr w v) = sg w v := by cases w <;> simp [sg, tr] <;> omega
theorem carry_add (w : Bool) (a b : Int) (ha0 : -9223372036854775808 ≤ a) (ha1 : a ≤ 9223372036854775807) (hb0 : -9223372036854775808 ≤ b) (hb1 : b ≤ 9223372036854775807) :
    decide ((tr w (wrap64 (tr w a + tr w b))) % 18446744073709551616 < (tr w b) % 18446744073709551616) = decide ((tr w (wrap64 (tr w a + tr w b))) % 18446744073709551616 < (tr w a) % 18446744073709551616) := by
  rw [Bool.eq_iff_iff]
  cases w <;> simp [tr] <;> unfold wrap64 <;> omega
theorem tr_tr (w : Bool) (v : Int) : tr w (tr w v) = tr w v := by cases w <;> simp [tr]
theorem ovA_eq (w : Bool) (x y v : Int) : ovA w x y v = if (decide (sg w x < 0) == decide (sg w y < 0)) = true then (decide (sg w (tr w v) < 0) != decide (sg w x < 0)) else false := by
  unfold ovA
  rw [sg_tr']
  have h : ∀ z : Int, decide (z ≥ 0) = !decide (z < 0) := fun z => by rw [Bool.eq_iff_iff]; simp
  rw [h, h, h]
  cases decide (sg w x < 0) <;> cases decide (sg w y < 0) <;> cases decide (sg w v < 0) <;> rfl
theorem ovS_eq (w : Bool) (x y v : Int) : ovS w x y v = if (decide (sg w x < 0) != decide (sg w y < 0)) = true then (decide (sg w (tr w v) < 0) != decide (sg w x < 0)) else false := by
  unfold ovS
  rw [sg_tr']
  have h : ∀ z : Int, decide (z ≥ 0) = !decide (z < 0) := fun z => by rw [Bool.eq_iff_iff]; simp
  rw [h, h, h]
  cases decide (sg w x < 0) <;> cases decide (sg w y < 0) <;> cases decide (sg w v < 0) <;> rfl
theorem r_j1 (k : Nat) (kind : Int) (w : Bool) (a b v : Int) : oublietteref10_Alu.j1 (k + 3) kind w (tr w a) (tr w b) v =
    some (if kind = 7 then tr w a else tr w v, tr w v == 0, decide (sg w (tr w v) < 0),
      (if kind = 0 then decide ((tr w v) % 18446744073709551616 < (tr w a) % 18446744073709551616) else if kind = 5 ∨ kind = 7 then decide ((tr w b) % 18446744073709551616 > (tr w a) % 18446744073709551616) else false),
      (if kind = 0 then ovA w (tr w a) (tr w b) v else if kind = 5 ∨ kind = 7 then ovS w (tr w a) (tr w b) v else false), true) := by
  rw [ovA_eq, ovS_eq]
  simp only [oublietteref10_Alu.j1, rtrim_eq, rtop_eq, Option.bind_some, u64_is]
  by_cases h0 : kind = 0
  · subst h0
    simp only [if_true, show ¬ ((0 : Int) = 7) by decide, if_false, oublietteref10_Alu.j2, oublietteref10_Alu.j3]
    split <;> rfl
  · rw [if_neg h0, if_neg h0, if_neg h0]
    by_cases h5 : kind = 5
    · subst h5
      simp only [oublietteref10_Alu.j2, oublietteref10_Alu.j3, beq_self_eq_true, if_true, show ¬ ((5 : Int) = 7) by decide, if_false, true_or, u64_is]
      split <;> rfl
    · rw [if_neg h5]
      by_cases h7 : kind = 7
      · subst h7
        simp only [oublietteref10_Alu.j2, oublietteref10_Alu.j3, beq_self_eq_true, if_true, or_true, u64_is]
        split <;> rfl
      · have : (kind == 7) = false := beq_eq_false_iff_ne.mpr h7
        simp only [oublietteref10_Alu.j2, oublietteref10_Alu.j3, this, Bool.false_eq_true, if_false, h7, h5, or_false]
theorem both (kind : Int) (w : Bool) (a b : Int) (ha0 : -9223372036854775808 ≤ a) (ha1 : a ≤ 9223372036854775807) (hb0 : -9223372036854775808 ≤ b) (hb1 : b ≤ 9223372036854775807) (k : Nat) :
    oublietteref10_Alu.f (k + 4) kind w a b = flags_Alu.f (k + 4) kind w a b := by
  unfold oublietteref10_Alu.f
  simp only [rtrim_eq, Option.bind_some]
  by_cases h0 : kind = 0
  · subst h0
    rw [if_pos rfl, r_j1 (k + 1), alu_add (k + 3), carry_add w a b ha0 ha1 hb0 hb1]
    rfl
  rw [if_neg h0]
  by_cases h1 : kind = 1
  · subst h1
    rw [if_pos rfl, r_j1 (k + 1), alu_log (k + 2) 1 .or (.inl ⟨rfl, rfl⟩)]
    rfl
  rw [if_neg h1]
  by_cases h4 : kind = 4
  · subst h4
    rw [if_pos rfl, r_j1 (k + 1), alu_log (k + 2) 4 .and (.inr (.inl ⟨rfl, rfl⟩))]
    rfl
  rw [if_neg h4]
  by_cases h5 : kind = 5
  · subst h5
    rw [if_pos rfl]
    simp only [oublietteref10_Alu.j0, beq_self_eq_true, if_true]
    rw [r_j1 k, alu_sub_cmp (k + 2) 5 (.inl rfl)]
    rfl
  rw [if_neg h5]
  by_cases h7 : kind = 7
  · subst h7
    simp only [oublietteref10_Alu.j0, beq_self_eq_true, if_true]
    rw [r_j1 k, alu_sub_cmp (k + 2) 7 (.inr rfl)]
    rfl
  have e7 : (kind == 7) = false := beq_eq_false_iff_ne.mpr h7
  simp only [oublietteref10_Alu.j0, e7, Bool.false_eq_true, if_false]
  by_cases h6 : kind = 6
  · subst h6
    rw [if_pos rfl, r_j1 k, alu_log (k + 2) 6 .xor (.inr (.inr ⟨rfl, rfl⟩))]
    rfl
  · rw [if_neg h6, alu_no (k + 2) kind ⟨h0, h1, h4, h5, h6, h7⟩]
theorem alu_some (k : Nat) (kind : Int) (w : Bool) (a b : Int) : ∃ r, flags_Alu.f (k + 3) kind w a b = some r := by
  by_cases h0 : kind = 0
  · subst h0; exact ⟨_, alu_add (k + 2) w a b⟩
  by_cases h1 : kind = 1
  · subst h1; exact ⟨_, alu_log (k + 1) 1 .or (.inl ⟨rfl, rfl⟩) w a b⟩
  by_cases h4 : kind = 4
  · subst h4; exact ⟨_, alu_log (k + 1) 4 .and (.inr (.inl ⟨rfl, rfl⟩)) w a b⟩
  by_cases h5 : kind = 5
  · subst h5; exact ⟨_, alu_sub_cmp (k + 1) 5 (.inl rfl) w a b⟩
  by_cases h7 : kind = 7
  · subst h7; exact ⟨_, alu_sub_cmp (k + 1) 7 (.inr rfl) w a b⟩
  by_cases h6 : kind = 6
  · subst h6; exact ⟨_, alu_log (k + 1) 6 .xor (.inr (.inr ⟨rfl, rfl⟩)) w a b⟩
  exact ⟨_, alu_no (k + 1) kind ⟨h0, h1, h4, h5, h6, h7⟩ w a b⟩
theorem FlagsReckon : oubliettelaw10_FlagsReckon.Pure := by
  intro kind w a b wk wa wb
  have ha := bounds_i64 wa
  have hb := bounds_i64 wb
  refine ⟨30, ?_⟩
  obtain ⟨r, hr⟩ := alu_some 27 kind w a b
  unfold oubliettelaw10_FlagsReckon.f
  rw [ex30, both kind w a b ha.1 ha.2 hb.1 hb.2 26, hr]
  simp only [Option.bind_some, trim_eq, rtrim_eq, if_true, beq_self_eq_true, Bool.and_self]
end Go.Proofs.Ytmmbhhapkgnlfaa.Pure

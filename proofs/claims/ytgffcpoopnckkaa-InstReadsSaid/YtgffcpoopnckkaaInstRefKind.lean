/- The reference's kinds of instructions: what it answers. -/
import Derived.Test.YtgffcpoopnckkaaInstCore
import Derived.Test.YtgffcpoopnckkaaMIx9
namespace Go.Proofs.Ytgffcpoopnckkaa.CoreInst
open Go.RowKit Go.Proofs.Ytgffcpoopnckkaa.MI Go.Proofs.YtgffcpoopnckkaaW.PrintWords Go.Proofs.YtgffcpoopnckkaaW.PrintLast Go.Proofs.YtgffcpoopnckkaaW.PrintMore Go.Ob Go.Ob.Leb Go.Ob.Inst
set_option linter.unusedVariables false
set_option linter.unusedSimpArgs false

theorem r_ar (x : Int) (k : Nat) (hk : 10 ≤ k) : ∃ a b c, oublietteref02_Arity.f k x = some (a, b, c, ar x) := by
  obtain ⟨k, rfl⟩ : ∃ m, k = m + 5 := ⟨k - 5, by omega⟩
  by_cases g0 : x = 69
  · subst g0; exact ⟨_, _, _, rfl⟩
  by_cases g1 : x = 80
  · subst g1; exact ⟨_, _, _, rfl⟩
  by_cases g2 : x = 167
  · subst g2; exact ⟨_, _, _, rfl⟩
  by_cases g3 : x = 172
  · subst g3; exact ⟨_, _, _, rfl⟩
  by_cases g4 : x = 173
  · subst g4; exact ⟨_, _, _, rfl⟩
  simp only [oublietteref02_Arity.f, oublietteref02_Arity.j0, oublietteref02_Arity.j1, oublietteref02_Arity.j2, oublietteref02_Arity.j3, g0, g1, g2, g3, g4, if_false, Bool.false_eq_true, decide_eq_true_eq]
  have e : ar x = decide ((70 ≤ x ∧ x ≤ 79) ∨ (81 ≤ x ∧ x ≤ 90) ∨ (106 ≤ x ∧ x ≤ 120) ∨ (124 ≤ x ∧ x ≤ 138)) := by
    unfold ar
    rw [Bool.eq_iff_iff]
    simp only [Bool.or_eq_true, decide_eq_true_eq]
    omega
  rw [e]
  repeat' split
  all_goals first
    | exact ⟨_, _, _, by rw [decide_eq_true (by omega)]⟩
    | exact ⟨_, _, _, by rw [decide_eq_false (by omega)]⟩

set_option maxHeartbeats 4000000 in
theorem rKind_eq (x : Int) (k : Nat) (hk : 20 ≤ k) : oublietteref04_Kind.f k x = some (kd x) := by
  obtain ⟨k, rfl⟩ : ∃ m, k = m + 5 := ⟨k - 5, by omega⟩
  by_cases h0 : x = 0
  · subst h0; rfl
  by_cases h1 : x = 1
  · subst h1; rfl
  by_cases h2 : x = 5
  · subst h2; rfl
  by_cases h3 : x = 11
  · subst h3; rfl
  by_cases h4 : x = 15
  · subst h4; rfl
  by_cases h5 : x = 26
  · subst h5; rfl
  by_cases h6 : x = 27
  · subst h6; rfl
  by_cases h7 : x = 240
  · subst h7; rfl
  by_cases h8 : x = 241
  · subst h8; rfl
  by_cases h9 : x = 2
  · subst h9; rfl
  by_cases h10 : x = 3
  · subst h10; rfl
  by_cases h11 : x = 4
  · subst h11; rfl
  by_cases h12 : x = 12
  · subst h12; rfl
  by_cases h13 : x = 13
  · subst h13; rfl
  by_cases h14 : x = 16
  · subst h14; rfl
  by_cases h15 : x = 32
  · subst h15; rfl
  by_cases h16 : x = 33
  · subst h16; rfl
  by_cases h17 : x = 34
  · subst h17; rfl
  by_cases h18 : x = 35
  · subst h18; rfl
  by_cases h19 : x = 36
  · subst h19; rfl
  by_cases h20 : x = 40
  · subst h20; rfl
  by_cases h21 : x = 41
  · subst h21; rfl
  by_cases h22 : x = 54
  · subst h22; rfl
  by_cases h23 : x = 55
  · subst h23; rfl
  by_cases h24 : x = 65
  · subst h24; rfl
  by_cases h25 : x = 66
  · subst h25; rfl
  have e : ∀ y : Int, x ≠ y → (x == y) = false := fun y h => by simp [h]
  have hw : ∀ k', 10 ≤ k' → ∃ a b c, oublietteref02_Arity.f k' x = some (a, b, c, ar x) := fun k' => r_ar x k'
  obtain ⟨a, b, c, hw⟩ := hw (k + 1) (by omega)
  simp only [oublietteref04_Kind.f, oublietteref04_Kind.j0, oublietteref04_Kind.j1, oublietteref04_Kind.j2, oublietteref04_Kind.j3, if_neg h0, if_neg h1, if_neg h2, if_neg h3, if_neg h4, if_neg h5, if_neg h6, if_neg h7, if_neg h8, if_neg h9, if_neg h10, if_neg h11, if_neg h12, if_neg h13, if_neg h14, if_neg h15, if_neg h16, if_neg h17, if_neg h18, if_neg h19, if_neg h20, if_neg h21, if_neg h22, if_neg h23, if_neg h24, if_neg h25, e 241 h8, e 4 h11, e 36 h19, e 55 h23, Bool.false_eq_true, if_false, hw, Option.bind_some]
  have hkd : kd x = if ar x = true then 1 else 0 := by
    unfold kd
    rw [if_neg (by omega), if_neg (by omega), if_neg (by omega), if_neg (by omega), if_neg (by omega), if_neg (by omega)]
  rw [hkd]
  split <;> rfl

end Go.Proofs.Ytgffcpoopnckkaa.CoreInst

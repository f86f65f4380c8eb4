/- What flows to what flows to something flows to that; nothing secret flows to anything public; what flows there and back is the same: for any three numbers. No condition. -/
import Derived.Test.YtiacmfgkbgfhkaaPLabelFlowsx1
import Derived.Test.YtiacmfgkbgfhkaaBits
namespace Go.Proofs.Ytiacmfgkbgfhkaa.Pure
open Go.RowKit Go.Proofs.Ytiacmfgkbgfhkaa.PLabelFlows Go.Proofs.YtiacmfgkbgfhkaaW.PrintWords Go.Proofs.YtiacmfgkbgfhkaaW.PrintLast

theorem right_eq (a : Int) (h : (Lit.int .i64 a).wf = true) : label_Right.f a = some (decide (0 ≤ a ∧ a ≤ 3)) := by
  have hb := bounds_i64 h
  unfold label_Right.f
  rw [show (3 : Int) = 2 ^ 2 - 1 by decide, Go.Ob.andNot_mask a hb.1 hb.2 2 (by decide)]
  congr 1
  rw [Bool.eq_iff_iff]
  simp
  omega
theorem right_cases (a : Int) (h : (Lit.int .i64 a).wf = true) : (a = 0 ∨ a = 1 ∨ a = 2 ∨ a = 3) ∨ label_Right.f a = some false ∧ ¬ (0 ≤ a ∧ a ≤ 3) := by
  rw [right_eq a h]
  by_cases c : 0 ≤ a ∧ a ≤ 3
  · left; omega
  · right; exact ⟨by simp only [c, decide_false], c⟩
theorem ex_true : oubliettelaw03_examples.f = some true := by decide +kernel
def fl (a b : Int) : Bool := decide (0 ≤ a ∧ a ≤ 3 ∧ 0 ≤ b ∧ b ≤ 3 ∧ a % 2 = b % 2 ∧ (2 ≤ b ∨ a < 2))
theorem fl_no {a b : Int} (h : ¬ (0 ≤ a ∧ a ≤ 3) ∨ ¬ (0 ≤ b ∧ b ≤ 3)) : fl a b = false := decide_eq_false (by omega)
theorem flows_eq (a b : Int) (ha : (Lit.int .i64 a).wf = true) (hb : (Lit.int .i64 b).wf = true) : label_Flows.f a b = some (fl a b) := by
  rcases right_cases a ha with h | ⟨ra, na⟩
  · rcases right_cases b hb with h' | ⟨rb, nb⟩
    · rcases h with rfl | rfl | rfl | rfl <;> rcases h' with rfl | rfl | rfl | rfl <;> decide +kernel
    · rw [fl_no (.inr nb)]; unfold label_Flows.f; rw [rb, right_eq a ha]; cases decide (0 ≤ a ∧ a ≤ 3) <;> rfl
  · rw [fl_no (.inl na)]; unfold label_Flows.f; rw [ra]; rfl
theorem secret_eq (a : Int) (ha : (Lit.int .i64 a).wf = true) : label_Secret.f a = some (decide (a = 2 ∨ a = 3)) := by
  rcases right_cases a ha with (rfl | rfl | rfl | rfl) | ⟨ra, na⟩
  all_goals try decide +kernel
  unfold label_Secret.f; rw [ra]; simp; omega

theorem LabelFlows : oubliettelaw03_LabelFlows.Pure := by
  intro a b c ha hb hc
  refine ⟨3, ?_⟩
  unfold oubliettelaw03_LabelFlows.f
  simp only [oubliettelaw03_LabelFlows.j0, oubliettelaw03_LabelFlows.j1, flows_eq _ _ ha hb, flows_eq _ _ hb ha, flows_eq _ _ hb hc, flows_eq _ _ ha hc, flows_eq _ _ ha ha, secret_eq _ ha, secret_eq _ hb, right_eq _ ha, ex_true, Option.bind_some, if_true]
  have i1 : fl a b = true → fl b c = true → fl a c = true := by unfold fl; simp only [decide_eq_true_eq]; omega
  have i2 : fl a b = true → decide (a = 2 ∨ a = 3) = true → decide (b = 2 ∨ b = 3) = true := by unfold fl; simp only [decide_eq_true_eq]; omega
  have i3 : fl a b = true → fl b a = true → a = b := by unfold fl; simp only [decide_eq_true_eq]; omega
  have i4 : fl a a = decide (0 ≤ a ∧ a ≤ 3) := by unfold fl; exact decide_eq_decide.mpr (by constructor <;> intro h <;> omega)
  rw [i4]
  generalize fl a b = p at *
  generalize fl b c = q at *
  generalize fl a c = r at *
  generalize fl b a = f at *
  generalize decide (a = 2 ∨ a = 3) = s at *
  generalize decide (b = 2 ∨ b = 3) = t at *
  clear i4 ha hb hc
  cases p <;> cases q <;> cases r <;> cases f <;> cases s <;> cases t <;> simp_all
end Go.Proofs.Ytiacmfgkbgfhkaa.Pure

/- The Join is a type to which both flow, and which flows to each to which both flow: for any three numbers. No condition. -/
import Derived.Test.YtiacmfgkbgfhkaaPLabelJoinsx1
import Derived.Test.YtiacmfgkbgfhkaaBits
namespace Go.Proofs.Ytiacmfgkbgfhkaa.Pure
open Go.RowKit Go.Proofs.Ytiacmfgkbgfhkaa.PLabelJoins Go.Proofs.YtiacmfgkbgfhkaaW.PrintWords Go.Proofs.YtiacmfgkbgfhkaaW.PrintLast

theorem right_eq (a : Int) (h : (Lit.int .i64 a).wf = true) : label_Right.f a = some (decide (0 ≤ a ∧ a ≤ 3)) := by
  have hb := bounds_i64 h
  unfold label_Right.f
  rw [show (3 : Int) = 2 ^ 2 - 1 by decide, Go.Ob.andNot_mask a hb.1 hb.2 2 (by decide)]
  congr 1
  rw [Bool.eq_iff_iff]
  simp
  omega
theorem right_cases (a : Int) (h : (Lit.int .i64 a).wf = true) : (a = 0 ∨ a = 1 ∨ a = 2 ∨ a = 3) ∨ label_Right.f a = some false ∧ ¬ (0 ≤ a ∧ a ≤ 3) := by
  rw [right_eq a h]
  by_cases c : 0 ≤ a ∧ a ≤ 3
  · left; omega
  · right; exact ⟨by simp only [c, decide_false], c⟩
theorem ex_true : oubliettelaw03_examples.f = some true := by decide +kernel
def fl (a b : Int) : Bool := decide (0 ≤ a ∧ a ≤ 3 ∧ 0 ≤ b ∧ b ≤ 3 ∧ a % 2 = b % 2 ∧ (2 ≤ b ∨ a < 2))
theorem fl_no {a b : Int} (h : ¬ (0 ≤ a ∧ a ≤ 3) ∨ ¬ (0 ≤ b ∧ b ≤ 3)) : fl a b = false := decide_eq_false (by omega)
theorem flows_eq (a b : Int) (ha : (Lit.int .i64 a).wf = true) (hb : (Lit.int .i64 b).wf = true) : label_Flows.f a b = some (fl a b) := by
  rcases right_cases a ha with h | ⟨ra, na⟩
  · rcases right_cases b hb with h' | ⟨rb, nb⟩
    · rcases h with rfl | rfl | rfl | rfl <;> rcases h' with rfl | rfl | rfl | rfl <;> decide +kernel
    · rw [fl_no (.inr nb)]; unfold label_Flows.f; rw [rb, right_eq a ha]; cases decide (0 ≤ a ∧ a ≤ 3) <;> rfl
  · rw [fl_no (.inl na)]; unfold label_Flows.f; rw [ra]; rfl
theorem secret_eq (a : Int) (ha : (Lit.int .i64 a).wf = true) : label_Secret.f a = some (decide (a = 2 ∨ a = 3)) := by
  rcases right_cases a ha with (rfl | rfl | rfl | rfl) | ⟨ra, na⟩
  all_goals try decide +kernel
  unfold label_Secret.f; rw [ra]; simp; omega

def jo (a b : Int) : Int × Bool := if 0 ≤ a ∧ a ≤ 3 ∧ 0 ≤ b ∧ b ≤ 3 ∧ a % 2 = b % 2 then (a % 2 + (if 2 ≤ a ∨ 2 ≤ b then 2 else 0), true) else (0, false)
theorem jo_no {a b : Int} (h : ¬ (0 ≤ a ∧ a ≤ 3) ∨ ¬ (0 ≤ b ∧ b ≤ 3)) : jo a b = (0, false) := if_neg (by omega)
theorem join_eq (a b : Int) (ha : (Lit.int .i64 a).wf = true) (hb : (Lit.int .i64 b).wf = true) : label_Join.f a b = some (jo a b) := by
  rcases right_cases a ha with h | ⟨ra, na⟩
  · rcases right_cases b hb with h' | ⟨rb, nb⟩
    · rcases h with rfl | rfl | rfl | rfl <;> rcases h' with rfl | rfl | rfl | rfl <;> decide +kernel
    · rw [jo_no (.inr nb)]; unfold label_Join.f; rw [rb, right_eq a ha]; cases decide (0 ≤ a ∧ a ≤ 3) <;> rfl
  · rw [jo_no (.inl na)]; unfold label_Join.f; rw [ra]; rfl

theorem LabelJoins : oubliettelaw03_LabelJoins.Pure := by
  intro a b c ha hb hc
  refine ⟨3, ?_⟩
  unfold oubliettelaw03_LabelJoins.f
  simp only [flows_eq _ _ ha hc, flows_eq _ _ hb hc, join_eq _ _ ha hb, ex_true, Option.bind_some, if_true]
  by_cases h : 0 ≤ a ∧ a ≤ 3 ∧ 0 ≤ b ∧ b ≤ 3 ∧ a % 2 = b % 2
  · have hj : jo a b = (a % 2 + (if 2 ≤ a ∨ 2 ≤ b then 2 else 0), true) := if_pos h
    have hw : (Lit.int .i64 (jo a b).1).wf = true := by rw [hj]; exact Go.WalkArith.wf_i64 (by split <;> constructor <;> omega)
    have i1 : fl a c = true → fl b c = true → fl (jo a b).1 c = true := by rw [hj]; unfold fl; simp only [decide_eq_true_eq]; split <;> omega
    have e : oubliettelaw03_LabelJoins.j0 3 a b true (jo a b).1 false = some true := by
      obtain ⟨h0, h1, h2, h3, h4⟩ := h
      obtain rfl | rfl | rfl | rfl : a = 0 ∨ a = 1 ∨ a = 2 ∨ a = 3 := by omega
      all_goals
        obtain rfl | rfl | rfl | rfl : b = 0 ∨ b = 1 ∨ b = 2 ∨ b = 3 := by omega
        all_goals first | decide +kernel | (exfalso; omega)
    have h2 : (jo a b).2 = true := by rw [hj]
    rw [flows_eq _ _ hw hc, h2, if_pos rfl]
    generalize fl a c = p at *
    generalize fl b c = q at *
    generalize fl (jo a b).1 c = r at *
    cases p <;> cases q <;> cases r <;> simp_all
  · have hj : jo a b = (0, false) := if_neg h
    have i1 : ¬ (fl a c = true ∧ fl b c = true) := by unfold fl; simp only [decide_eq_true_eq]; omega
    rw [hj]
    generalize fl a c = p at *
    generalize fl b c = q at *
    cases p <;> cases q <;> simp_all
end Go.Proofs.Ytiacmfgkbgfhkaa.Pure

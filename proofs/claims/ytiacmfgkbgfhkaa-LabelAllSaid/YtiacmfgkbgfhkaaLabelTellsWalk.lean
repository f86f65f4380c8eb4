/- Of any types it is told what they are, whether one flows to another one, and what both flow to, as the chapter says: for any two numbers. No condition. This text is the walk of the law's own Go function. -/
import Derived.Test.YtiacmfgkbgfhkaaPLabelTellsx1
import Derived.Test.YtiacmfgkbgfhkaaBits
namespace Go.Proofs.Ytiacmfgkbgfhkaa.TellsWalk
open Go.RowKit Go.Proofs.Ytiacmfgkbgfhkaa.PLabelTells Go.Proofs.YtiacmfgkbgfhkaaW.PrintWords Go.Proofs.YtiacmfgkbgfhkaaW.PrintLast Go.Proofs.YtiacmfgkbgfhkaaW.PrintMore
set_option linter.unusedVariables false
set_option linter.unusedSimpArgs false

theorem right_eq (a : Int) (h : (Lit.int .i64 a).wf = true) : label_Right.f a = some (decide (0 ≤ a ∧ a ≤ 3)) := by
  have hb := bounds_i64 h
  unfold label_Right.f
  rw [show (3 : Int) = 2 ^ 2 - 1 by decide, Go.Ob.andNot_mask a hb.1 hb.2 2 (by decide)]
  congr 1
  rw [Bool.eq_iff_iff]
  simp
  omega
theorem right_cases (a : Int) (h : (Lit.int .i64 a).wf = true) : (a = 0 ∨ a = 1 ∨ a = 2 ∨ a = 3) ∨ label_Right.f a = some false ∧ ¬ (0 ≤ a ∧ a ≤ 3) := by
  rw [right_eq a h]
  by_cases c : 0 ≤ a ∧ a ≤ 3
  · left; omega
  · right; exact ⟨by simp only [c, decide_false], c⟩
theorem ex_true : oubliettelaw03_examples.f = some true := by decide +kernel
def fl (a b : Int) : Bool := decide (0 ≤ a ∧ a ≤ 3 ∧ 0 ≤ b ∧ b ≤ 3 ∧ a % 2 = b % 2 ∧ (2 ≤ b ∨ a < 2))
theorem fl_no {a b : Int} (h : ¬ (0 ≤ a ∧ a ≤ 3) ∨ ¬ (0 ≤ b ∧ b ≤ 3)) : fl a b = false := decide_eq_false (by omega)
theorem flows_eq (a b : Int) (ha : (Lit.int .i64 a).wf = true) (hb : (Lit.int .i64 b).wf = true) : label_Flows.f a b = some (fl a b) := by
  rcases right_cases a ha with h | ⟨ra, na⟩
  · rcases right_cases b hb with h' | ⟨rb, nb⟩
    · rcases h with rfl | rfl | rfl | rfl <;> rcases h' with rfl | rfl | rfl | rfl <;> decide +kernel
    · rw [fl_no (.inr nb)]; unfold label_Flows.f; rw [rb, right_eq a ha]; cases decide (0 ≤ a ∧ a ≤ 3) <;> rfl
  · rw [fl_no (.inl na)]; unfold label_Flows.f; rw [ra]; rfl
theorem secret_eq (a : Int) (ha : (Lit.int .i64 a).wf = true) : label_Secret.f a = some (decide (a = 2 ∨ a = 3)) := by
  rcases right_cases a ha with (rfl | rfl | rfl | rfl) | ⟨ra, na⟩
  all_goals try decide +kernel
  unfold label_Secret.f; rw [ra]; simp; omega

def jo (a b : Int) : Int × Bool := if 0 ≤ a ∧ a ≤ 3 ∧ 0 ≤ b ∧ b ≤ 3 ∧ a % 2 = b % 2 then (a % 2 + (if 2 ≤ a ∨ 2 ≤ b then 2 else 0), true) else (0, false)
theorem jo_no {a b : Int} (h : ¬ (0 ≤ a ∧ a ≤ 3) ∨ ¬ (0 ≤ b ∧ b ≤ 3)) : jo a b = (0, false) := if_neg (by omega)
theorem join_eq (a b : Int) (ha : (Lit.int .i64 a).wf = true) (hb : (Lit.int .i64 b).wf = true) : label_Join.f a b = some (jo a b) := by
  rcases right_cases a ha with h | ⟨ra, na⟩
  · rcases right_cases b hb with h' | ⟨rb, nb⟩
    · rcases h with rfl | rfl | rfl | rfl <;> rcases h' with rfl | rfl | rfl | rfl <;> decide +kernel
    · rw [jo_no (.inr nb)]; unfold label_Join.f; rw [rb, right_eq a ha]; cases decide (0 ≤ a ∧ a ≤ 3) <;> rfl
  · rw [jo_no (.inl na)]; unfold label_Join.f; rw [ra]; rfl


set_option maxHeartbeats 4000000 in
set_option maxRecDepth 100000 in
theorem core (a0 a1 j v : Int) (ok r t s f u : Bool) (hex : Aside0 (oubliettelaw03_examples.f = some true)) (hj : Aside0 (label_Join.f a0 a1 = some (j, ok))) (hrj : Aside0 (oublietteref03_Join.f 3 a0 a1 = some (j, ok)))
    (hr : Aside0 (label_Right.f a0 = some r)) (hrr : Aside0 (oublietteref03_Right.f a0 = some r)) (hw : Aside0 (label_Wide.f a0 = some t)) (hrw : Aside0 (oublietteref03_Wide.f a0 = some t))
    (hs : Aside0 (label_Secret.f a0 = some s)) (hrs : Aside0 (oublietteref03_Secret.f a0 = some s)) (hf : Aside0 (label_Flows.f a0 a1 = some f)) (hrf : Aside0 (oublietteref03_Flows.f a0 a1 = some f))
    (hu : Aside0 (label_Secret.f a1 = some u)) (hru : Aside0 (oublietteref03_Secret.f a1 = some u)) (ho : Aside0 (label_Of.f t u = some v)) (hro : Aside0 (oublietteref03_Of.f t u = some v)) (w : World) :
    Calls Try.prog 4 #[.int .i64 a0, .int .i64 a1] w fun e w' => e = .returned (.bool true) ∧ Drawn0 w w' := by
  go_enter Try.func4, Try.ntmps4
  go_wp2_with (first | ((with_reducible refine gate_callee (f := 14) rfl ?_); refine goesL_ (some 10) rfl rfl Try.func14 (by kernel_rfl) rfl #[] rfl (by (try simp only [List.map_toArray, List.map_cons, List.map_nil]); first | done | rfl | (simp only [List.length_drop, List.length_take]; rfl)) ?_; (with_reducible refine (oubliettelaw03_examples.calls true _ hex.out).mono ?_); rintro e w' ⟨rfl, ⟨nd, rfl⟩⟩; refine ⟨_, rfl, ?_⟩) | ((with_reducible refine gate_callee (f := 18) rfl ?_); refine goesL_ (some 14) rfl rfl Try.func18 (by kernel_rfl) rfl #[.int .i64 a0, .int .i64 a1] rfl (by (try simp only [List.map_toArray, List.map_cons, List.map_nil]); first | done | rfl | (simp only [List.length_drop, List.length_take]; rfl)) ?_; (with_reducible refine (label_Join.calls a0 a1 j ok _ hj.out).mono ?_); rintro e w' ⟨rfl, ⟨nd, rfl⟩⟩; refine ⟨_, rfl, ?_⟩) | ((with_reducible refine gate_callee (f := 19) rfl ?_); refine goesL_ (some 20) rfl rfl Try.func19 (by kernel_rfl) rfl #[.int .i64 a0, .int .i64 a1] rfl (by (try simp only [List.map_toArray, List.map_cons, List.map_nil]); first | done | rfl | (simp only [List.length_drop, List.length_take]; rfl)) ?_; (with_reducible refine (oublietteref03_Join.calls 3 a0 a1 j ok _ hrj.out).mono ?_); rintro e w' ⟨rfl, ⟨nd, rfl⟩⟩; refine ⟨_, rfl, ?_⟩) | (go_at_call 17; (with_reducible refine (label_Right.calls a0 r _ hr.out).mono ?_); rintro e w' ⟨rfl, ⟨nd, rfl⟩⟩) | (go_at_call 20; (with_reducible refine (oublietteref03_Right.calls a0 r _ hrr.out).mono ?_); rintro e w' ⟨rfl, ⟨nd, rfl⟩⟩) | (go_at_call 21; (with_reducible refine (label_Wide.calls a0 t _ hw.out).mono ?_); rintro e w' ⟨rfl, ⟨nd, rfl⟩⟩) | (go_at_call 22; (with_reducible refine (oublietteref03_Wide.calls a0 t _ hrw.out).mono ?_); rintro e w' ⟨rfl, ⟨nd, rfl⟩⟩) | (go_at_call 16; (with_reducible refine (label_Secret.calls a0 s _ hs.out).mono ?_); rintro e w' ⟨rfl, ⟨nd, rfl⟩⟩) | (go_at_call 23; (with_reducible refine (oublietteref03_Secret.calls a0 s _ hrs.out).mono ?_); rintro e w' ⟨rfl, ⟨nd, rfl⟩⟩) | (go_at_call 15; (with_reducible refine (label_Flows.calls a0 a1 f _ hf.out).mono ?_); rintro e w' ⟨rfl, ⟨nd, rfl⟩⟩) | (go_at_call 24; (with_reducible refine (oublietteref03_Flows.calls a0 a1 f _ hrf.out).mono ?_); rintro e w' ⟨rfl, ⟨nd, rfl⟩⟩) | (go_at_call 16; (with_reducible refine (label_Secret.calls a1 u _ hu.out).mono ?_); rintro e w' ⟨rfl, ⟨nd, rfl⟩⟩) | (go_at_call 23; (with_reducible refine (oublietteref03_Secret.calls a1 u _ hru.out).mono ?_); rintro e w' ⟨rfl, ⟨nd, rfl⟩⟩) | (go_at_call 25; (with_reducible refine (label_Of.calls t u v _ ho.out).mono ?_); rintro e w' ⟨rfl, ⟨nd, rfl⟩⟩) | (go_at_call 26; (with_reducible refine (oublietteref03_Of.calls t u v _ hro.out).mono ?_); rintro e w' ⟨rfl, ⟨nd, rfl⟩⟩))
  go_ret
  exact ⟨by simp, by repeat (first | exact Drawn0.refl _ | apply Drawn0.step)⟩

theorem wide_eq (a : Int) (ha : (Lit.int .i64 a).wf = true) : label_Wide.f a = some (decide (a = 1 ∨ a = 3)) := by
  rcases right_cases a ha with (rfl | rfl | rfl | rfl) | ⟨ra, na⟩
  all_goals try decide +kernel
  unfold label_Wide.f; rw [ra]; simp; omega
theorem rright (a : Int) : oublietteref03_Right.f a = some (decide (0 ≤ a ∧ a ≤ 3)) := by
  unfold oublietteref03_Right.f; split <;> simp <;> omega
theorem rwide (a : Int) : oublietteref03_Wide.f a = some (decide (a = 1 ∨ a = 3)) := by
  unfold oublietteref03_Wide.f
  by_cases h : a = 1
  · subst h; rfl
  · by_cases h3 : a = 3
    · subst h3; rfl
    · rw [if_neg h]; simp [h, h3]
theorem rsecret (a : Int) : oublietteref03_Secret.f a = some (decide (a = 2 ∨ a = 3)) := by
  unfold oublietteref03_Secret.f
  by_cases h : a = 2
  · subst h; rfl
  · by_cases h3 : a = 3
    · subst h3; rfl
    · rw [if_neg h]; simp [h, h3]
theorem rflows (a b : Int) : oublietteref03_Flows.f a b = some (fl a b) := by
  by_cases h : 0 ≤ a ∧ a ≤ 3
  · by_cases h' : 0 ≤ b ∧ b ≤ 3
    · obtain rfl | rfl | rfl | rfl : a = 0 ∨ a = 1 ∨ a = 2 ∨ a = 3 := by omega
      all_goals
        obtain rfl | rfl | rfl | rfl : b = 0 ∨ b = 1 ∨ b = 2 ∨ b = 3 := by omega
        all_goals decide +kernel
    · rw [fl_no (.inr h')]; unfold oublietteref03_Flows.f; rw [rright, rright, decide_eq_true h, decide_eq_false h']; rfl
  · rw [fl_no (.inl h)]; unfold oublietteref03_Flows.f; rw [rright, decide_eq_false h]; rfl
theorem rjoin (a b : Int) : oublietteref03_Join.f 3 a b = some (jo a b) := by
  by_cases h : 0 ≤ a ∧ a ≤ 3
  · by_cases h' : 0 ≤ b ∧ b ≤ 3
    · obtain rfl | rfl | rfl | rfl : a = 0 ∨ a = 1 ∨ a = 2 ∨ a = 3 := by omega
      all_goals
        obtain rfl | rfl | rfl | rfl : b = 0 ∨ b = 1 ∨ b = 2 ∨ b = 3 := by omega
        all_goals decide +kernel
    · rw [jo_no (.inr h')]; unfold oublietteref03_Join.f; rw [rright, rright, decide_eq_true h, decide_eq_false h']; rfl
  · rw [jo_no (.inl h)]; unfold oublietteref03_Join.f; rw [rright, decide_eq_false h]; rfl
theorem rof (t u : Bool) : ∃ v, label_Of.f t u = some v ∧ oublietteref03_Of.f t u = some v := by
  cases t <;> cases u
  · exact ⟨0, by decide +kernel, by decide +kernel⟩
  · exact ⟨2, by decide +kernel, by decide +kernel⟩
  · exact ⟨1, by decide +kernel, by decide +kernel⟩
  · exact ⟨3, by decide +kernel, by decide +kernel⟩
theorem walk (a0 a1 : Int) (w : World) (w0 : (Lit.int .i64 a0).wf = true) (w1 : (Lit.int .i64 a1).wf = true) :
    Calls Try.prog 4 #[.int .i64 a0, .int .i64 a1] w fun e w' => e = .returned (.bool true) ∧ Below w.heap.size w w' := by
  obtain ⟨v, h1, h2⟩ := rof (decide (a0 = 1 ∨ a0 = 3)) (decide (a1 = 2 ∨ a1 = 3))
  exact (core a0 a1 (jo a0 a1).1 v (jo a0 a1).2 _ _ _ _ _ ⟨ex_true⟩ ⟨join_eq a0 a1 w0 w1⟩ ⟨rjoin a0 a1⟩ ⟨right_eq a0 w0⟩ ⟨rright a0⟩ ⟨wide_eq a0 w0⟩ ⟨rwide a0⟩ ⟨secret_eq a0 w0⟩ ⟨rsecret a0⟩ ⟨flows_eq a0 a1 w0 w1⟩ ⟨rflows a0 a1⟩
    ⟨secret_eq a1 w1⟩ ⟨rsecret a1⟩ ⟨h1⟩ ⟨h2⟩ w).mono fun e w' ⟨he, hd⟩ => ⟨he, hd.below⟩
end Go.Proofs.Ytiacmfgkbgfhkaa.TellsWalk

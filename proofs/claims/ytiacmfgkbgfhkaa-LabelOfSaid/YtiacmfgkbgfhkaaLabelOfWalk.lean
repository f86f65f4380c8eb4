/- Of two answers there is one type of four, and it tells these two again; what is no type is neither wide nor secret: for any two answers and any number. No condition. This text is the walk of the law's own Go function. -/
import Derived.Test.YtiacmfgkbgfhkaaPLabelJoinsx1
import Derived.Test.YtiacmfgkbgfhkaaBits
namespace Go.Proofs.Ytiacmfgkbgfhkaa.OfWalk
open Go.RowKit Go.Proofs.Ytiacmfgkbgfhkaa.PLabelJoins Go.Proofs.YtiacmfgkbgfhkaaW.PrintWords Go.Proofs.YtiacmfgkbgfhkaaW.PrintLast Go.Proofs.YtiacmfgkbgfhkaaW.PrintMore
set_option linter.unusedVariables false
set_option linter.unusedSimpArgs false

theorem right_eq (a : Int) (h : (Lit.int .i64 a).wf = true) : label_Right.f a = some (decide (0 ≤ a ∧ a ≤ 3)) := by
  have hb := bounds_i64 h
  unfold label_Right.f
  rw [show (3 : Int) = 2 ^ 2 - 1 by decide, Go.Ob.andNot_mask a hb.1 hb.2 2 (by decide)]
  congr 1
  rw [Bool.eq_iff_iff]
  simp
  omega
theorem right_cases (a : Int) (h : (Lit.int .i64 a).wf = true) : (a = 0 ∨ a = 1 ∨ a = 2 ∨ a = 3) ∨ label_Right.f a = some false ∧ ¬ (0 ≤ a ∧ a ≤ 3) := by
  rw [right_eq a h]
  by_cases c : 0 ≤ a ∧ a ≤ 3
  · left; omega
  · right; exact ⟨by simp only [c, decide_false], c⟩
theorem ex_true : oubliettelaw03_examples.f = some true := by decide +kernel
def fl (a b : Int) : Bool := decide (0 ≤ a ∧ a ≤ 3 ∧ 0 ≤ b ∧ b ≤ 3 ∧ a % 2 = b % 2 ∧ (2 ≤ b ∨ a < 2))
theorem fl_no {a b : Int} (h : ¬ (0 ≤ a ∧ a ≤ 3) ∨ ¬ (0 ≤ b ∧ b ≤ 3)) : fl a b = false := decide_eq_false (by omega)
theorem flows_eq (a b : Int) (ha : (Lit.int .i64 a).wf = true) (hb : (Lit.int .i64 b).wf = true) : label_Flows.f a b = some (fl a b) := by
  rcases right_cases a ha with h | ⟨ra, na⟩
  · rcases right_cases b hb with h' | ⟨rb, nb⟩
    · rcases h with rfl | rfl | rfl | rfl <;> rcases h' with rfl | rfl | rfl | rfl <;> decide +kernel
    · rw [fl_no (.inr nb)]; unfold label_Flows.f; rw [rb, right_eq a ha]; cases decide (0 ≤ a ∧ a ≤ 3) <;> rfl
  · rw [fl_no (.inl na)]; unfold label_Flows.f; rw [ra]; rfl
theorem secret_eq (a : Int) (ha : (Lit.int .i64 a).wf = true) : label_Secret.f a = some (decide (a = 2 ∨ a = 3)) := by
  rcases right_cases a ha with (rfl | rfl | rfl | rfl) | ⟨ra, na⟩
  all_goals try decide +kernel
  unfold label_Secret.f; rw [ra]; simp; omega

set_option maxHeartbeats 4000000 in
set_option maxRecDepth 100000 in
theorem no0 (a2 : Int) (hn : Aside0 (label_Right.f a2 = some false)) (hnw : Aside0 (label_Wide.f a2 = some false)) (hns : Aside0 (label_Secret.f a2 = some false)) (w : World) : Calls Try.prog 6 #[.bool false, .bool false, .int .i64 a2] w fun e w' => e = .returned (.bool true) ∧ Drawn0 w w' := by
  have hof : label_Of.f false false = some 0 := by decide +kernel
  have hr : label_Right.f 0 = some true := by decide +kernel
  have hw : label_Wide.f 0 = some false := by decide +kernel
  have hs : label_Secret.f 0 = some false := by decide +kernel
  replace hof := Aside0.mk hof
  replace hr := Aside0.mk hr
  replace hw := Aside0.mk hw
  replace hs := Aside0.mk hs
  go_enter Try.func6, Try.ntmps6
  go_wp2_with (first | ((with_reducible refine gate_callee (f := 14) rfl ?_); refine goesL_ (some 9) rfl rfl Try.func14 (by kernel_rfl) rfl #[] rfl (by (try simp only [List.map_toArray, List.map_cons, List.map_nil]); first | done | rfl | (simp only [List.length_drop, List.length_take]; rfl)) ?_; (with_reducible refine (oubliettelaw03_examples.calls true _ ex_true).mono ?_); rintro e w' ⟨rfl, ⟨nd, rfl⟩⟩; refine ⟨_, rfl, ?_⟩) | ((with_reducible refine gate_callee (f := 25) rfl ?_); refine goesL_ (some 12) rfl rfl Try.func25 (by kernel_rfl) rfl #[.bool false, .bool false] rfl (by (try simp only [List.map_toArray, List.map_cons, List.map_nil]); first | done | rfl | (simp only [List.length_drop, List.length_take]; rfl)) ?_; (with_reducible refine (label_Of.calls false false 0 _ hof.out).mono ?_); rintro e w' ⟨rfl, ⟨nd, rfl⟩⟩; refine ⟨_, rfl, ?_⟩) | (go_at_call 17; (with_reducible refine (label_Right.calls 0 true _ hr.out).mono ?_); rintro e w' ⟨rfl, ⟨nd, rfl⟩⟩) | (go_at_call 21; (with_reducible refine (label_Wide.calls 0 false _ hw.out).mono ?_); rintro e w' ⟨rfl, ⟨nd, rfl⟩⟩) | (go_at_call 16; (with_reducible refine (label_Secret.calls 0 false _ hs.out).mono ?_); rintro e w' ⟨rfl, ⟨nd, rfl⟩⟩) | (go_at_call 17; (with_reducible refine (label_Right.calls a2 false _ hn.out).mono ?_); rintro e w' ⟨rfl, ⟨nd, rfl⟩⟩) | (go_at_call 21; (with_reducible refine (label_Wide.calls a2 false _ hnw.out).mono ?_); rintro e w' ⟨rfl, ⟨nd, rfl⟩⟩) | (go_at_call 16; (with_reducible refine (label_Secret.calls a2 false _ hns.out).mono ?_); rintro e w' ⟨rfl, ⟨nd, rfl⟩⟩))
  go_ret
  exact ⟨rfl, by repeat (first | exact Drawn0.refl _ | apply Drawn0.step)⟩
set_option maxHeartbeats 4000000 in
set_option maxRecDepth 100000 in
theorem yes0 (a2 : Int) (t s : Bool) (hn : Aside0 (label_Right.f a2 = some true)) (hnw : Aside0 (label_Wide.f a2 = some t)) (hns : Aside0 (label_Secret.f a2 = some s)) (hno : Aside0 (label_Of.f t s = some a2)) (w : World) : Calls Try.prog 6 #[.bool false, .bool false, .int .i64 a2] w fun e w' => e = .returned (.bool true) ∧ Drawn0 w w' := by
  have hof : label_Of.f false false = some 0 := by decide +kernel
  have hr : label_Right.f 0 = some true := by decide +kernel
  have hw : label_Wide.f 0 = some false := by decide +kernel
  have hs : label_Secret.f 0 = some false := by decide +kernel
  replace hof := Aside0.mk hof
  replace hr := Aside0.mk hr
  replace hw := Aside0.mk hw
  replace hs := Aside0.mk hs
  go_enter Try.func6, Try.ntmps6
  go_wp2_with (first | ((with_reducible refine gate_callee (f := 14) rfl ?_); refine goesL_ (some 9) rfl rfl Try.func14 (by kernel_rfl) rfl #[] rfl (by (try simp only [List.map_toArray, List.map_cons, List.map_nil]); first | done | rfl | (simp only [List.length_drop, List.length_take]; rfl)) ?_; (with_reducible refine (oubliettelaw03_examples.calls true _ ex_true).mono ?_); rintro e w' ⟨rfl, ⟨nd, rfl⟩⟩; refine ⟨_, rfl, ?_⟩) | ((with_reducible refine gate_callee (f := 25) rfl ?_); refine goesL_ (some 12) rfl rfl Try.func25 (by kernel_rfl) rfl #[.bool false, .bool false] rfl (by (try simp only [List.map_toArray, List.map_cons, List.map_nil]); first | done | rfl | (simp only [List.length_drop, List.length_take]; rfl)) ?_; (with_reducible refine (label_Of.calls false false 0 _ hof.out).mono ?_); rintro e w' ⟨rfl, ⟨nd, rfl⟩⟩; refine ⟨_, rfl, ?_⟩) | (go_at_call 17; (with_reducible refine (label_Right.calls 0 true _ hr.out).mono ?_); rintro e w' ⟨rfl, ⟨nd, rfl⟩⟩) | (go_at_call 21; (with_reducible refine (label_Wide.calls 0 false _ hw.out).mono ?_); rintro e w' ⟨rfl, ⟨nd, rfl⟩⟩) | (go_at_call 16; (with_reducible refine (label_Secret.calls 0 false _ hs.out).mono ?_); rintro e w' ⟨rfl, ⟨nd, rfl⟩⟩) | (go_at_call 17; (with_reducible refine (label_Right.calls a2 true _ hn.out).mono ?_); rintro e w' ⟨rfl, ⟨nd, rfl⟩⟩) | (go_at_call 21; (with_reducible refine (label_Wide.calls a2 t _ hnw.out).mono ?_); rintro e w' ⟨rfl, ⟨nd, rfl⟩⟩) | (go_at_call 16; (with_reducible refine (label_Secret.calls a2 s _ hns.out).mono ?_); rintro e w' ⟨rfl, ⟨nd, rfl⟩⟩) | (go_at_call 25; (with_reducible refine (label_Of.calls t s a2 _ hno.out).mono ?_); rintro e w' ⟨rfl, ⟨nd, rfl⟩⟩))
  go_ret
  exact ⟨rfl, by repeat (first | exact Drawn0.refl _ | apply Drawn0.step)⟩
set_option maxHeartbeats 4000000 in
set_option maxRecDepth 100000 in
theorem no2 (a2 : Int) (hn : Aside0 (label_Right.f a2 = some false)) (hnw : Aside0 (label_Wide.f a2 = some false)) (hns : Aside0 (label_Secret.f a2 = some false)) (w : World) : Calls Try.prog 6 #[.bool false, .bool true, .int .i64 a2] w fun e w' => e = .returned (.bool true) ∧ Drawn0 w w' := by
  have hof : label_Of.f false true = some 2 := by decide +kernel
  have hr : label_Right.f 2 = some true := by decide +kernel
  have hw : label_Wide.f 2 = some false := by decide +kernel
  have hs : label_Secret.f 2 = some true := by decide +kernel
  replace hof := Aside0.mk hof
  replace hr := Aside0.mk hr
  replace hw := Aside0.mk hw
  replace hs := Aside0.mk hs
  go_enter Try.func6, Try.ntmps6
  go_wp2_with (first | ((with_reducible refine gate_callee (f := 14) rfl ?_); refine goesL_ (some 9) rfl rfl Try.func14 (by kernel_rfl) rfl #[] rfl (by (try simp only [List.map_toArray, List.map_cons, List.map_nil]); first | done | rfl | (simp only [List.length_drop, List.length_take]; rfl)) ?_; (with_reducible refine (oubliettelaw03_examples.calls true _ ex_true).mono ?_); rintro e w' ⟨rfl, ⟨nd, rfl⟩⟩; refine ⟨_, rfl, ?_⟩) | ((with_reducible refine gate_callee (f := 25) rfl ?_); refine goesL_ (some 12) rfl rfl Try.func25 (by kernel_rfl) rfl #[.bool false, .bool true] rfl (by (try simp only [List.map_toArray, List.map_cons, List.map_nil]); first | done | rfl | (simp only [List.length_drop, List.length_take]; rfl)) ?_; (with_reducible refine (label_Of.calls false true 2 _ hof.out).mono ?_); rintro e w' ⟨rfl, ⟨nd, rfl⟩⟩; refine ⟨_, rfl, ?_⟩) | (go_at_call 17; (with_reducible refine (label_Right.calls 2 true _ hr.out).mono ?_); rintro e w' ⟨rfl, ⟨nd, rfl⟩⟩) | (go_at_call 21; (with_reducible refine (label_Wide.calls 2 false _ hw.out).mono ?_); rintro e w' ⟨rfl, ⟨nd, rfl⟩⟩) | (go_at_call 16; (with_reducible refine (label_Secret.calls 2 true _ hs.out).mono ?_); rintro e w' ⟨rfl, ⟨nd, rfl⟩⟩) | (go_at_call 17; (with_reducible refine (label_Right.calls a2 false _ hn.out).mono ?_); rintro e w' ⟨rfl, ⟨nd, rfl⟩⟩) | (go_at_call 21; (with_reducible refine (label_Wide.calls a2 false _ hnw.out).mono ?_); rintro e w' ⟨rfl, ⟨nd, rfl⟩⟩) | (go_at_call 16; (with_reducible refine (label_Secret.calls a2 false _ hns.out).mono ?_); rintro e w' ⟨rfl, ⟨nd, rfl⟩⟩))
  go_ret
  exact ⟨rfl, by repeat (first | exact Drawn0.refl _ | apply Drawn0.step)⟩
set_option maxHeartbeats 4000000 in
set_option maxRecDepth 100000 in
theorem yes2 (a2 : Int) (t s : Bool) (hn : Aside0 (label_Right.f a2 = some true)) (hnw : Aside0 (label_Wide.f a2 = some t)) (hns : Aside0 (label_Secret.f a2 = some s)) (hno : Aside0 (label_Of.f t s = some a2)) (w : World) : Calls Try.prog 6 #[.bool false, .bool true, .int .i64 a2] w fun e w' => e = .returned (.bool true) ∧ Drawn0 w w' := by
  have hof : label_Of.f false true = some 2 := by decide +kernel
  have hr : label_Right.f 2 = some true := by decide +kernel
  have hw : label_Wide.f 2 = some false := by decide +kernel
  have hs : label_Secret.f 2 = some true := by decide +kernel
  replace hof := Aside0.mk hof
  replace hr := Aside0.mk hr
  replace hw := Aside0.mk hw
  replace hs := Aside0.mk hs
  go_enter Try.func6, Try.ntmps6
  go_wp2_with (first | ((with_reducible refine gate_callee (f := 14) rfl ?_); refine goesL_ (some 9) rfl rfl Try.func14 (by kernel_rfl) rfl #[] rfl (by (try simp only [List.map_toArray, List.map_cons, List.map_nil]); first | done | rfl | (simp only [List.length_drop, List.length_take]; rfl)) ?_; (with_reducible refine (oubliettelaw03_examples.calls true _ ex_true).mono ?_); rintro e w' ⟨rfl, ⟨nd, rfl⟩⟩; refine ⟨_, rfl, ?_⟩) | ((with_reducible refine gate_callee (f := 25) rfl ?_); refine goesL_ (some 12) rfl rfl Try.func25 (by kernel_rfl) rfl #[.bool false, .bool true] rfl (by (try simp only [List.map_toArray, List.map_cons, List.map_nil]); first | done | rfl | (simp only [List.length_drop, List.length_take]; rfl)) ?_; (with_reducible refine (label_Of.calls false true 2 _ hof.out).mono ?_); rintro e w' ⟨rfl, ⟨nd, rfl⟩⟩; refine ⟨_, rfl, ?_⟩) | (go_at_call 17; (with_reducible refine (label_Right.calls 2 true _ hr.out).mono ?_); rintro e w' ⟨rfl, ⟨nd, rfl⟩⟩) | (go_at_call 21; (with_reducible refine (label_Wide.calls 2 false _ hw.out).mono ?_); rintro e w' ⟨rfl, ⟨nd, rfl⟩⟩) | (go_at_call 16; (with_reducible refine (label_Secret.calls 2 true _ hs.out).mono ?_); rintro e w' ⟨rfl, ⟨nd, rfl⟩⟩) | (go_at_call 17; (with_reducible refine (label_Right.calls a2 true _ hn.out).mono ?_); rintro e w' ⟨rfl, ⟨nd, rfl⟩⟩) | (go_at_call 21; (with_reducible refine (label_Wide.calls a2 t _ hnw.out).mono ?_); rintro e w' ⟨rfl, ⟨nd, rfl⟩⟩) | (go_at_call 16; (with_reducible refine (label_Secret.calls a2 s _ hns.out).mono ?_); rintro e w' ⟨rfl, ⟨nd, rfl⟩⟩) | (go_at_call 25; (with_reducible refine (label_Of.calls t s a2 _ hno.out).mono ?_); rintro e w' ⟨rfl, ⟨nd, rfl⟩⟩))
  go_ret
  exact ⟨rfl, by repeat (first | exact Drawn0.refl _ | apply Drawn0.step)⟩
set_option maxHeartbeats 4000000 in
set_option maxRecDepth 100000 in
theorem no1 (a2 : Int) (hn : Aside0 (label_Right.f a2 = some false)) (hnw : Aside0 (label_Wide.f a2 = some false)) (hns : Aside0 (label_Secret.f a2 = some false)) (w : World) : Calls Try.prog 6 #[.bool true, .bool false, .int .i64 a2] w fun e w' => e = .returned (.bool true) ∧ Drawn0 w w' := by
  have hof : label_Of.f true false = some 1 := by decide +kernel
  have hr : label_Right.f 1 = some true := by decide +kernel
  have hw : label_Wide.f 1 = some true := by decide +kernel
  have hs : label_Secret.f 1 = some false := by decide +kernel
  replace hof := Aside0.mk hof
  replace hr := Aside0.mk hr
  replace hw := Aside0.mk hw
  replace hs := Aside0.mk hs
  go_enter Try.func6, Try.ntmps6
  go_wp2_with (first | ((with_reducible refine gate_callee (f := 14) rfl ?_); refine goesL_ (some 9) rfl rfl Try.func14 (by kernel_rfl) rfl #[] rfl (by (try simp only [List.map_toArray, List.map_cons, List.map_nil]); first | done | rfl | (simp only [List.length_drop, List.length_take]; rfl)) ?_; (with_reducible refine (oubliettelaw03_examples.calls true _ ex_true).mono ?_); rintro e w' ⟨rfl, ⟨nd, rfl⟩⟩; refine ⟨_, rfl, ?_⟩) | ((with_reducible refine gate_callee (f := 25) rfl ?_); refine goesL_ (some 12) rfl rfl Try.func25 (by kernel_rfl) rfl #[.bool true, .bool false] rfl (by (try simp only [List.map_toArray, List.map_cons, List.map_nil]); first | done | rfl | (simp only [List.length_drop, List.length_take]; rfl)) ?_; (with_reducible refine (label_Of.calls true false 1 _ hof.out).mono ?_); rintro e w' ⟨rfl, ⟨nd, rfl⟩⟩; refine ⟨_, rfl, ?_⟩) | (go_at_call 17; (with_reducible refine (label_Right.calls 1 true _ hr.out).mono ?_); rintro e w' ⟨rfl, ⟨nd, rfl⟩⟩) | (go_at_call 21; (with_reducible refine (label_Wide.calls 1 true _ hw.out).mono ?_); rintro e w' ⟨rfl, ⟨nd, rfl⟩⟩) | (go_at_call 16; (with_reducible refine (label_Secret.calls 1 false _ hs.out).mono ?_); rintro e w' ⟨rfl, ⟨nd, rfl⟩⟩) | (go_at_call 17; (with_reducible refine (label_Right.calls a2 false _ hn.out).mono ?_); rintro e w' ⟨rfl, ⟨nd, rfl⟩⟩) | (go_at_call 21; (with_reducible refine (label_Wide.calls a2 false _ hnw.out).mono ?_); rintro e w' ⟨rfl, ⟨nd, rfl⟩⟩) | (go_at_call 16; (with_reducible refine (label_Secret.calls a2 false _ hns.out).mono ?_); rintro e w' ⟨rfl, ⟨nd, rfl⟩⟩))
  go_ret
  exact ⟨rfl, by repeat (first | exact Drawn0.refl _ | apply Drawn0.step)⟩
set_option maxHeartbeats 4000000 in
set_option maxRecDepth 100000 in
theorem yes1 (a2 : Int) (t s : Bool) (hn : Aside0 (label_Right.f a2 = some true)) (hnw : Aside0 (label_Wide.f a2 = some t)) (hns : Aside0 (label_Secret.f a2 = some s)) (hno : Aside0 (label_Of.f t s = some a2)) (w : World) : Calls Try.prog 6 #[.bool true, .bool false, .int .i64 a2] w fun e w' => e = .returned (.bool true) ∧ Drawn0 w w' := by
  have hof : label_Of.f true false = some 1 := by decide +kernel
  have hr : label_Right.f 1 = some true := by decide +kernel
  have hw : label_Wide.f 1 = some true := by decide +kernel
  have hs : label_Secret.f 1 = some false := by decide +kernel
  replace hof := Aside0.mk hof
  replace hr := Aside0.mk hr
  replace hw := Aside0.mk hw
  replace hs := Aside0.mk hs
  go_enter Try.func6, Try.ntmps6
  go_wp2_with (first | ((with_reducible refine gate_callee (f := 14) rfl ?_); refine goesL_ (some 9) rfl rfl Try.func14 (by kernel_rfl) rfl #[] rfl (by (try simp only [List.map_toArray, List.map_cons, List.map_nil]); first | done | rfl | (simp only [List.length_drop, List.length_take]; rfl)) ?_; (with_reducible refine (oubliettelaw03_examples.calls true _ ex_true).mono ?_); rintro e w' ⟨rfl, ⟨nd, rfl⟩⟩; refine ⟨_, rfl, ?_⟩) | ((with_reducible refine gate_callee (f := 25) rfl ?_); refine goesL_ (some 12) rfl rfl Try.func25 (by kernel_rfl) rfl #[.bool true, .bool false] rfl (by (try simp only [List.map_toArray, List.map_cons, List.map_nil]); first | done | rfl | (simp only [List.length_drop, List.length_take]; rfl)) ?_; (with_reducible refine (label_Of.calls true false 1 _ hof.out).mono ?_); rintro e w' ⟨rfl, ⟨nd, rfl⟩⟩; refine ⟨_, rfl, ?_⟩) | (go_at_call 17; (with_reducible refine (label_Right.calls 1 true _ hr.out).mono ?_); rintro e w' ⟨rfl, ⟨nd, rfl⟩⟩) | (go_at_call 21; (with_reducible refine (label_Wide.calls 1 true _ hw.out).mono ?_); rintro e w' ⟨rfl, ⟨nd, rfl⟩⟩) | (go_at_call 16; (with_reducible refine (label_Secret.calls 1 false _ hs.out).mono ?_); rintro e w' ⟨rfl, ⟨nd, rfl⟩⟩) | (go_at_call 17; (with_reducible refine (label_Right.calls a2 true _ hn.out).mono ?_); rintro e w' ⟨rfl, ⟨nd, rfl⟩⟩) | (go_at_call 21; (with_reducible refine (label_Wide.calls a2 t _ hnw.out).mono ?_); rintro e w' ⟨rfl, ⟨nd, rfl⟩⟩) | (go_at_call 16; (with_reducible refine (label_Secret.calls a2 s _ hns.out).mono ?_); rintro e w' ⟨rfl, ⟨nd, rfl⟩⟩) | (go_at_call 25; (with_reducible refine (label_Of.calls t s a2 _ hno.out).mono ?_); rintro e w' ⟨rfl, ⟨nd, rfl⟩⟩))
  go_ret
  exact ⟨rfl, by repeat (first | exact Drawn0.refl _ | apply Drawn0.step)⟩
set_option maxHeartbeats 4000000 in
set_option maxRecDepth 100000 in
theorem no3 (a2 : Int) (hn : Aside0 (label_Right.f a2 = some false)) (hnw : Aside0 (label_Wide.f a2 = some false)) (hns : Aside0 (label_Secret.f a2 = some false)) (w : World) : Calls Try.prog 6 #[.bool true, .bool true, .int .i64 a2] w fun e w' => e = .returned (.bool true) ∧ Drawn0 w w' := by
  have hof : label_Of.f true true = some 3 := by decide +kernel
  have hr : label_Right.f 3 = some true := by decide +kernel
  have hw : label_Wide.f 3 = some true := by decide +kernel
  have hs : label_Secret.f 3 = some true := by decide +kernel
  replace hof := Aside0.mk hof
  replace hr := Aside0.mk hr
  replace hw := Aside0.mk hw
  replace hs := Aside0.mk hs
  go_enter Try.func6, Try.ntmps6
  go_wp2_with (first | ((with_reducible refine gate_callee (f := 14) rfl ?_); refine goesL_ (some 9) rfl rfl Try.func14 (by kernel_rfl) rfl #[] rfl (by (try simp only [List.map_toArray, List.map_cons, List.map_nil]); first | done | rfl | (simp only [List.length_drop, List.length_take]; rfl)) ?_; (with_reducible refine (oubliettelaw03_examples.calls true _ ex_true).mono ?_); rintro e w' ⟨rfl, ⟨nd, rfl⟩⟩; refine ⟨_, rfl, ?_⟩) | ((with_reducible refine gate_callee (f := 25) rfl ?_); refine goesL_ (some 12) rfl rfl Try.func25 (by kernel_rfl) rfl #[.bool true, .bool true] rfl (by (try simp only [List.map_toArray, List.map_cons, List.map_nil]); first | done | rfl | (simp only [List.length_drop, List.length_take]; rfl)) ?_; (with_reducible refine (label_Of.calls true true 3 _ hof.out).mono ?_); rintro e w' ⟨rfl, ⟨nd, rfl⟩⟩; refine ⟨_, rfl, ?_⟩) | (go_at_call 17; (with_reducible refine (label_Right.calls 3 true _ hr.out).mono ?_); rintro e w' ⟨rfl, ⟨nd, rfl⟩⟩) | (go_at_call 21; (with_reducible refine (label_Wide.calls 3 true _ hw.out).mono ?_); rintro e w' ⟨rfl, ⟨nd, rfl⟩⟩) | (go_at_call 16; (with_reducible refine (label_Secret.calls 3 true _ hs.out).mono ?_); rintro e w' ⟨rfl, ⟨nd, rfl⟩⟩) | (go_at_call 17; (with_reducible refine (label_Right.calls a2 false _ hn.out).mono ?_); rintro e w' ⟨rfl, ⟨nd, rfl⟩⟩) | (go_at_call 21; (with_reducible refine (label_Wide.calls a2 false _ hnw.out).mono ?_); rintro e w' ⟨rfl, ⟨nd, rfl⟩⟩) | (go_at_call 16; (with_reducible refine (label_Secret.calls a2 false _ hns.out).mono ?_); rintro e w' ⟨rfl, ⟨nd, rfl⟩⟩))
  go_ret
  exact ⟨rfl, by repeat (first | exact Drawn0.refl _ | apply Drawn0.step)⟩
set_option maxHeartbeats 4000000 in
set_option maxRecDepth 100000 in
theorem yes3 (a2 : Int) (t s : Bool) (hn : Aside0 (label_Right.f a2 = some true)) (hnw : Aside0 (label_Wide.f a2 = some t)) (hns : Aside0 (label_Secret.f a2 = some s)) (hno : Aside0 (label_Of.f t s = some a2)) (w : World) : Calls Try.prog 6 #[.bool true, .bool true, .int .i64 a2] w fun e w' => e = .returned (.bool true) ∧ Drawn0 w w' := by
  have hof : label_Of.f true true = some 3 := by decide +kernel
  have hr : label_Right.f 3 = some true := by decide +kernel
  have hw : label_Wide.f 3 = some true := by decide +kernel
  have hs : label_Secret.f 3 = some true := by decide +kernel
  replace hof := Aside0.mk hof
  replace hr := Aside0.mk hr
  replace hw := Aside0.mk hw
  replace hs := Aside0.mk hs
  go_enter Try.func6, Try.ntmps6
  go_wp2_with (first | ((with_reducible refine gate_callee (f := 14) rfl ?_); refine goesL_ (some 9) rfl rfl Try.func14 (by kernel_rfl) rfl #[] rfl (by (try simp only [List.map_toArray, List.map_cons, List.map_nil]); first | done | rfl | (simp only [List.length_drop, List.length_take]; rfl)) ?_; (with_reducible refine (oubliettelaw03_examples.calls true _ ex_true).mono ?_); rintro e w' ⟨rfl, ⟨nd, rfl⟩⟩; refine ⟨_, rfl, ?_⟩) | ((with_reducible refine gate_callee (f := 25) rfl ?_); refine goesL_ (some 12) rfl rfl Try.func25 (by kernel_rfl) rfl #[.bool true, .bool true] rfl (by (try simp only [List.map_toArray, List.map_cons, List.map_nil]); first | done | rfl | (simp only [List.length_drop, List.length_take]; rfl)) ?_; (with_reducible refine (label_Of.calls true true 3 _ hof.out).mono ?_); rintro e w' ⟨rfl, ⟨nd, rfl⟩⟩; refine ⟨_, rfl, ?_⟩) | (go_at_call 17; (with_reducible refine (label_Right.calls 3 true _ hr.out).mono ?_); rintro e w' ⟨rfl, ⟨nd, rfl⟩⟩) | (go_at_call 21; (with_reducible refine (label_Wide.calls 3 true _ hw.out).mono ?_); rintro e w' ⟨rfl, ⟨nd, rfl⟩⟩) | (go_at_call 16; (with_reducible refine (label_Secret.calls 3 true _ hs.out).mono ?_); rintro e w' ⟨rfl, ⟨nd, rfl⟩⟩) | (go_at_call 17; (with_reducible refine (label_Right.calls a2 true _ hn.out).mono ?_); rintro e w' ⟨rfl, ⟨nd, rfl⟩⟩) | (go_at_call 21; (with_reducible refine (label_Wide.calls a2 t _ hnw.out).mono ?_); rintro e w' ⟨rfl, ⟨nd, rfl⟩⟩) | (go_at_call 16; (with_reducible refine (label_Secret.calls a2 s _ hns.out).mono ?_); rintro e w' ⟨rfl, ⟨nd, rfl⟩⟩) | (go_at_call 25; (with_reducible refine (label_Of.calls t s a2 _ hno.out).mono ?_); rintro e w' ⟨rfl, ⟨nd, rfl⟩⟩))
  go_ret
  exact ⟨rfl, by repeat (first | exact Drawn0.refl _ | apply Drawn0.step)⟩

theorem walk (a0 a1 : Bool) (a2 : Int) (w : World) (w2 : (Lit.int .i64 a2).wf = true) :
    Calls Try.prog 6 #[.bool a0, .bool a1, .int .i64 a2] w fun e w' => e = .returned (.bool true) ∧ Below w.heap.size w w' := by
  have h : Calls Try.prog 6 #[.bool a0, .bool a1, .int .i64 a2] w fun e w' => e = .returned (.bool true) ∧ Drawn0 w w' := by
    rcases right_cases a2 w2 with h | ⟨rn, na⟩
    · obtain ⟨hr, t, s, hw, hs, ho⟩ : label_Right.f a2 = some true ∧ ∃ t s, label_Wide.f a2 = some t ∧ label_Secret.f a2 = some s ∧ label_Of.f t s = some a2 := by
        rcases h with rfl | rfl | rfl | rfl
        · exact ⟨by decide +kernel, false, false, by decide +kernel, by decide +kernel, by decide +kernel⟩
        · exact ⟨by decide +kernel, true, false, by decide +kernel, by decide +kernel, by decide +kernel⟩
        · exact ⟨by decide +kernel, false, true, by decide +kernel, by decide +kernel, by decide +kernel⟩
        · exact ⟨by decide +kernel, true, true, by decide +kernel, by decide +kernel, by decide +kernel⟩
      cases a0 <;> cases a1
      · exact yes0 a2 t s ⟨hr⟩ ⟨hw⟩ ⟨hs⟩ ⟨ho⟩ w
      · exact yes2 a2 t s ⟨hr⟩ ⟨hw⟩ ⟨hs⟩ ⟨ho⟩ w
      · exact yes1 a2 t s ⟨hr⟩ ⟨hw⟩ ⟨hs⟩ ⟨ho⟩ w
      · exact yes3 a2 t s ⟨hr⟩ ⟨hw⟩ ⟨hs⟩ ⟨ho⟩ w
    · have hw : label_Wide.f a2 = some false := by unfold label_Wide.f; rw [rn]; rfl
      have hs : label_Secret.f a2 = some false := by unfold label_Secret.f; rw [rn]; rfl
      cases a0 <;> cases a1
      · exact no0 a2 ⟨rn⟩ ⟨hw⟩ ⟨hs⟩ w
      · exact no2 a2 ⟨rn⟩ ⟨hw⟩ ⟨hs⟩ w
      · exact no1 a2 ⟨rn⟩ ⟨hw⟩ ⟨hs⟩ w
      · exact no3 a2 ⟨rn⟩ ⟨hw⟩ ⟨hs⟩ w
  exact h.mono fun e w' ⟨he, hd⟩ => ⟨he, hd.below⟩
end Go.Proofs.Ytiacmfgkbgfhkaa.OfWalk

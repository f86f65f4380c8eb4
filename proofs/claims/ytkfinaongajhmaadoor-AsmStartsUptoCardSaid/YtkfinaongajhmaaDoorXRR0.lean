/- The reference's Right of chapter 11: what it computes, kinds 1, 2, 3, 4, 5, 6, 7, 8. No condition but the numbers' bounds. -/
import Derived.Test.YtkfinaongajhmaaDoorXRefBad
namespace Go.Proofs.YtkfinaongajhmaaDoor.X
open Go.Ob Go.Ob.Xc Go.RowKit Go.Proofs.YtkfinaongajhmaaDoorW.PrintWords Go.Proofs.YtkfinaongajhmaaDoorW.PrintMore
attribute [local go_sem] max2_int min2_int max_two min_two
set_option linter.unusedVariables false
set_option linter.unusedSimpArgs false
set_option maxHeartbeats 16000000 in
set_option maxRecDepth 100000 in
theorem RR_1 (wd : Bool) (r b i c n : Int) (w : World) (h0 : 0 ≤ r ∧ r ≤ 15) (h1 : 0 ≤ b ∧ b ≤ 15) (h2 : 0 ≤ i ∧ i ≤ 16 ∧ ¬ i = 5) :
    Calls Tryd.prog 19 #[xv ⟨1, wd, r, b, i, c, n⟩] w fun e w' => e = .returned (.bool (right ⟨1, wd, r, b, i, c, n⟩)) ∧ Below w.heap.size w w' := by
  have HI := Aside0.mk (And.intro h0 (And.intro h1 h2))
  obtain ⟨⟨a0, a1⟩, ⟨a2, a3⟩, a4, a5, a6⟩ := And.intro h0 (And.intro h1 h2)
  have a7 : (i == 5) = false := beq_eq_false_iff_ne.mpr a6
  clear h0 h1 h2 a6
  cases wd
  all_goals
    go_enter Tryd.func19, Tryd.ntmps19
    go_wp2_with (first
      | (go_at_call 41; (with_reducible refine (rf_1 _).mono ?_); rintro e w1 ⟨rfl, hb⟩; have q := bcell hb; rw [World.size_alloc] at q; have l1 : w.heap.size < w1.heap.size := (by have := hb.size; simp at this; omega); have H1 := Aside0.mk hb; clear hb; obtain ⟨q1, q2⟩ := q))
    all_goals go_ret
    all_goals exact ⟨by obtain ⟨⟨b0, b1⟩, ⟨b2, b3⟩, b4, b5, b6⟩ := HI.out; first | rfl | (apply congrArg (fun z => Ending.returned (.bool z)); rw [Bool.eq_iff_iff]; simp [right, reg, idx] at *; try grind), below_alloc ((below_alloc (Below.refl w.heap.size w) _).trans (H1.out.mono (by simp))) _⟩
set_option maxHeartbeats 16000000 in
set_option maxRecDepth 100000 in
theorem RR_2 (wd : Bool) (r b i c n : Int) (w : World) (h0 : 0 ≤ r ∧ r ≤ 15) (h1 : 0 ≤ b ∧ b ≤ 15) (h2 : 0 ≤ i ∧ i ≤ 16 ∧ ¬ i = 5) :
    Calls Tryd.prog 19 #[xv ⟨2, wd, r, b, i, c, n⟩] w fun e w' => e = .returned (.bool (right ⟨2, wd, r, b, i, c, n⟩)) ∧ Below w.heap.size w w' := by
  have HI := Aside0.mk (And.intro h0 (And.intro h1 h2))
  obtain ⟨⟨a0, a1⟩, ⟨a2, a3⟩, a4, a5, a6⟩ := And.intro h0 (And.intro h1 h2)
  have a7 : (i == 5) = false := beq_eq_false_iff_ne.mpr a6
  clear h0 h1 h2 a6
  cases wd
  all_goals
    go_enter Tryd.func19, Tryd.ntmps19
    go_wp2_with (first
      | (go_at_call 41; (with_reducible refine (rf_2 _).mono ?_); rintro e w1 ⟨rfl, hb⟩; have q := bcell hb; rw [World.size_alloc] at q; have l1 : w.heap.size < w1.heap.size := (by have := hb.size; simp at this; omega); have H1 := Aside0.mk hb; clear hb; obtain ⟨q1, q2⟩ := q))
    all_goals go_ret
    all_goals exact ⟨by obtain ⟨⟨b0, b1⟩, ⟨b2, b3⟩, b4, b5, b6⟩ := HI.out; first | rfl | (apply congrArg (fun z => Ending.returned (.bool z)); rw [Bool.eq_iff_iff]; simp [right, reg, idx] at *; try grind), below_alloc ((below_alloc (Below.refl w.heap.size w) _).trans (H1.out.mono (by simp))) _⟩
set_option maxHeartbeats 16000000 in
set_option maxRecDepth 100000 in
theorem RR_3 (wd : Bool) (r b i c n : Int) (w : World) (h0 : 0 ≤ r ∧ r ≤ 15) (h1 : 0 ≤ b ∧ b ≤ 15) (h2 : 0 ≤ i ∧ i ≤ 16 ∧ ¬ i = 5) :
    Calls Tryd.prog 19 #[xv ⟨3, wd, r, b, i, c, n⟩] w fun e w' => e = .returned (.bool (right ⟨3, wd, r, b, i, c, n⟩)) ∧ Below w.heap.size w w' := by
  have HI := Aside0.mk (And.intro h0 (And.intro h1 h2))
  obtain ⟨⟨a0, a1⟩, ⟨a2, a3⟩, a4, a5, a6⟩ := And.intro h0 (And.intro h1 h2)
  have a7 : (i == 5) = false := beq_eq_false_iff_ne.mpr a6
  clear h0 h1 h2 a6
  cases wd
  all_goals
    go_enter Tryd.func19, Tryd.ntmps19
    go_wp2_with (first
      | (go_at_call 41; (with_reducible refine (rf_3 _).mono ?_); rintro e w1 ⟨rfl, hb⟩; have q := bcell hb; rw [World.size_alloc] at q; have l1 : w.heap.size < w1.heap.size := (by have := hb.size; simp at this; omega); have H1 := Aside0.mk hb; clear hb; obtain ⟨q1, q2⟩ := q)
      | (go_at_call 43; (with_reducible refine (RAlu _ _).mono ?_); rintro e w3 ⟨rfl, rfl⟩))
    all_goals go_ret
    all_goals exact ⟨by obtain ⟨⟨b0, b1⟩, ⟨b2, b3⟩, b4, b5, b6⟩ := HI.out; first | rfl | (apply congrArg (fun z => Ending.returned (.bool z)); rw [Bool.eq_iff_iff]; simp [right, reg, idx] at *; try grind), below_alloc ((below_alloc (Below.refl w.heap.size w) _).trans (H1.out.mono (by simp))) _⟩
set_option maxHeartbeats 16000000 in
set_option maxRecDepth 100000 in
theorem RR_4 (wd : Bool) (r b i c n : Int) (w : World) (h0 : 0 ≤ r ∧ r ≤ 15) (h1 : 0 ≤ b ∧ b ≤ 15) (h2 : 0 ≤ i ∧ i ≤ 16 ∧ ¬ i = 5) :
    Calls Tryd.prog 19 #[xv ⟨4, wd, r, b, i, c, n⟩] w fun e w' => e = .returned (.bool (right ⟨4, wd, r, b, i, c, n⟩)) ∧ Below w.heap.size w w' := by
  have HI := Aside0.mk (And.intro h0 (And.intro h1 h2))
  obtain ⟨⟨a0, a1⟩, ⟨a2, a3⟩, a4, a5, a6⟩ := And.intro h0 (And.intro h1 h2)
  have a7 : (i == 5) = false := beq_eq_false_iff_ne.mpr a6
  clear h0 h1 h2 a6
  cases wd
  all_goals
    go_enter Tryd.func19, Tryd.ntmps19
    go_wp2_with (first
      | (go_at_call 41; (with_reducible refine (rf_4 _).mono ?_); rintro e w1 ⟨rfl, hb⟩; have q := bcell hb; rw [World.size_alloc] at q; have l1 : w.heap.size < w1.heap.size := (by have := hb.size; simp at this; omega); have H1 := Aside0.mk hb; clear hb; obtain ⟨q1, q2⟩ := q)
      | (go_at_call 42; (with_reducible refine (RWord _ _).mono ?_); rintro e w2 ⟨rfl, rfl⟩)
      | (go_at_call 43; (with_reducible refine (RAlu _ _).mono ?_); rintro e w3 ⟨rfl, rfl⟩))
    all_goals go_ret
    all_goals exact ⟨by obtain ⟨⟨b0, b1⟩, ⟨b2, b3⟩, b4, b5, b6⟩ := HI.out; first | rfl | (apply congrArg (fun z => Ending.returned (.bool z)); rw [Bool.eq_iff_iff]; simp [right, reg, idx] at *; try grind), below_alloc ((below_alloc (Below.refl w.heap.size w) _).trans (H1.out.mono (by simp))) _⟩
set_option maxHeartbeats 16000000 in
set_option maxRecDepth 100000 in
theorem RR_5 (wd : Bool) (r b i c n : Int) (w : World) (h0 : 0 ≤ r ∧ r ≤ 15) (h1 : 0 ≤ b ∧ b ≤ 15) (h2 : 0 ≤ i ∧ i ≤ 16 ∧ ¬ i = 5) :
    Calls Tryd.prog 19 #[xv ⟨5, wd, r, b, i, c, n⟩] w fun e w' => e = .returned (.bool (right ⟨5, wd, r, b, i, c, n⟩)) ∧ Below w.heap.size w w' := by
  have HI := Aside0.mk (And.intro h0 (And.intro h1 h2))
  obtain ⟨⟨a0, a1⟩, ⟨a2, a3⟩, a4, a5, a6⟩ := And.intro h0 (And.intro h1 h2)
  have a7 : (i == 5) = false := beq_eq_false_iff_ne.mpr a6
  clear h0 h1 h2 a6
  cases wd
  all_goals
    go_enter Tryd.func19, Tryd.ntmps19
    go_wp2_with (first
      | (go_at_call 41; (with_reducible refine (rf_5 _).mono ?_); rintro e w1 ⟨rfl, hb⟩; have q := bcell hb; rw [World.size_alloc] at q; have l1 : w.heap.size < w1.heap.size := (by have := hb.size; simp at this; omega); have H1 := Aside0.mk hb; clear hb; obtain ⟨q1, q2⟩ := q))
    all_goals go_ret
    all_goals exact ⟨by obtain ⟨⟨b0, b1⟩, ⟨b2, b3⟩, b4, b5, b6⟩ := HI.out; first | rfl | (apply congrArg (fun z => Ending.returned (.bool z)); rw [Bool.eq_iff_iff]; simp [right, reg, idx] at *; try grind), below_alloc ((below_alloc (Below.refl w.heap.size w) _).trans (H1.out.mono (by simp))) _⟩
set_option maxHeartbeats 16000000 in
set_option maxRecDepth 100000 in
theorem RR_6 (wd : Bool) (r b i c n : Int) (w : World) (h0 : 0 ≤ r ∧ r ≤ 15) (h1 : 0 ≤ b ∧ b ≤ 15) (h2 : 0 ≤ i ∧ i ≤ 16 ∧ ¬ i = 5) :
    Calls Tryd.prog 19 #[xv ⟨6, wd, r, b, i, c, n⟩] w fun e w' => e = .returned (.bool (right ⟨6, wd, r, b, i, c, n⟩)) ∧ Below w.heap.size w w' := by
  have HI := Aside0.mk (And.intro h0 (And.intro h1 h2))
  obtain ⟨⟨a0, a1⟩, ⟨a2, a3⟩, a4, a5, a6⟩ := And.intro h0 (And.intro h1 h2)
  have a7 : (i == 5) = false := beq_eq_false_iff_ne.mpr a6
  clear h0 h1 h2 a6
  cases wd
  all_goals
    go_enter Tryd.func19, Tryd.ntmps19
    go_wp2_with (first
      | (go_at_call 41; (with_reducible refine (rf_6 _).mono ?_); rintro e w1 ⟨rfl, hb⟩; have q := bcell hb; rw [World.size_alloc] at q; have l1 : w.heap.size < w1.heap.size := (by have := hb.size; simp at this; omega); have H1 := Aside0.mk hb; clear hb; obtain ⟨q1, q2⟩ := q))
    all_goals go_ret
    all_goals exact ⟨by obtain ⟨⟨b0, b1⟩, ⟨b2, b3⟩, b4, b5, b6⟩ := HI.out; first | rfl | (apply congrArg (fun z => Ending.returned (.bool z)); rw [Bool.eq_iff_iff]; simp [right, reg, idx] at *; try grind), below_alloc ((below_alloc (Below.refl w.heap.size w) _).trans (H1.out.mono (by simp))) _⟩
set_option maxHeartbeats 16000000 in
set_option maxRecDepth 100000 in
theorem RR_7 (wd : Bool) (r b i c n : Int) (w : World) (h0 : 0 ≤ r ∧ r ≤ 15) (h1 : 0 ≤ b ∧ b ≤ 15) (h2 : 0 ≤ i ∧ i ≤ 16 ∧ ¬ i = 5) :
    Calls Tryd.prog 19 #[xv ⟨7, wd, r, b, i, c, n⟩] w fun e w' => e = .returned (.bool (right ⟨7, wd, r, b, i, c, n⟩)) ∧ Below w.heap.size w w' := by
  have HI := Aside0.mk (And.intro h0 (And.intro h1 h2))
  obtain ⟨⟨a0, a1⟩, ⟨a2, a3⟩, a4, a5, a6⟩ := And.intro h0 (And.intro h1 h2)
  have a7 : (i == 5) = false := beq_eq_false_iff_ne.mpr a6
  clear h0 h1 h2 a6
  cases wd
  all_goals
    go_enter Tryd.func19, Tryd.ntmps19
    go_wp2_with (first
      | (go_at_call 41; (with_reducible refine (rf_7 _).mono ?_); rintro e w1 ⟨rfl, hb⟩; have q := bcell hb; rw [World.size_alloc] at q; have l1 : w.heap.size < w1.heap.size := (by have := hb.size; simp at this; omega); have H1 := Aside0.mk hb; clear hb; obtain ⟨q1, q2⟩ := q)
      | (go_at_call 44; (with_reducible refine (RShift _ _).mono ?_); rintro e w3 ⟨rfl, rfl⟩))
    all_goals go_ret
    all_goals exact ⟨by obtain ⟨⟨b0, b1⟩, ⟨b2, b3⟩, b4, b5, b6⟩ := HI.out; first | rfl | (apply congrArg (fun z => Ending.returned (.bool z)); rw [Bool.eq_iff_iff]; simp [right, reg, idx] at *; try grind), below_alloc ((below_alloc (Below.refl w.heap.size w) _).trans (H1.out.mono (by simp))) _⟩
set_option maxHeartbeats 16000000 in
set_option maxRecDepth 100000 in
theorem RR_8 (wd : Bool) (r b i c n : Int) (w : World) (h0 : 0 ≤ r ∧ r ≤ 15) (h1 : 0 ≤ b ∧ b ≤ 15) (h2 : 0 ≤ i ∧ i ≤ 16 ∧ ¬ i = 5) :
    Calls Tryd.prog 19 #[xv ⟨8, wd, r, b, i, c, n⟩] w fun e w' => e = .returned (.bool (right ⟨8, wd, r, b, i, c, n⟩)) ∧ Below w.heap.size w w' := by
  have HI := Aside0.mk (And.intro h0 (And.intro h1 h2))
  obtain ⟨⟨a0, a1⟩, ⟨a2, a3⟩, a4, a5, a6⟩ := And.intro h0 (And.intro h1 h2)
  have a7 : (i == 5) = false := beq_eq_false_iff_ne.mpr a6
  clear h0 h1 h2 a6
  cases wd
  all_goals
    go_enter Tryd.func19, Tryd.ntmps19
    go_wp2_with (first
      | (go_at_call 41; (with_reducible refine (rf_8 _).mono ?_); rintro e w1 ⟨rfl, hb⟩; have q := bcell hb; rw [World.size_alloc] at q; have l1 : w.heap.size < w1.heap.size := (by have := hb.size; simp at this; omega); have H1 := Aside0.mk hb; clear hb; obtain ⟨q1, q2⟩ := q))
    all_goals go_ret
    all_goals exact ⟨by obtain ⟨⟨b0, b1⟩, ⟨b2, b3⟩, b4, b5, b6⟩ := HI.out; first | rfl | (apply congrArg (fun z => Ending.returned (.bool z)); rw [Bool.eq_iff_iff]; simp [right, reg, idx] at *; try grind), below_alloc ((below_alloc (Below.refl w.heap.size w) _).trans (H1.out.mono (by simp))) _⟩
end Go.Proofs.YtkfinaongajhmaaDoor.X

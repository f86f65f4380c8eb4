/- The reference's Right of chapter 11: what it computes, kinds 9, 10, 11, 12, 13, 14, 15, 16. No condition but the numbers' bounds. -/
import Derived.Test.YtkfinaongajhmaaDoorXRefBad
namespace Go.Proofs.YtkfinaongajhmaaDoor.X
open Go.Ob Go.Ob.Xc Go.RowKit Go.Proofs.YtkfinaongajhmaaDoorW.PrintWords Go.Proofs.YtkfinaongajhmaaDoorW.PrintMore
attribute [local go_sem] max2_int min2_int max_two min_two
set_option linter.unusedVariables false
set_option linter.unusedSimpArgs false
set_option maxHeartbeats 16000000 in
set_option maxRecDepth 100000 in
theorem RR_9 (wd : Bool) (r b i c n : Int) (w : World) (h0 : 0 ≤ r ∧ r ≤ 15) (h1 : 0 ≤ b ∧ b ≤ 15) (h2 : 0 ≤ i ∧ i ≤ 16 ∧ ¬ i = 5) :
    Calls Tryd.prog 19 #[xv ⟨9, wd, r, b, i, c, n⟩] w fun e w' => e = .returned (.bool (right ⟨9, wd, r, b, i, c, n⟩)) ∧ Below w.heap.size w w' := by
  have HI := Aside0.mk (And.intro h0 (And.intro h1 h2))
  obtain ⟨⟨a0, a1⟩, ⟨a2, a3⟩, a4, a5, a6⟩ := And.intro h0 (And.intro h1 h2)
  have a7 : (i == 5) = false := beq_eq_false_iff_ne.mpr a6
  clear h0 h1 h2 a6
  cases wd
  all_goals
    go_enter Tryd.func19, Tryd.ntmps19
    go_wp2_with (first
      | (go_at_call 41; (with_reducible refine (rf_9 _).mono ?_); rintro e w1 ⟨rfl, hb⟩; have q := bcell hb; rw [World.size_alloc] at q; have l1 : w.heap.size < w1.heap.size := (by have := hb.size; simp at this; omega); have H1 := Aside0.mk hb; clear hb; obtain ⟨q1, q2⟩ := q))
    all_goals go_ret
    all_goals exact ⟨by obtain ⟨⟨b0, b1⟩, ⟨b2, b3⟩, b4, b5, b6⟩ := HI.out; first | rfl | (apply congrArg (fun z => Ending.returned (.bool z)); rw [Bool.eq_iff_iff]; simp [right, reg, idx] at *; try grind), below_alloc ((below_alloc (Below.refl w.heap.size w) _).trans (H1.out.mono (by simp))) _⟩
set_option maxHeartbeats 16000000 in
set_option maxRecDepth 100000 in
theorem RR_10 (wd : Bool) (r b i c n : Int) (w : World) (h0 : 0 ≤ r ∧ r ≤ 15) (h1 : 0 ≤ b ∧ b ≤ 15) (h2 : 0 ≤ i ∧ i ≤ 16 ∧ ¬ i = 5) :
    Calls Tryd.prog 19 #[xv ⟨10, wd, r, b, i, c, n⟩] w fun e w' => e = .returned (.bool (right ⟨10, wd, r, b, i, c, n⟩)) ∧ Below w.heap.size w w' := by
  have HI := Aside0.mk (And.intro h0 (And.intro h1 h2))
  obtain ⟨⟨a0, a1⟩, ⟨a2, a3⟩, a4, a5, a6⟩ := And.intro h0 (And.intro h1 h2)
  have a7 : (i == 5) = false := beq_eq_false_iff_ne.mpr a6
  clear h0 h1 h2 a6
  cases wd
  all_goals
    go_enter Tryd.func19, Tryd.ntmps19
    go_wp2_with (first
      | (go_at_call 41; (with_reducible refine (rf_10 _).mono ?_); rintro e w1 ⟨rfl, hb⟩; have q := bcell hb; rw [World.size_alloc] at q; have l1 : w.heap.size < w1.heap.size := (by have := hb.size; simp at this; omega); have H1 := Aside0.mk hb; clear hb; obtain ⟨q1, q2⟩ := q))
    all_goals go_ret
    all_goals exact ⟨by obtain ⟨⟨b0, b1⟩, ⟨b2, b3⟩, b4, b5, b6⟩ := HI.out; first | rfl | (apply congrArg (fun z => Ending.returned (.bool z)); rw [Bool.eq_iff_iff]; simp [right, reg, idx] at *; try grind), below_alloc ((below_alloc (Below.refl w.heap.size w) _).trans (H1.out.mono (by simp))) _⟩
set_option maxHeartbeats 16000000 in
set_option maxRecDepth 100000 in
theorem RR_11 (wd : Bool) (r b i c n : Int) (w : World) (h0 : 0 ≤ r ∧ r ≤ 15) (h1 : 0 ≤ b ∧ b ≤ 15) (h2 : 0 ≤ i ∧ i ≤ 16 ∧ ¬ i = 5) :
    Calls Tryd.prog 19 #[xv ⟨11, wd, r, b, i, c, n⟩] w fun e w' => e = .returned (.bool (right ⟨11, wd, r, b, i, c, n⟩)) ∧ Below w.heap.size w w' := by
  have HI := Aside0.mk (And.intro h0 (And.intro h1 h2))
  obtain ⟨⟨a0, a1⟩, ⟨a2, a3⟩, a4, a5, a6⟩ := And.intro h0 (And.intro h1 h2)
  have a7 : (i == 5) = false := beq_eq_false_iff_ne.mpr a6
  clear h0 h1 h2 a6
  cases wd
  all_goals
    go_enter Tryd.func19, Tryd.ntmps19
    go_wp2_with (first
      | (go_at_call 41; (with_reducible refine (rf_11 _).mono ?_); rintro e w1 ⟨rfl, hb⟩; have q := bcell hb; rw [World.size_alloc] at q; have l1 : w.heap.size < w1.heap.size := (by have := hb.size; simp at this; omega); have H1 := Aside0.mk hb; clear hb; obtain ⟨q1, q2⟩ := q)
      | (go_at_call 42; (with_reducible refine (RWord _ _).mono ?_); rintro e w2 ⟨rfl, rfl⟩))
    all_goals go_ret
    all_goals exact ⟨by obtain ⟨⟨b0, b1⟩, ⟨b2, b3⟩, b4, b5, b6⟩ := HI.out; first | rfl | (apply congrArg (fun z => Ending.returned (.bool z)); rw [Bool.eq_iff_iff]; simp [right, reg, idx] at *; try grind), below_alloc ((below_alloc (Below.refl w.heap.size w) _).trans (H1.out.mono (by simp))) _⟩
set_option maxHeartbeats 16000000 in
set_option maxRecDepth 100000 in
theorem RR_12 (wd : Bool) (r b i c n : Int) (w : World) (h0 : 0 ≤ r ∧ r ≤ 15) (h1 : 0 ≤ b ∧ b ≤ 15) (h2 : 0 ≤ i ∧ i ≤ 16 ∧ ¬ i = 5) :
    Calls Tryd.prog 19 #[xv ⟨12, wd, r, b, i, c, n⟩] w fun e w' => e = .returned (.bool (right ⟨12, wd, r, b, i, c, n⟩)) ∧ Below w.heap.size w w' := by
  have HI := Aside0.mk (And.intro h0 (And.intro h1 h2))
  obtain ⟨⟨a0, a1⟩, ⟨a2, a3⟩, a4, a5, a6⟩ := And.intro h0 (And.intro h1 h2)
  have a7 : (i == 5) = false := beq_eq_false_iff_ne.mpr a6
  clear h0 h1 h2 a6
  cases wd
  all_goals
    go_enter Tryd.func19, Tryd.ntmps19
    go_wp2_with (first
      | (go_at_call 41; (with_reducible refine (rf_12 _).mono ?_); rintro e w1 ⟨rfl, hb⟩; have q := bcell hb; rw [World.size_alloc] at q; have l1 : w.heap.size < w1.heap.size := (by have := hb.size; simp at this; omega); have H1 := Aside0.mk hb; clear hb; obtain ⟨q1, q2⟩ := q)
      | (go_at_call 42; (with_reducible refine (RWord _ _).mono ?_); rintro e w2 ⟨rfl, rfl⟩))
    all_goals go_ret
    all_goals exact ⟨by obtain ⟨⟨b0, b1⟩, ⟨b2, b3⟩, b4, b5, b6⟩ := HI.out; first | rfl | (apply congrArg (fun z => Ending.returned (.bool z)); rw [Bool.eq_iff_iff]; simp [right, reg, idx] at *; try grind), below_alloc ((below_alloc (Below.refl w.heap.size w) _).trans (H1.out.mono (by simp))) _⟩
set_option maxHeartbeats 16000000 in
set_option maxRecDepth 100000 in
theorem RR_13 (wd : Bool) (r b i c n : Int) (w : World) (h0 : 0 ≤ r ∧ r ≤ 15) (h1 : 0 ≤ b ∧ b ≤ 15) (h2 : 0 ≤ i ∧ i ≤ 16 ∧ ¬ i = 5) :
    Calls Tryd.prog 19 #[xv ⟨13, wd, r, b, i, c, n⟩] w fun e w' => e = .returned (.bool (right ⟨13, wd, r, b, i, c, n⟩)) ∧ Below w.heap.size w w' := by
  have HI := Aside0.mk (And.intro h0 (And.intro h1 h2))
  obtain ⟨⟨a0, a1⟩, ⟨a2, a3⟩, a4, a5, a6⟩ := And.intro h0 (And.intro h1 h2)
  have a7 : (i == 5) = false := beq_eq_false_iff_ne.mpr a6
  clear h0 h1 h2 a6
  cases wd
  all_goals
    go_enter Tryd.func19, Tryd.ntmps19
    go_wp2_with (first
      | (go_at_call 41; (with_reducible refine (rf_13 _).mono ?_); rintro e w1 ⟨rfl, hb⟩; have q := bcell hb; rw [World.size_alloc] at q; have l1 : w.heap.size < w1.heap.size := (by have := hb.size; simp at this; omega); have H1 := Aside0.mk hb; clear hb; obtain ⟨q1, q2⟩ := q)
      | (go_at_call 45; (with_reducible refine (RCond _ _).mono ?_); rintro e w3 ⟨rfl, rfl⟩))
    all_goals go_ret
    all_goals exact ⟨by obtain ⟨⟨b0, b1⟩, ⟨b2, b3⟩, b4, b5, b6⟩ := HI.out; first | rfl | (apply congrArg (fun z => Ending.returned (.bool z)); rw [Bool.eq_iff_iff]; simp [right, reg, idx] at *; try grind), below_alloc ((below_alloc (Below.refl w.heap.size w) _).trans (H1.out.mono (by simp))) _⟩
set_option maxHeartbeats 16000000 in
set_option maxRecDepth 100000 in
theorem RR_14 (wd : Bool) (r b i c n : Int) (w : World) (h0 : 0 ≤ r ∧ r ≤ 15) (h1 : 0 ≤ b ∧ b ≤ 15) (h2 : 0 ≤ i ∧ i ≤ 16 ∧ ¬ i = 5) :
    Calls Tryd.prog 19 #[xv ⟨14, wd, r, b, i, c, n⟩] w fun e w' => e = .returned (.bool (right ⟨14, wd, r, b, i, c, n⟩)) ∧ Below w.heap.size w w' := by
  have HI := Aside0.mk (And.intro h0 (And.intro h1 h2))
  obtain ⟨⟨a0, a1⟩, ⟨a2, a3⟩, a4, a5, a6⟩ := And.intro h0 (And.intro h1 h2)
  have a7 : (i == 5) = false := beq_eq_false_iff_ne.mpr a6
  clear h0 h1 h2 a6
  cases wd
  all_goals
    go_enter Tryd.func19, Tryd.ntmps19
    go_wp2_with (first
      | (go_at_call 41; (with_reducible refine (rf_14 _).mono ?_); rintro e w1 ⟨rfl, hb⟩; have q := bcell hb; rw [World.size_alloc] at q; have l1 : w.heap.size < w1.heap.size := (by have := hb.size; simp at this; omega); have H1 := Aside0.mk hb; clear hb; obtain ⟨q1, q2⟩ := q))
    all_goals go_ret
    all_goals exact ⟨by obtain ⟨⟨b0, b1⟩, ⟨b2, b3⟩, b4, b5, b6⟩ := HI.out; first | rfl | (apply congrArg (fun z => Ending.returned (.bool z)); rw [Bool.eq_iff_iff]; simp [right, reg, idx] at *; try grind), below_alloc ((below_alloc (Below.refl w.heap.size w) _).trans (H1.out.mono (by simp))) _⟩
set_option maxHeartbeats 16000000 in
set_option maxRecDepth 100000 in
theorem RR_15 (wd : Bool) (r b i c n : Int) (w : World) (h0 : 0 ≤ r ∧ r ≤ 15) (h1 : 0 ≤ b ∧ b ≤ 15) (h2 : 0 ≤ i ∧ i ≤ 16 ∧ ¬ i = 5) :
    Calls Tryd.prog 19 #[xv ⟨15, wd, r, b, i, c, n⟩] w fun e w' => e = .returned (.bool (right ⟨15, wd, r, b, i, c, n⟩)) ∧ Below w.heap.size w w' := by
  have HI := Aside0.mk (And.intro h0 (And.intro h1 h2))
  obtain ⟨⟨a0, a1⟩, ⟨a2, a3⟩, a4, a5, a6⟩ := And.intro h0 (And.intro h1 h2)
  have a7 : (i == 5) = false := beq_eq_false_iff_ne.mpr a6
  clear h0 h1 h2 a6
  cases wd
  all_goals
    go_enter Tryd.func19, Tryd.ntmps19
    go_wp2_with (first
      | (go_at_call 41; (with_reducible refine (rf_15 _).mono ?_); rintro e w1 ⟨rfl, hb⟩; have q := bcell hb; rw [World.size_alloc] at q; have l1 : w.heap.size < w1.heap.size := (by have := hb.size; simp at this; omega); have H1 := Aside0.mk hb; clear hb; obtain ⟨q1, q2⟩ := q)
      | (go_at_call 45; (with_reducible refine (RCond _ _).mono ?_); rintro e w3 ⟨rfl, rfl⟩))
    all_goals go_ret
    all_goals exact ⟨by obtain ⟨⟨b0, b1⟩, ⟨b2, b3⟩, b4, b5, b6⟩ := HI.out; first | rfl | (apply congrArg (fun z => Ending.returned (.bool z)); rw [Bool.eq_iff_iff]; simp [right, reg, idx] at *; try grind), below_alloc ((below_alloc (Below.refl w.heap.size w) _).trans (H1.out.mono (by simp))) _⟩
set_option maxHeartbeats 16000000 in
set_option maxRecDepth 100000 in
theorem RR_16 (wd : Bool) (r b i c n : Int) (w : World) (h0 : 0 ≤ r ∧ r ≤ 15) (h1 : 0 ≤ b ∧ b ≤ 15) (h2 : 0 ≤ i ∧ i ≤ 16 ∧ ¬ i = 5) :
    Calls Tryd.prog 19 #[xv ⟨16, wd, r, b, i, c, n⟩] w fun e w' => e = .returned (.bool (right ⟨16, wd, r, b, i, c, n⟩)) ∧ Below w.heap.size w w' := by
  have HI := Aside0.mk (And.intro h0 (And.intro h1 h2))
  obtain ⟨⟨a0, a1⟩, ⟨a2, a3⟩, a4, a5, a6⟩ := And.intro h0 (And.intro h1 h2)
  have a7 : (i == 5) = false := beq_eq_false_iff_ne.mpr a6
  clear h0 h1 h2 a6
  cases wd
  all_goals
    go_enter Tryd.func19, Tryd.ntmps19
    go_wp2_with (first
      | (go_at_call 41; (with_reducible refine (rf_16 _).mono ?_); rintro e w1 ⟨rfl, hb⟩; have q := bcell hb; rw [World.size_alloc] at q; have l1 : w.heap.size < w1.heap.size := (by have := hb.size; simp at this; omega); have H1 := Aside0.mk hb; clear hb; obtain ⟨q1, q2⟩ := q))
    all_goals go_ret
    all_goals exact ⟨by obtain ⟨⟨b0, b1⟩, ⟨b2, b3⟩, b4, b5, b6⟩ := HI.out; first | rfl | (apply congrArg (fun z => Ending.returned (.bool z)); rw [Bool.eq_iff_iff]; simp [right, reg, idx] at *; try grind), below_alloc ((below_alloc (Below.refl w.heap.size w) _).trans (H1.out.mono (by simp))) _⟩
end Go.Proofs.YtkfinaongajhmaaDoor.X

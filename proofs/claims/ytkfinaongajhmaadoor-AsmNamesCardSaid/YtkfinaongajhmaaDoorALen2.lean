/- The assembler's length of an item that may stand: what the program's function computes. -/
import Derived.Test.YtkfinaongajhmaaDoorALen
import Derived.Deep.QuietTactic
import Derived.BigQuiet
namespace Go.Proofs.YtkfinaongajhmaaDoor.X
open Go.Ob Go.Ob.Xc Go.RowKit Go.Proofs.YtkfinaongajhmaaDoorW.PrintWords Go.Proofs.YtkfinaongajhmaaDoorW.PrintMore
attribute [local go_sem] max2_int min2_int max_two min_two
set_option linter.unusedVariables false
set_option linter.unusedSimpArgs false
theorem new_of {w W : World} {o : Obj} (h : w.alloc o = W) : W.heap[w.heap.size]? = some o ∧ Below w.heap.size w W := by
  subst h
  exact ⟨blk_new w o, below_alloc (Below.refl _ _) o⟩
set_option maxHeartbeats 16000000 in
set_option maxRecDepth 100000 in
/-- a label, or none that may be -/
theorem LenLab (t : It) (w : World) (h : toOk t) (hl : ¬ t.lab = 0) : Calls Tryd.prog 53 #[tv t] w fun e w' => e = .returned (lenA t) ∧ Below w.heap.size w w' := by
  rw [len_of (t := t) (k := 0) (ok := decide (0 < t.lab) && eqT t ⟨⟨0, false, 0, 0, 0, 0, 0⟩, t.lab, 0⟩) (by
    unfold lenI
    rw [if_pos h, if_neg hl]
    by_cases c : 0 < t.lab ∧ t.x = xz ∧ t.to = 0
    · have e : eqT t ⟨⟨0, false, 0, 0, 0, 0, 0⟩, t.lab, 0⟩ = true := (eqT_iff _ _).mpr (by obtain ⟨x, lab, jt⟩ := t; obtain ⟨_, rfl, rfl⟩ := c; rfl)
      rw [if_pos c, e, decide_eq_true c.1]
      exact ⟨rfl, rfl⟩
    · rw [if_neg c]
      refine ⟨rfl, ?_⟩
      symm
      show (decide (0 < t.lab) && eqT t ⟨⟨0, false, 0, 0, 0, 0, 0⟩, t.lab, 0⟩) = false
      rw [Bool.eq_false_iff, Ne, Bool.and_eq_true, decide_eq_true_eq]
      rintro ⟨h1, h2⟩
      have := (eqT_iff _ _).mp h2
      exact c ⟨h1, by rw [this]; rfl, by rw [this]⟩)]
  have hq := eqt t ⟨⟨0, false, 0, 0, 0, 0, 0⟩, t.lab, 0⟩
  generalize eqT t ⟨⟨0, false, 0, 0, 0, 0, 0⟩, t.lab, 0⟩ = q at *
  have HQ := Aside0.mk hq
  clear hq
  obtain ⟨⟨o, wd, r, b, i, c, n⟩, lab, jt⟩ := t
  dsimp only at hl HQ
  have hc : ((o = 17 ∨ o = 18 ∨ o = 19) ∧ jt = 0) ∨ ((o = 17 ∨ o = 18 ∨ o = 19) ∧ 0 < jt ∧ n = 0) ∨ ((¬ o = 17 ∧ ¬ o = 18 ∧ ¬ o = 19) ∧ jt = 0) := by
    unfold toOk isJ at h
    dsimp only at h
    omega
  have hd : lab < 0 ∨ 0 < lab := by omega
  clear h hl
  rcases hd with hl | hl
  · have e8 : decide (0 < lab) = false := decide_eq_false (by omega)
    rw [e8]
    rcases hc with ⟨rfl | rfl | rfl, rfl⟩ | ⟨rfl | rfl | rfl, h1, rfl⟩ | ⟨⟨h0, h1, h2⟩, rfl⟩
    all_goals
      try (have e1 : (o == 17) = false := beq_eq_false_iff_ne.mpr h0)
      try (have e2 : (o == 18) = false := beq_eq_false_iff_ne.mpr h1)
      try (have e3 : (o == 19) = false := beq_eq_false_iff_ne.mpr h2)
      have e6 : (lab != 0) = true := bne_iff_ne.mpr (by omega)
      go_enter Tryd.func53, Tryd.ntmps53
      go_upto_region 10 with fail
      have e7 := HQ.out
      go_quiet (fail)
      go_wp2
      go_ret2
      exact ⟨by first | rfl | simp, by repeat (first | with_reducible exact below_alloc (Below.refl _ _) _ | with_reducible refine below_drew ?_ | with_reducible refine pw_below_drewN ?_ _)⟩
  · have e8 : decide (0 < lab) = true := decide_eq_true hl
    rw [e8]
    rcases hc with ⟨rfl | rfl | rfl, rfl⟩ | ⟨rfl | rfl | rfl, h1, rfl⟩ | ⟨⟨h0, h1, h2⟩, rfl⟩
    all_goals
      try (have e1 : (o == 17) = false := beq_eq_false_iff_ne.mpr h0)
      try (have e2 : (o == 18) = false := beq_eq_false_iff_ne.mpr h1)
      try (have e3 : (o == 19) = false := beq_eq_false_iff_ne.mpr h2)
      have e6 : (lab != 0) = true := bne_iff_ne.mpr (by omega)
      go_enter Tryd.func53, Tryd.ntmps53
      go_upto_region 10 with fail
      have e7 := HQ.out
      generalize hW9 : w.alloc _ = W9
      obtain ⟨kX, kB⟩ := new_of hW9
      clear hW9
      have HB := Aside0.mk kB
      obtain ⟨x0, x1, x2, x3, x4, x5, x6, x7, x8⟩ := cell9 kX
      clear kX kB
      refine wp_region_still_lit (by kernel_rfl) (by kernel_rfl) ?_
      repeat still_step
      refine wpStill_nil ?_
      go_wp2
      go_ret2
      exact ⟨by first | rfl | simp, by first | exact below_drew HB.out | exact HB.out⟩
end Go.Proofs.YtkfinaongajhmaaDoor.X

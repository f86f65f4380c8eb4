/- What an instruction's fields may be: what the program's function computes, kinds that are none. No condition but that the table of conditions holds what the program's text lays, and that numbers are those of the language. -/
import Derived.Test.YtkfinaongajhmaaDoorXSmall
import Derived.Deep.DeepCutAuto
import Derived.Deep.CutBlock
import Derived.BigRegion
import Derived.Deep.RegionHeld3
namespace Go.Proofs.YtkfinaongajhmaaDoor.X
open Go.Ob Go.Ob.Xc Go.RowKit Go.Proofs.YtkfinaongajhmaaDoorW.PrintWords Go.Proofs.YtkfinaongajhmaaDoorW.PrintMore
attribute [local go_sem] max2_int min2_int max_two min_two
set_option linter.unusedVariables false
set_option linter.unusedSimpArgs false
set_option maxHeartbeats 16000000 in
set_option maxRecDepth 100000 in
theorem shape_no (o : Int) (wd : Bool) (r b i c n : Int) (w : World) (h : ¬ (1 ≤ o ∧ o ≤ 23)) :
    Calls Tryd.prog 40 #[xv ⟨o, wd, r, b, i, c, n⟩] w fun e w' => e = .returned (.tuple #[xv ⟨o, wd, 0, 0, 0, 0, 0⟩, .bool false]) ∧ Below w.heap.size w w' := by
  have e1 : (o == 1) = false := beq_eq_false_iff_ne.mpr (by omega)
  have e2 : (o == 2) = false := beq_eq_false_iff_ne.mpr (by omega)
  have e3 : (o == 3) = false := beq_eq_false_iff_ne.mpr (by omega)
  have e4 : (o == 4) = false := beq_eq_false_iff_ne.mpr (by omega)
  have e5 : (o == 5) = false := beq_eq_false_iff_ne.mpr (by omega)
  have e6 : (o == 6) = false := beq_eq_false_iff_ne.mpr (by omega)
  have e7 : (o == 7) = false := beq_eq_false_iff_ne.mpr (by omega)
  have e8 : (o == 8) = false := beq_eq_false_iff_ne.mpr (by omega)
  have e9 : (o == 9) = false := beq_eq_false_iff_ne.mpr (by omega)
  have e10 : (o == 10) = false := beq_eq_false_iff_ne.mpr (by omega)
  have e11 : (o == 11) = false := beq_eq_false_iff_ne.mpr (by omega)
  have e12 : (o == 12) = false := beq_eq_false_iff_ne.mpr (by omega)
  have e13 : (o == 13) = false := beq_eq_false_iff_ne.mpr (by omega)
  have e14 : (o == 14) = false := beq_eq_false_iff_ne.mpr (by omega)
  have e15 : (o == 15) = false := beq_eq_false_iff_ne.mpr (by omega)
  have e16 : (o == 16) = false := beq_eq_false_iff_ne.mpr (by omega)
  have e17 : (o == 17) = false := beq_eq_false_iff_ne.mpr (by omega)
  have e18 : (o == 18) = false := beq_eq_false_iff_ne.mpr (by omega)
  have e19 : (o == 19) = false := beq_eq_false_iff_ne.mpr (by omega)
  have e20 : (o == 20) = false := beq_eq_false_iff_ne.mpr (by omega)
  have e21 : (o == 21) = false := beq_eq_false_iff_ne.mpr (by omega)
  have e22 : (o == 22) = false := beq_eq_false_iff_ne.mpr (by omega)
  have e23 : (o == 23) = false := beq_eq_false_iff_ne.mpr (by omega)
  clear h
  have cs : reg r = false ∨ (reg r = true ∧ reg b = false) ∨ (reg r = true ∧ reg b = true) := by cases reg r <;> cases reg b <;> simp
  rcases cs with hr | ⟨hr, hb⟩ | ⟨hr, hb⟩
  · have HB := Aside0.mk hr
    clear hr
    go_enter Tryd.func40, Tryd.ntmps40
    go_upto_block 1 with (first
      | (go_at_call 58; (with_reducible refine (Plain _ _ _ _ _ _ _ _).mono ?_); rintro e w1 ⟨rfl, rfl⟩)
      | (go_at_call 57; (with_reducible refine (Reg _ _).mono ?_); rw [HB.out]; rintro e w1 ⟨rfl, rfl⟩))
    obtain ⟨W, hW⟩ : ∃ W, (((((w.alloc (xo ⟨o, wd, r, b, i, c, n⟩)).alloc (xo ⟨0, false, 0, 0, 0, 0, 0⟩)).alloc (xo ⟨o, wd, r, b, i, c, n⟩)).alloc (xo ⟨o, wd, 0, 0, 0, 0, 0⟩)).alloc (xo ⟨o, wd, 0, 0, 0, 0, 0⟩)) = W := ⟨_, rfl⟩
    have kX := blk_alloc (blk_alloc (blk_alloc (blk_alloc (blk_new w (xo ⟨o, wd, r, b, i, c, n⟩)) (xo ⟨0, false, 0, 0, 0, 0, 0⟩)) (xo ⟨o, wd, r, b, i, c, n⟩)) (xo ⟨o, wd, 0, 0, 0, 0, 0⟩)) (xo ⟨o, wd, 0, 0, 0, 0, 0⟩)
    have kR := blk_alloc (blk_alloc (blk_alloc (blk_new (w.alloc (xo ⟨o, wd, r, b, i, c, n⟩)) (xo ⟨0, false, 0, 0, 0, 0, 0⟩)) (xo ⟨o, wd, r, b, i, c, n⟩)) (xo ⟨o, wd, 0, 0, 0, 0, 0⟩)) (xo ⟨o, wd, 0, 0, 0, 0, 0⟩)
    have kY := blk_new ((((w.alloc (xo ⟨o, wd, r, b, i, c, n⟩)).alloc (xo ⟨0, false, 0, 0, 0, 0, 0⟩)).alloc (xo ⟨o, wd, r, b, i, c, n⟩)).alloc (xo ⟨o, wd, 0, 0, 0, 0, 0⟩)) (xo ⟨o, wd, 0, 0, 0, 0, 0⟩)
    have kB := below_alloc (below_alloc (below_alloc (below_alloc (below_alloc (Below.refl w.heap.size w) (xo ⟨o, wd, r, b, i, c, n⟩)) (xo ⟨0, false, 0, 0, 0, 0, 0⟩)) (xo ⟨o, wd, r, b, i, c, n⟩)) (xo ⟨o, wd, 0, 0, 0, 0, 0⟩)) (xo ⟨o, wd, 0, 0, 0, 0, 0⟩)
    rw [hW] at kX kR kY kB ⊢
    simp only [World.size_alloc] at kR kY
    clear hW
    obtain ⟨y, hy⟩ : ∃ y, w.heap.size + 1 + 1 + 1 + 1 = y := ⟨_, rfl⟩
    obtain ⟨q, hq⟩ : ∃ q, w.heap.size + 1 = q := ⟨_, rfl⟩
    rw [hy] at kY ⊢
    rw [hq] at kR ⊢
    have hxy : ¬ w.heap.size = y := by omega
    have hyx : ¬ y = w.heap.size := by omega
    have hqy : ¬ q = y := by omega
    have hyq : ¬ y = q := by omega
    have hqx : ¬ q = w.heap.size := by omega
    have hq0 : w.heap.size ≤ q := by omega
    have hy0 : w.heap.size ≤ y := by omega
    clear hy hq
    have HK := Aside0.mk (And.intro kX (And.intro kR (And.intro kY kB)))
    have x0 := blk_cell kX 0
    have x1 := blk_cell kX 1
    have x2 := blk_cell kX 2
    have x3 := blk_cell kX 3
    have x4 := blk_cell kX 4
    have x5 := blk_cell kX 5
    have x6 := blk_cell kX 6
    simp at x0 x1 x2 x3 x4 x5 x6
    clear kX kR kY kB x0 x1 x2 x3 x4 x5 x6
    apply wp_block
    apply mono0 (k := 15)
    · (intro a w h; (repeat (first | refine then_out ?_ | refine block_out (by decide) ?_)); exact block_in (then_in h))
    go_wp2_with fail
    refine ⟨rfl, ?_⟩
    have y0 := blk_cell HK.out.2.2.1 0
    have y1 := blk_cell HK.out.2.2.1 1
    have y2 := blk_cell HK.out.2.2.1 2
    have y3 := blk_cell HK.out.2.2.1 3
    have y4 := blk_cell HK.out.2.2.1 4
    have y5 := blk_cell HK.out.2.2.1 5
    have y6 := blk_cell HK.out.2.2.1 6
    have f0 := blk_frozen HK.out.2.2.1 0
    have f1 := blk_frozen HK.out.2.2.1 1
    have f2 := blk_frozen HK.out.2.2.1 2
    have f3 := blk_frozen HK.out.2.2.1 3
    have f4 := blk_frozen HK.out.2.2.1 4
    have f5 := blk_frozen HK.out.2.2.1 5
    have f6 := blk_frozen HK.out.2.2.1 6
    have x0 := blk_cell HK.out.1 0
    have x1 := blk_cell HK.out.1 1
    have x2 := blk_cell HK.out.1 2
    have x3 := blk_cell HK.out.1 3
    have x4 := blk_cell HK.out.1 4
    have x5 := blk_cell HK.out.1 5
    have x6 := blk_cell HK.out.1 6
    have r0 := blk_cell HK.out.2.1 0
    have r1 := blk_cell HK.out.2.1 1
    have r2 := blk_cell HK.out.2.1 2
    have r3 := blk_cell HK.out.2.1 3
    have r4 := blk_cell HK.out.2.1 4
    have r5 := blk_cell HK.out.2.1 5
    have r6 := blk_cell HK.out.2.1 6
    have g0 := blk_frozen HK.out.2.1 0
    have g1 := blk_frozen HK.out.2.1 1
    have g2 := blk_frozen HK.out.2.1 2
    have g3 := blk_frozen HK.out.2.1 3
    have g4 := blk_frozen HK.out.2.1 4
    have g5 := blk_frozen HK.out.2.1 5
    have g6 := blk_frozen HK.out.2.1 6
    have lx := blk_lt HK.out.1
    have lq := blk_lt HK.out.2.1
    have ly := blk_lt HK.out.2.2.1
    simp at y0 y1 y2 y3 y4 y5 y6 x0 x1 x2 x3 x4 x5 x6 r0 r1 r2 r3 r4 r5 r6
    go_wp2_with fail
    have kF := row7 HK.out.2.1 (.int .i64 o) (.bool wd) (.int .i64 0) (.int .i64 0) (.int .i64 0) (.int .i64 0) (.int .i64 0)
    have kB5 := below7 hq0 HK.out.2.2.2 (.int .i64 o) (.bool wd) (.int .i64 0) (.int .i64 0) (.int .i64 0) (.int .i64 0) (.int .i64 0)
    obtain ⟨W5, hW5⟩ : ∃ W5, (((((((W).setCell ⟨q, 0, none⟩ (.int .i64 o)).setCell ⟨q, 1, none⟩ (.bool wd)).setCell ⟨q, 2, none⟩ (.int .i64 0)).setCell ⟨q, 3, none⟩ (.int .i64 0)).setCell ⟨q, 4, none⟩ (.int .i64 0)).setCell ⟨q, 5, none⟩ (.int .i64 0)).setCell ⟨q, 6, none⟩ (.int .i64 0) = W5 := ⟨_, rfl⟩
    rw [hW5] at kF kB5 ⊢
    clear hW5 y0 y1 y2 y3 y4 y5 y6 f0 f1 f2 f3 f4 f5 f6 x0 x1 x2 x3 x4 x5 x6 r0 r1 r2 r3 r4 r5 r6 g0 g1 g2 g3 g4 g5 g6 lx lq ly
    have z0 := blk_cell kF 0
    have z1 := blk_cell kF 1
    have z2 := blk_cell kF 2
    have z3 := blk_cell kF 3
    have z4 := blk_cell kF 4
    have z5 := blk_cell kF 5
    have z6 := blk_cell kF 6
    simp at z0 z1 z2 z3 z4 z5 z6
    exact bodyPost_ret (v := .tuple #[xv ⟨o, wd, 0, 0, 0, 0, 0⟩, .bool false]) (by simp [results, Tryd.results40, go_sem, z0, z1, z2, z3, z4, z5, z6]) rfl ⟨rfl, kB5⟩
  · have HB := Aside0.mk (And.intro hr hb)
    clear hr hb
    go_enter Tryd.func40, Tryd.ntmps40
    go_upto_block 1 with (first
      | (go_at_call 58; (with_reducible refine (Plain _ _ _ _ _ _ _ _).mono ?_); rintro e w1 ⟨rfl, rfl⟩)
      | (go_at_call 57; (with_reducible refine (Reg r _).mono ?_); rw [HB.out.1]; rintro e w1 ⟨rfl, rfl⟩)
      | (go_at_call 57; (with_reducible refine (Reg b _).mono ?_); rw [HB.out.2]; rintro e w1 ⟨rfl, rfl⟩))
    obtain ⟨W, hW⟩ : ∃ W, (((((w.alloc (xo ⟨o, wd, r, b, i, c, n⟩)).alloc (xo ⟨0, false, 0, 0, 0, 0, 0⟩)).alloc (xo ⟨o, wd, r, b, i, c, n⟩)).alloc (xo ⟨o, wd, 0, 0, 0, 0, 0⟩)).alloc (xo ⟨o, wd, 0, 0, 0, 0, 0⟩)) = W := ⟨_, rfl⟩
    have kX := blk_alloc (blk_alloc (blk_alloc (blk_alloc (blk_new w (xo ⟨o, wd, r, b, i, c, n⟩)) (xo ⟨0, false, 0, 0, 0, 0, 0⟩)) (xo ⟨o, wd, r, b, i, c, n⟩)) (xo ⟨o, wd, 0, 0, 0, 0, 0⟩)) (xo ⟨o, wd, 0, 0, 0, 0, 0⟩)
    have kR := blk_alloc (blk_alloc (blk_alloc (blk_new (w.alloc (xo ⟨o, wd, r, b, i, c, n⟩)) (xo ⟨0, false, 0, 0, 0, 0, 0⟩)) (xo ⟨o, wd, r, b, i, c, n⟩)) (xo ⟨o, wd, 0, 0, 0, 0, 0⟩)) (xo ⟨o, wd, 0, 0, 0, 0, 0⟩)
    have kY := blk_new ((((w.alloc (xo ⟨o, wd, r, b, i, c, n⟩)).alloc (xo ⟨0, false, 0, 0, 0, 0, 0⟩)).alloc (xo ⟨o, wd, r, b, i, c, n⟩)).alloc (xo ⟨o, wd, 0, 0, 0, 0, 0⟩)) (xo ⟨o, wd, 0, 0, 0, 0, 0⟩)
    have kB := below_alloc (below_alloc (below_alloc (below_alloc (below_alloc (Below.refl w.heap.size w) (xo ⟨o, wd, r, b, i, c, n⟩)) (xo ⟨0, false, 0, 0, 0, 0, 0⟩)) (xo ⟨o, wd, r, b, i, c, n⟩)) (xo ⟨o, wd, 0, 0, 0, 0, 0⟩)) (xo ⟨o, wd, 0, 0, 0, 0, 0⟩)
    rw [hW] at kX kR kY kB ⊢
    simp only [World.size_alloc] at kR kY
    clear hW
    obtain ⟨y, hy⟩ : ∃ y, w.heap.size + 1 + 1 + 1 + 1 = y := ⟨_, rfl⟩
    obtain ⟨q, hq⟩ : ∃ q, w.heap.size + 1 = q := ⟨_, rfl⟩
    rw [hy] at kY ⊢
    rw [hq] at kR ⊢
    have hxy : ¬ w.heap.size = y := by omega
    have hyx : ¬ y = w.heap.size := by omega
    have hqy : ¬ q = y := by omega
    have hyq : ¬ y = q := by omega
    have hqx : ¬ q = w.heap.size := by omega
    have hq0 : w.heap.size ≤ q := by omega
    have hy0 : w.heap.size ≤ y := by omega
    clear hy hq
    have HK := Aside0.mk (And.intro kX (And.intro kR (And.intro kY kB)))
    have x0 := blk_cell kX 0
    have x1 := blk_cell kX 1
    have x2 := blk_cell kX 2
    have x3 := blk_cell kX 3
    have x4 := blk_cell kX 4
    have x5 := blk_cell kX 5
    have x6 := blk_cell kX 6
    simp at x0 x1 x2 x3 x4 x5 x6
    clear kX kR kY kB x0 x1 x2 x3 x4 x5 x6
    apply wp_block
    apply mono0 (k := 15)
    · (intro a w h; (repeat (first | refine then_out ?_ | refine block_out (by decide) ?_)); exact block_in (then_in h))
    go_wp2_with fail
    refine ⟨rfl, ?_⟩
    have y0 := blk_cell HK.out.2.2.1 0
    have y1 := blk_cell HK.out.2.2.1 1
    have y2 := blk_cell HK.out.2.2.1 2
    have y3 := blk_cell HK.out.2.2.1 3
    have y4 := blk_cell HK.out.2.2.1 4
    have y5 := blk_cell HK.out.2.2.1 5
    have y6 := blk_cell HK.out.2.2.1 6
    have f0 := blk_frozen HK.out.2.2.1 0
    have f1 := blk_frozen HK.out.2.2.1 1
    have f2 := blk_frozen HK.out.2.2.1 2
    have f3 := blk_frozen HK.out.2.2.1 3
    have f4 := blk_frozen HK.out.2.2.1 4
    have f5 := blk_frozen HK.out.2.2.1 5
    have f6 := blk_frozen HK.out.2.2.1 6
    have x0 := blk_cell HK.out.1 0
    have x1 := blk_cell HK.out.1 1
    have x2 := blk_cell HK.out.1 2
    have x3 := blk_cell HK.out.1 3
    have x4 := blk_cell HK.out.1 4
    have x5 := blk_cell HK.out.1 5
    have x6 := blk_cell HK.out.1 6
    have r0 := blk_cell HK.out.2.1 0
    have r1 := blk_cell HK.out.2.1 1
    have r2 := blk_cell HK.out.2.1 2
    have r3 := blk_cell HK.out.2.1 3
    have r4 := blk_cell HK.out.2.1 4
    have r5 := blk_cell HK.out.2.1 5
    have r6 := blk_cell HK.out.2.1 6
    have g0 := blk_frozen HK.out.2.1 0
    have g1 := blk_frozen HK.out.2.1 1
    have g2 := blk_frozen HK.out.2.1 2
    have g3 := blk_frozen HK.out.2.1 3
    have g4 := blk_frozen HK.out.2.1 4
    have g5 := blk_frozen HK.out.2.1 5
    have g6 := blk_frozen HK.out.2.1 6
    have lx := blk_lt HK.out.1
    have lq := blk_lt HK.out.2.1
    have ly := blk_lt HK.out.2.2.1
    simp at y0 y1 y2 y3 y4 y5 y6 x0 x1 x2 x3 x4 x5 x6 r0 r1 r2 r3 r4 r5 r6
    go_wp2_with fail
    have kF := row7 HK.out.2.1 (.int .i64 o) (.bool wd) (.int .i64 0) (.int .i64 0) (.int .i64 0) (.int .i64 0) (.int .i64 0)
    have kB5 := below7 hq0 HK.out.2.2.2 (.int .i64 o) (.bool wd) (.int .i64 0) (.int .i64 0) (.int .i64 0) (.int .i64 0) (.int .i64 0)
    obtain ⟨W5, hW5⟩ : ∃ W5, (((((((W).setCell ⟨q, 0, none⟩ (.int .i64 o)).setCell ⟨q, 1, none⟩ (.bool wd)).setCell ⟨q, 2, none⟩ (.int .i64 0)).setCell ⟨q, 3, none⟩ (.int .i64 0)).setCell ⟨q, 4, none⟩ (.int .i64 0)).setCell ⟨q, 5, none⟩ (.int .i64 0)).setCell ⟨q, 6, none⟩ (.int .i64 0) = W5 := ⟨_, rfl⟩
    rw [hW5] at kF kB5 ⊢
    clear hW5 y0 y1 y2 y3 y4 y5 y6 f0 f1 f2 f3 f4 f5 f6 x0 x1 x2 x3 x4 x5 x6 r0 r1 r2 r3 r4 r5 r6 g0 g1 g2 g3 g4 g5 g6 lx lq ly
    have z0 := blk_cell kF 0
    have z1 := blk_cell kF 1
    have z2 := blk_cell kF 2
    have z3 := blk_cell kF 3
    have z4 := blk_cell kF 4
    have z5 := blk_cell kF 5
    have z6 := blk_cell kF 6
    simp at z0 z1 z2 z3 z4 z5 z6
    exact bodyPost_ret (v := .tuple #[xv ⟨o, wd, 0, 0, 0, 0, 0⟩, .bool false]) (by simp [results, Tryd.results40, go_sem, z0, z1, z2, z3, z4, z5, z6]) rfl ⟨rfl, kB5⟩
  · have HB := Aside0.mk (And.intro hr hb)
    clear hr hb
    go_enter Tryd.func40, Tryd.ntmps40
    go_upto_block 1 with (first
      | (go_at_call 58; (with_reducible refine (Plain _ _ _ _ _ _ _ _).mono ?_); rintro e w1 ⟨rfl, rfl⟩)
      | (go_at_call 57; (with_reducible refine (Reg r _).mono ?_); rw [HB.out.1]; rintro e w1 ⟨rfl, rfl⟩)
      | (go_at_call 57; (with_reducible refine (Reg b _).mono ?_); rw [HB.out.2]; rintro e w1 ⟨rfl, rfl⟩))
    obtain ⟨W, hW⟩ : ∃ W, (((((w.alloc (xo ⟨o, wd, r, b, i, c, n⟩)).alloc (xo ⟨0, false, 0, 0, 0, 0, 0⟩)).alloc (xo ⟨o, wd, r, b, i, c, n⟩)).alloc (xo ⟨o, wd, 0, 0, 0, 0, 0⟩)).alloc (xo ⟨o, wd, 0, 0, 0, 0, 0⟩)) = W := ⟨_, rfl⟩
    have kX := blk_alloc (blk_alloc (blk_alloc (blk_alloc (blk_new w (xo ⟨o, wd, r, b, i, c, n⟩)) (xo ⟨0, false, 0, 0, 0, 0, 0⟩)) (xo ⟨o, wd, r, b, i, c, n⟩)) (xo ⟨o, wd, 0, 0, 0, 0, 0⟩)) (xo ⟨o, wd, 0, 0, 0, 0, 0⟩)
    have kR := blk_alloc (blk_alloc (blk_alloc (blk_new (w.alloc (xo ⟨o, wd, r, b, i, c, n⟩)) (xo ⟨0, false, 0, 0, 0, 0, 0⟩)) (xo ⟨o, wd, r, b, i, c, n⟩)) (xo ⟨o, wd, 0, 0, 0, 0, 0⟩)) (xo ⟨o, wd, 0, 0, 0, 0, 0⟩)
    have kY := blk_new ((((w.alloc (xo ⟨o, wd, r, b, i, c, n⟩)).alloc (xo ⟨0, false, 0, 0, 0, 0, 0⟩)).alloc (xo ⟨o, wd, r, b, i, c, n⟩)).alloc (xo ⟨o, wd, 0, 0, 0, 0, 0⟩)) (xo ⟨o, wd, 0, 0, 0, 0, 0⟩)
    have kB := below_alloc (below_alloc (below_alloc (below_alloc (below_alloc (Below.refl w.heap.size w) (xo ⟨o, wd, r, b, i, c, n⟩)) (xo ⟨0, false, 0, 0, 0, 0, 0⟩)) (xo ⟨o, wd, r, b, i, c, n⟩)) (xo ⟨o, wd, 0, 0, 0, 0, 0⟩)) (xo ⟨o, wd, 0, 0, 0, 0, 0⟩)
    rw [hW] at kX kR kY kB ⊢
    simp only [World.size_alloc] at kR kY
    clear hW
    obtain ⟨y, hy⟩ : ∃ y, w.heap.size + 1 + 1 + 1 + 1 = y := ⟨_, rfl⟩
    obtain ⟨q, hq⟩ : ∃ q, w.heap.size + 1 = q := ⟨_, rfl⟩
    rw [hy] at kY ⊢
    rw [hq] at kR ⊢
    have hxy : ¬ w.heap.size = y := by omega
    have hyx : ¬ y = w.heap.size := by omega
    have hqy : ¬ q = y := by omega
    have hyq : ¬ y = q := by omega
    have hqx : ¬ q = w.heap.size := by omega
    have hq0 : w.heap.size ≤ q := by omega
    have hy0 : w.heap.size ≤ y := by omega
    clear hy hq
    have HK := Aside0.mk (And.intro kX (And.intro kR (And.intro kY kB)))
    have x0 := blk_cell kX 0
    have x1 := blk_cell kX 1
    have x2 := blk_cell kX 2
    have x3 := blk_cell kX 3
    have x4 := blk_cell kX 4
    have x5 := blk_cell kX 5
    have x6 := blk_cell kX 6
    simp at x0 x1 x2 x3 x4 x5 x6
    clear kX kR kY kB x0 x1 x2 x3 x4 x5 x6
    apply wp_block
    apply mono0 (k := 15)
    · (intro a w h; (repeat (first | refine then_out ?_ | refine block_out (by decide) ?_)); exact block_in (then_in h))
    go_wp2_with fail
    refine ⟨rfl, ?_⟩
    have y0 := blk_cell HK.out.2.2.1 0
    have y1 := blk_cell HK.out.2.2.1 1
    have y2 := blk_cell HK.out.2.2.1 2
    have y3 := blk_cell HK.out.2.2.1 3
    have y4 := blk_cell HK.out.2.2.1 4
    have y5 := blk_cell HK.out.2.2.1 5
    have y6 := blk_cell HK.out.2.2.1 6
    have f0 := blk_frozen HK.out.2.2.1 0
    have f1 := blk_frozen HK.out.2.2.1 1
    have f2 := blk_frozen HK.out.2.2.1 2
    have f3 := blk_frozen HK.out.2.2.1 3
    have f4 := blk_frozen HK.out.2.2.1 4
    have f5 := blk_frozen HK.out.2.2.1 5
    have f6 := blk_frozen HK.out.2.2.1 6
    have x0 := blk_cell HK.out.1 0
    have x1 := blk_cell HK.out.1 1
    have x2 := blk_cell HK.out.1 2
    have x3 := blk_cell HK.out.1 3
    have x4 := blk_cell HK.out.1 4
    have x5 := blk_cell HK.out.1 5
    have x6 := blk_cell HK.out.1 6
    have r0 := blk_cell HK.out.2.1 0
    have r1 := blk_cell HK.out.2.1 1
    have r2 := blk_cell HK.out.2.1 2
    have r3 := blk_cell HK.out.2.1 3
    have r4 := blk_cell HK.out.2.1 4
    have r5 := blk_cell HK.out.2.1 5
    have r6 := blk_cell HK.out.2.1 6
    have g0 := blk_frozen HK.out.2.1 0
    have g1 := blk_frozen HK.out.2.1 1
    have g2 := blk_frozen HK.out.2.1 2
    have g3 := blk_frozen HK.out.2.1 3
    have g4 := blk_frozen HK.out.2.1 4
    have g5 := blk_frozen HK.out.2.1 5
    have g6 := blk_frozen HK.out.2.1 6
    have lx := blk_lt HK.out.1
    have lq := blk_lt HK.out.2.1
    have ly := blk_lt HK.out.2.2.1
    simp at y0 y1 y2 y3 y4 y5 y6 x0 x1 x2 x3 x4 x5 x6 r0 r1 r2 r3 r4 r5 r6
    go_wp2_with fail
    have kF := row7 HK.out.2.1 (.int .i64 o) (.bool wd) (.int .i64 0) (.int .i64 0) (.int .i64 0) (.int .i64 0) (.int .i64 0)
    have kB5 := below7 hq0 HK.out.2.2.2 (.int .i64 o) (.bool wd) (.int .i64 0) (.int .i64 0) (.int .i64 0) (.int .i64 0) (.int .i64 0)
    obtain ⟨W5, hW5⟩ : ∃ W5, (((((((W).setCell ⟨q, 0, none⟩ (.int .i64 o)).setCell ⟨q, 1, none⟩ (.bool wd)).setCell ⟨q, 2, none⟩ (.int .i64 0)).setCell ⟨q, 3, none⟩ (.int .i64 0)).setCell ⟨q, 4, none⟩ (.int .i64 0)).setCell ⟨q, 5, none⟩ (.int .i64 0)).setCell ⟨q, 6, none⟩ (.int .i64 0) = W5 := ⟨_, rfl⟩
    rw [hW5] at kF kB5 ⊢
    clear hW5 y0 y1 y2 y3 y4 y5 y6 f0 f1 f2 f3 f4 f5 f6 x0 x1 x2 x3 x4 x5 x6 r0 r1 r2 r3 r4 r5 r6 g0 g1 g2 g3 g4 g5 g6 lx lq ly
    have z0 := blk_cell kF 0
    have z1 := blk_cell kF 1
    have z2 := blk_cell kF 2
    have z3 := blk_cell kF 3
    have z4 := blk_cell kF 4
    have z5 := blk_cell kF 5
    have z6 := blk_cell kF 6
    simp at z0 z1 z2 z3 z4 z5 z6
    exact bodyPost_ret (v := .tuple #[xv ⟨o, wd, 0, 0, 0, 0, 0⟩, .bool false]) (by simp [results, Tryd.results40, go_sem, z0, z1, z2, z3, z4, z5, z6]) rfl ⟨rfl, kB5⟩
end Go.Proofs.YtkfinaongajhmaaDoor.X

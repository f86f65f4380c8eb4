/- What an instruction's fields may be: what the program's function computes, kinds that are none. No condition but that the table of conditions holds what the program's text lays, and that numbers are those of the language. -/
import Derived.Test.YtkfinaongajhmaaDoorXSmall
import Derived.Deep.DeepCutAuto
import Derived.Deep.CutBlock
import Derived.BigRegion
import Derived.Deep.RegionHeld3
namespace Go.Proofs.YtkfinaongajhmaaDoor.X
open Go.Ob Go.Ob.Xc Go.RowKit Go.Proofs.YtkfinaongajhmaaDoorW.PrintWords Go.Proofs.YtkfinaongajhmaaDoorW.PrintMore
attribute [local go_sem] max2_int min2_int max_two min_two
set_option linter.unusedVariables false
set_option linter.unusedSimpArgs false
set_option maxHeartbeats 16000000 in
set_option maxRecDepth 100000 in
theorem shape_no (o : Int) (wd : Bool) (r b i c n : Int) (w : World) (h : ¬ (1 ≤ o ∧ o ≤ 23)) :
    Calls Tryd.prog 40 #[xv ⟨o, wd, r, b, i, c, n⟩] w fun e w' => e = .returned (.tuple #[xv ⟨o, wd, 0, 0, 0, 0, 0⟩, .bool false]) ∧ Below w.heap.size w w' := by
  have e1 : (o == 1) = false := beq_eq_false_iff_ne.mpr (by omega)
  have e2 : (o == 2) = false := beq_eq_false_iff_ne.mpr (by omega)
  have e3 : (o == 3) = false := beq_eq_false_iff_ne.mpr (by omega)
  have e4 : (o == 4) = false := beq_eq_false_iff_ne.mpr (by omega)
  have e5 : (o == 5) = false := beq_eq_false_iff_ne.mpr (by omega)
  have e6 : (o == 6) = false := beq_eq_false_iff_ne.mpr (by omega)
  have e7 : (o == 7) = false := beq_eq_false_iff_ne.mpr (by omega)
  have e8 : (o == 8) = false := beq_eq_false_iff_ne.mpr (by omega)
  have e9 : (o == 9) = false := beq_eq_false_iff_ne.mpr (by omega)
  have e10 : (o == 10) = false := beq_eq_false_iff_ne.mpr (by omega)
  have e11 : (o == 11) = false := beq_eq_false_iff_ne.mpr (by omega)
  have e12 : (o == 12) = false := beq_eq_false_iff_ne.mpr (by omega)
  have e13 : (o == 13) = false := beq_eq_false_iff_ne.mpr (by omega)
  have e14 : (o == 14) = false := beq_eq_false_iff_ne.mpr (by omega)
  have e15 : (o == 15) = false := beq_eq_false_iff_ne.mpr (by omega)
  have e16 : (o == 16) = false := beq_eq_false_iff_ne.mpr (by omega)
  have e17 : (o == 17) = false := beq_eq_false_iff_ne.mpr (by omega)
  have e18 : (o == 18) = false := beq_eq_false_iff_ne.mpr (by omega)
  have e19 : (o == 19) = false := beq_eq_false_iff_ne.mpr (by omega)
  have e20 : (o == 20) = false := beq_eq_false_iff_ne.mpr (by omega)
  have e21 : (o == 21) = false := beq_eq_false_iff_ne.mpr (by omega)
  have e22 : (o == 22) = false := beq_eq_false_iff_ne.mpr (by omega)
  have e23 : (o == 23) = false := beq_eq_false_iff_ne.mpr (by omega)
  clear h
  have cs : reg r = false ∨ (reg r = true ∧ reg b = false) ∨ (reg r = true ∧ reg b = true) := by cases reg r <;> cases reg b <;> simp
  rcases cs with hr | ⟨hr, hb⟩ | ⟨hr, hb⟩
  · have HB := Aside0.mk hr
    clear hr
    go_enter Tryd.func40, Tryd.ntmps40
    go_upto_block 1 with (first
      | (go_at_call 58; (with_reducible refine (Plain _ _ _ _ _ _ _ _).mono ?_); rintro e w1 ⟨rfl, rfl⟩)
      | (go_at_call 57; (with_reducible refine (Reg _ _).mono ?_); rw [HB.out]; rintro e w1 ⟨rfl, rfl⟩))
    obtain ⟨W, y, q, hW, hy, hq, hxy, hyx, hqy, hyq, hqx, hq0, hy0, HK⟩ := open5 w ⟨o, wd, r, b, i, c, n⟩ ⟨0, false, 0, 0, 0, 0, 0⟩ ⟨o, wd, 0, 0, 0, 0, 0⟩
    rw [hW, hy, hq]
    clear hW hy hq
    apply wp_block
    apply mono0 (k := 15)
    · (intro a w h; (repeat (first | refine then_out ?_ | refine block_out (by decide) ?_)); exact block_in (then_in h))
    go_wp2_with fail
    refine ⟨rfl, ?_⟩
    obtain ⟨y0, y1, y2, y3, y4, y5, y6⟩ := cell7 HK.out.2.2.1
    obtain ⟨f0, f1, f2, f3, f4, f5, f6⟩ := froz7 HK.out.2.2.1
    obtain ⟨x0, x1, x2, x3, x4, x5, x6⟩ := cell7 HK.out.1
    obtain ⟨r0, r1, r2, r3, r4, r5, r6⟩ := cell7 HK.out.2.1
    obtain ⟨g0, g1, g2, g3, g4, g5, g6⟩ := froz7 HK.out.2.1
    have lx := blk_lt HK.out.1
    have lq := blk_lt HK.out.2.1
    have ly := blk_lt HK.out.2.2.1
    go_wp2_with fail
    have kF := row7 HK.out.2.1 (.int .i64 o) (.bool wd) (.int .i64 0) (.int .i64 0) (.int .i64 0) (.int .i64 0) (.int .i64 0)
    have kB5 := below7 hq0 HK.out.2.2.2 (.int .i64 o) (.bool wd) (.int .i64 0) (.int .i64 0) (.int .i64 0) (.int .i64 0) (.int .i64 0)
    obtain ⟨W5, hW5⟩ : ∃ W5, (((((((W).setCell ⟨q, 0, none⟩ (.int .i64 o)).setCell ⟨q, 1, none⟩ (.bool wd)).setCell ⟨q, 2, none⟩ (.int .i64 0)).setCell ⟨q, 3, none⟩ (.int .i64 0)).setCell ⟨q, 4, none⟩ (.int .i64 0)).setCell ⟨q, 5, none⟩ (.int .i64 0)).setCell ⟨q, 6, none⟩ (.int .i64 0) = W5 := ⟨_, rfl⟩
    rw [hW5] at kF kB5 ⊢
    clear hW5 y0 y1 y2 y3 y4 y5 y6 f0 f1 f2 f3 f4 f5 f6 x0 x1 x2 x3 x4 x5 x6 r0 r1 r2 r3 r4 r5 r6 g0 g1 g2 g3 g4 g5 g6 lx lq ly
    obtain ⟨z0, z1, z2, z3, z4, z5, z6⟩ := cell7 kF
    exact bodyPost_ret (v := .tuple #[xv ⟨o, wd, 0, 0, 0, 0, 0⟩, .bool false]) (by simp [results, Tryd.results40, go_sem, z0, z1, z2, z3, z4, z5, z6]) rfl ⟨rfl, kB5⟩
  · have HB := Aside0.mk (And.intro hr hb)
    clear hr hb
    go_enter Tryd.func40, Tryd.ntmps40
    go_upto_block 1 with (first
      | (go_at_call 58; (with_reducible refine (Plain _ _ _ _ _ _ _ _).mono ?_); rintro e w1 ⟨rfl, rfl⟩)
      | (go_at_call 57; (with_reducible refine (Reg r _).mono ?_); rw [HB.out.1]; rintro e w1 ⟨rfl, rfl⟩)
      | (go_at_call 57; (with_reducible refine (Reg b _).mono ?_); rw [HB.out.2]; rintro e w1 ⟨rfl, rfl⟩))
    obtain ⟨W, y, q, hW, hy, hq, hxy, hyx, hqy, hyq, hqx, hq0, hy0, HK⟩ := open5 w ⟨o, wd, r, b, i, c, n⟩ ⟨0, false, 0, 0, 0, 0, 0⟩ ⟨o, wd, 0, 0, 0, 0, 0⟩
    rw [hW, hy, hq]
    clear hW hy hq
    apply wp_block
    apply mono0 (k := 15)
    · (intro a w h; (repeat (first | refine then_out ?_ | refine block_out (by decide) ?_)); exact block_in (then_in h))
    go_wp2_with fail
    refine ⟨rfl, ?_⟩
    obtain ⟨y0, y1, y2, y3, y4, y5, y6⟩ := cell7 HK.out.2.2.1
    obtain ⟨f0, f1, f2, f3, f4, f5, f6⟩ := froz7 HK.out.2.2.1
    obtain ⟨x0, x1, x2, x3, x4, x5, x6⟩ := cell7 HK.out.1
    obtain ⟨r0, r1, r2, r3, r4, r5, r6⟩ := cell7 HK.out.2.1
    obtain ⟨g0, g1, g2, g3, g4, g5, g6⟩ := froz7 HK.out.2.1
    have lx := blk_lt HK.out.1
    have lq := blk_lt HK.out.2.1
    have ly := blk_lt HK.out.2.2.1
    go_wp2_with fail
    have kF := row7 HK.out.2.1 (.int .i64 o) (.bool wd) (.int .i64 0) (.int .i64 0) (.int .i64 0) (.int .i64 0) (.int .i64 0)
    have kB5 := below7 hq0 HK.out.2.2.2 (.int .i64 o) (.bool wd) (.int .i64 0) (.int .i64 0) (.int .i64 0) (.int .i64 0) (.int .i64 0)
    obtain ⟨W5, hW5⟩ : ∃ W5, (((((((W).setCell ⟨q, 0, none⟩ (.int .i64 o)).setCell ⟨q, 1, none⟩ (.bool wd)).setCell ⟨q, 2, none⟩ (.int .i64 0)).setCell ⟨q, 3, none⟩ (.int .i64 0)).setCell ⟨q, 4, none⟩ (.int .i64 0)).setCell ⟨q, 5, none⟩ (.int .i64 0)).setCell ⟨q, 6, none⟩ (.int .i64 0) = W5 := ⟨_, rfl⟩
    rw [hW5] at kF kB5 ⊢
    clear hW5 y0 y1 y2 y3 y4 y5 y6 f0 f1 f2 f3 f4 f5 f6 x0 x1 x2 x3 x4 x5 x6 r0 r1 r2 r3 r4 r5 r6 g0 g1 g2 g3 g4 g5 g6 lx lq ly
    obtain ⟨z0, z1, z2, z3, z4, z5, z6⟩ := cell7 kF
    exact bodyPost_ret (v := .tuple #[xv ⟨o, wd, 0, 0, 0, 0, 0⟩, .bool false]) (by simp [results, Tryd.results40, go_sem, z0, z1, z2, z3, z4, z5, z6]) rfl ⟨rfl, kB5⟩
  · have HB := Aside0.mk (And.intro hr hb)
    clear hr hb
    go_enter Tryd.func40, Tryd.ntmps40
    go_upto_block 1 with (first
      | (go_at_call 58; (with_reducible refine (Plain _ _ _ _ _ _ _ _).mono ?_); rintro e w1 ⟨rfl, rfl⟩)
      | (go_at_call 57; (with_reducible refine (Reg r _).mono ?_); rw [HB.out.1]; rintro e w1 ⟨rfl, rfl⟩)
      | (go_at_call 57; (with_reducible refine (Reg b _).mono ?_); rw [HB.out.2]; rintro e w1 ⟨rfl, rfl⟩))
    obtain ⟨W, y, q, hW, hy, hq, hxy, hyx, hqy, hyq, hqx, hq0, hy0, HK⟩ := open5 w ⟨o, wd, r, b, i, c, n⟩ ⟨0, false, 0, 0, 0, 0, 0⟩ ⟨o, wd, 0, 0, 0, 0, 0⟩
    rw [hW, hy, hq]
    clear hW hy hq
    apply wp_block
    apply mono0 (k := 15)
    · (intro a w h; (repeat (first | refine then_out ?_ | refine block_out (by decide) ?_)); exact block_in (then_in h))
    go_wp2_with fail
    refine ⟨rfl, ?_⟩
    obtain ⟨y0, y1, y2, y3, y4, y5, y6⟩ := cell7 HK.out.2.2.1
    obtain ⟨f0, f1, f2, f3, f4, f5, f6⟩ := froz7 HK.out.2.2.1
    obtain ⟨x0, x1, x2, x3, x4, x5, x6⟩ := cell7 HK.out.1
    obtain ⟨r0, r1, r2, r3, r4, r5, r6⟩ := cell7 HK.out.2.1
    obtain ⟨g0, g1, g2, g3, g4, g5, g6⟩ := froz7 HK.out.2.1
    have lx := blk_lt HK.out.1
    have lq := blk_lt HK.out.2.1
    have ly := blk_lt HK.out.2.2.1
    go_wp2_with fail
    have kF := row7 HK.out.2.1 (.int .i64 o) (.bool wd) (.int .i64 0) (.int .i64 0) (.int .i64 0) (.int .i64 0) (.int .i64 0)
    have kB5 := below7 hq0 HK.out.2.2.2 (.int .i64 o) (.bool wd) (.int .i64 0) (.int .i64 0) (.int .i64 0) (.int .i64 0) (.int .i64 0)
    obtain ⟨W5, hW5⟩ : ∃ W5, (((((((W).setCell ⟨q, 0, none⟩ (.int .i64 o)).setCell ⟨q, 1, none⟩ (.bool wd)).setCell ⟨q, 2, none⟩ (.int .i64 0)).setCell ⟨q, 3, none⟩ (.int .i64 0)).setCell ⟨q, 4, none⟩ (.int .i64 0)).setCell ⟨q, 5, none⟩ (.int .i64 0)).setCell ⟨q, 6, none⟩ (.int .i64 0) = W5 := ⟨_, rfl⟩
    rw [hW5] at kF kB5 ⊢
    clear hW5 y0 y1 y2 y3 y4 y5 y6 f0 f1 f2 f3 f4 f5 f6 x0 x1 x2 x3 x4 x5 x6 r0 r1 r2 r3 r4 r5 r6 g0 g1 g2 g3 g4 g5 g6 lx lq ly
    obtain ⟨z0, z1, z2, z3, z4, z5, z6⟩ := cell7 kF
    exact bodyPost_ret (v := .tuple #[xv ⟨o, wd, 0, 0, 0, 0, 0⟩, .bool false]) (by simp [results, Tryd.results40, go_sem, z0, z1, z2, z3, z4, z5, z6]) rfl ⟨rfl, kB5⟩
end Go.Proofs.YtkfinaongajhmaaDoor.X

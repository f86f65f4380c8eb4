/- What an instruction's fields may be: what the program's function computes, kinds 16, 2, 8, 9, 21, 22, 23. No condition but that the table of conditions holds what the program's text lays, and that numbers are those of the language. -/
import Derived.Test.YtkfinaongajhmaaDoorXSmall
import Derived.Deep.DeepCutAuto
import Derived.Deep.CutBlock
import Derived.BigRegion
import Derived.Deep.RegionHeld3
namespace Go.Proofs.YtkfinaongajhmaaDoor.X
open Go.Ob Go.Ob.Xc Go.RowKit Go.Proofs.YtkfinaongajhmaaDoorW.PrintWords Go.Proofs.YtkfinaongajhmaaDoorW.PrintMore
attribute [local go_sem] max2_int min2_int max_two min_two
set_option linter.unusedVariables false
set_option linter.unusedSimpArgs false
set_option maxHeartbeats 16000000 in
set_option maxRecDepth 100000 in
theorem shape_16 (wd : Bool) (r b i c n : Int) (w : World) (ht : Tab w) (hn : -9223372036854775808 ≤ n ∧ n ≤ 9223372036854775807) :
    Calls Tryd.prog 40 #[xv ⟨16, wd, r, b, i, c, n⟩] w fun e w' => e = .returned (.tuple #[xv ⟨16, wd, r, b, 0, 0, 0⟩, .bool ((reg r && reg b) && wd)]) ∧ Below w.heap.size w w' := by
  have HT := Aside0.mk (And.intro ht hn)
  clear ht hn
  have cs : reg r = false ∨ (reg r = true ∧ reg b = false) ∨ (reg r = true ∧ reg b = true) := by cases reg r <;> cases reg b <;> simp
  rcases cs with hr | ⟨hr, hb⟩ | ⟨hr, hb⟩
  · have HB := Aside0.mk hr
    clear hr
    go_enter Tryd.func40, Tryd.ntmps40
    go_upto_block 1 with (first
        | (go_at_call 58; (with_reducible refine (Plain _ _ _ _ _ _ _ _).mono ?_); rintro e w1 ⟨rfl, rfl⟩)
        | (go_at_call 57; (with_reducible refine (Reg _ _).mono ?_); rw [HB.out]; rintro e w1 ⟨rfl, rfl⟩))
    obtain ⟨W, y, q, hW, hy, hq, hxy, hyx, hqy, hyq, hqx, hq0, hy0, HK⟩ := open5 w ⟨16, wd, r, b, i, c, n⟩ ⟨0, false, 0, 0, 0, 0, 0⟩ ⟨16, wd, 0, 0, 0, 0, 0⟩
    rw [hW, hy, hq]
    clear hW hy hq
    apply wp_block
    apply mono0 (k := 2)
    · (intro a w h; (repeat (first | refine then_out ?_ | refine block_out (by decide) ?_)); exact block_in (then_in h))
    go_wp2_with fail
    refine ⟨rfl, ?_⟩
    go_step
    apply mono0 (k := 0)
    · (intro a w h; (repeat (first | refine then_out ?_ | refine block_out (by decide) ?_)); exact block_in (then_in h))
    obtain ⟨y0, y1, y2, y3, y4, y5, y6⟩ := cell7 HK.out.2.2.1
    obtain ⟨f0, f1, f2, f3, f4, f5, f6⟩ := froz7 HK.out.2.2.1
    obtain ⟨x0, x1, x2, x3, x4, x5, x6⟩ := cell7 HK.out.1
    obtain ⟨r0, r1, r2, r3, r4, r5, r6⟩ := cell7 HK.out.2.1
    obtain ⟨g0, g1, g2, g3, g4, g5, g6⟩ := froz7 HK.out.2.1
    have lx := blk_lt HK.out.1
    have lq := blk_lt HK.out.2.1
    have ly := blk_lt HK.out.2.2.1
    go_wp2_with fail
    go_region_held3 (fun wr => wr.cell? ⟨w.heap.size, 2, none⟩ = some (.int .i64 r) ∧ wr.cell? ⟨w.heap.size, 3, none⟩ = some (.int .i64 b)) (go_keep) (fail)
    clear y0 y1 y2 y3 y4 y5 y6 f0 f1 f2 f3 f4 f5 f6 x0 x1 x2 x3 x4 x5 x6 r0 r1 r2 r3 r4 r5 r6 g0 g1 g2 g3 g4 g5 g6 lx lq ly
    obtain ⟨W21, hW⟩ : ∃ W2, (((W).setCell ⟨y, 2, none⟩ (.int .i64 r)).setCell ⟨y, 3, none⟩ (.int .i64 b)).drew = W2 := ⟨_, rfl⟩
    have kX := blk_drew (blk_far (blk_far HK.out.1 (p := ⟨y, 2, none⟩) hxy (.int .i64 r)) (p := ⟨y, 3, none⟩) hxy (.int .i64 b))
    have kR := blk_drew (blk_far (blk_far HK.out.2.1 (p := ⟨y, 2, none⟩) hqy (.int .i64 r)) (p := ⟨y, 3, none⟩) hqy (.int .i64 b))
    have kY := blk_drew (blk_put (blk_put HK.out.2.2.1 2 (.int .i64 r) #[.int .i64 16, .bool wd, .int .i64 r, .int .i64 0, .int .i64 0, .int .i64 0, .int .i64 0] rfl) 3 (.int .i64 b) #[.int .i64 16, .bool wd, .int .i64 r, .int .i64 b, .int .i64 0, .int .i64 0, .int .i64 0] rfl)
    have kB := below_drew (Below.setCell (Below.setCell HK.out.2.2.2 (p := ⟨y, 2, none⟩) hy0 (.int .i64 r)) (p := ⟨y, 3, none⟩) hy0 (.int .i64 b))
    rw [hW] at kX kR kY kB ⊢
    have HK21 := Aside0.mk (And.intro kX (And.intro kR (And.intro kY kB)))
    clear hW kX kR kY kB
    obtain ⟨y0, y1, y2, y3, y4, y5, y6⟩ := cell7 HK21.out.2.2.1
    obtain ⟨f0, f1, f2, f3, f4, f5, f6⟩ := froz7 HK21.out.2.2.1
    obtain ⟨x0, x1, x2, x3, x4, x5, x6⟩ := cell7 HK21.out.1
    obtain ⟨r0, r1, r2, r3, r4, r5, r6⟩ := cell7 HK21.out.2.1
    obtain ⟨g0, g1, g2, g3, g4, g5, g6⟩ := froz7 HK21.out.2.1
    have lx := blk_lt HK21.out.1
    have lq := blk_lt HK21.out.2.1
    have ly := blk_lt HK21.out.2.2.1
    go_wp2_with fail
    refine ⟨rfl, ?_⟩
    go_wp2_with fail
    have kF := row7 HK21.out.2.1 (.int .i64 16) (.bool wd) (.int .i64 r) (.int .i64 b) (.int .i64 0) (.int .i64 0) (.int .i64 0)
    have kB5 := below7 hq0 HK21.out.2.2.2 (.int .i64 16) (.bool wd) (.int .i64 r) (.int .i64 b) (.int .i64 0) (.int .i64 0) (.int .i64 0)
    obtain ⟨W5, hW5⟩ : ∃ W5, (((((((W21).setCell ⟨q, 0, none⟩ (.int .i64 16)).setCell ⟨q, 1, none⟩ (.bool wd)).setCell ⟨q, 2, none⟩ (.int .i64 r)).setCell ⟨q, 3, none⟩ (.int .i64 b)).setCell ⟨q, 4, none⟩ (.int .i64 0)).setCell ⟨q, 5, none⟩ (.int .i64 0)).setCell ⟨q, 6, none⟩ (.int .i64 0) = W5 := ⟨_, rfl⟩
    rw [hW5] at kF kB5 ⊢
    clear hW5 y0 y1 y2 y3 y4 y5 y6 f0 f1 f2 f3 f4 f5 f6 x0 x1 x2 x3 x4 x5 x6 r0 r1 r2 r3 r4 r5 r6 g0 g1 g2 g3 g4 g5 g6 lx lq ly
    obtain ⟨z0, z1, z2, z3, z4, z5, z6⟩ := cell7 kF
    exact bodyPost_ret (v := .tuple #[xv ⟨16, wd, r, b, 0, 0, 0⟩, .bool false]) (by simp [results, Tryd.results40, go_sem, z0, z1, z2, z3, z4, z5, z6]) rfl ⟨by simp only [HB.out, Bool.false_and] <;> first | rfl | simp, kB5⟩
  · have HB := Aside0.mk (And.intro hr hb)
    clear hr hb
    go_enter Tryd.func40, Tryd.ntmps40
    go_upto_block 1 with (first
        | (go_at_call 58; (with_reducible refine (Plain _ _ _ _ _ _ _ _).mono ?_); rintro e w1 ⟨rfl, rfl⟩)
        | (go_at_call 57; (with_reducible refine (Reg r _).mono ?_); rw [HB.out.1]; rintro e w1 ⟨rfl, rfl⟩)
        | (go_at_call 57; (with_reducible refine (Reg b _).mono ?_); rw [HB.out.2]; rintro e w1 ⟨rfl, rfl⟩))
    obtain ⟨W, y, q, hW, hy, hq, hxy, hyx, hqy, hyq, hqx, hq0, hy0, HK⟩ := open5 w ⟨16, wd, r, b, i, c, n⟩ ⟨0, false, 0, 0, 0, 0, 0⟩ ⟨16, wd, 0, 0, 0, 0, 0⟩
    rw [hW, hy, hq]
    clear hW hy hq
    apply wp_block
    apply mono0 (k := 2)
    · (intro a w h; (repeat (first | refine then_out ?_ | refine block_out (by decide) ?_)); exact block_in (then_in h))
    go_wp2_with fail
    refine ⟨rfl, ?_⟩
    go_step
    apply mono0 (k := 0)
    · (intro a w h; (repeat (first | refine then_out ?_ | refine block_out (by decide) ?_)); exact block_in (then_in h))
    obtain ⟨y0, y1, y2, y3, y4, y5, y6⟩ := cell7 HK.out.2.2.1
    obtain ⟨f0, f1, f2, f3, f4, f5, f6⟩ := froz7 HK.out.2.2.1
    obtain ⟨x0, x1, x2, x3, x4, x5, x6⟩ := cell7 HK.out.1
    obtain ⟨r0, r1, r2, r3, r4, r5, r6⟩ := cell7 HK.out.2.1
    obtain ⟨g0, g1, g2, g3, g4, g5, g6⟩ := froz7 HK.out.2.1
    have lx := blk_lt HK.out.1
    have lq := blk_lt HK.out.2.1
    have ly := blk_lt HK.out.2.2.1
    go_wp2_with fail
    go_region_held3 (fun wr => wr.cell? ⟨w.heap.size, 2, none⟩ = some (.int .i64 r) ∧ wr.cell? ⟨w.heap.size, 3, none⟩ = some (.int .i64 b)) (go_keep) (fail)
    clear y0 y1 y2 y3 y4 y5 y6 f0 f1 f2 f3 f4 f5 f6 x0 x1 x2 x3 x4 x5 x6 r0 r1 r2 r3 r4 r5 r6 g0 g1 g2 g3 g4 g5 g6 lx lq ly
    obtain ⟨W22, hW⟩ : ∃ W2, (((W).setCell ⟨y, 2, none⟩ (.int .i64 r)).setCell ⟨y, 3, none⟩ (.int .i64 b)).drew = W2 := ⟨_, rfl⟩
    have kX := blk_drew (blk_far (blk_far HK.out.1 (p := ⟨y, 2, none⟩) hxy (.int .i64 r)) (p := ⟨y, 3, none⟩) hxy (.int .i64 b))
    have kR := blk_drew (blk_far (blk_far HK.out.2.1 (p := ⟨y, 2, none⟩) hqy (.int .i64 r)) (p := ⟨y, 3, none⟩) hqy (.int .i64 b))
    have kY := blk_drew (blk_put (blk_put HK.out.2.2.1 2 (.int .i64 r) #[.int .i64 16, .bool wd, .int .i64 r, .int .i64 0, .int .i64 0, .int .i64 0, .int .i64 0] rfl) 3 (.int .i64 b) #[.int .i64 16, .bool wd, .int .i64 r, .int .i64 b, .int .i64 0, .int .i64 0, .int .i64 0] rfl)
    have kB := below_drew (Below.setCell (Below.setCell HK.out.2.2.2 (p := ⟨y, 2, none⟩) hy0 (.int .i64 r)) (p := ⟨y, 3, none⟩) hy0 (.int .i64 b))
    rw [hW] at kX kR kY kB ⊢
    have HK22 := Aside0.mk (And.intro kX (And.intro kR (And.intro kY kB)))
    clear hW kX kR kY kB
    obtain ⟨y0, y1, y2, y3, y4, y5, y6⟩ := cell7 HK22.out.2.2.1
    obtain ⟨f0, f1, f2, f3, f4, f5, f6⟩ := froz7 HK22.out.2.2.1
    obtain ⟨x0, x1, x2, x3, x4, x5, x6⟩ := cell7 HK22.out.1
    obtain ⟨r0, r1, r2, r3, r4, r5, r6⟩ := cell7 HK22.out.2.1
    obtain ⟨g0, g1, g2, g3, g4, g5, g6⟩ := froz7 HK22.out.2.1
    have lx := blk_lt HK22.out.1
    have lq := blk_lt HK22.out.2.1
    have ly := blk_lt HK22.out.2.2.1
    go_wp2_with fail
    refine ⟨rfl, ?_⟩
    go_wp2_with fail
    have kF := row7 HK22.out.2.1 (.int .i64 16) (.bool wd) (.int .i64 r) (.int .i64 b) (.int .i64 0) (.int .i64 0) (.int .i64 0)
    have kB5 := below7 hq0 HK22.out.2.2.2 (.int .i64 16) (.bool wd) (.int .i64 r) (.int .i64 b) (.int .i64 0) (.int .i64 0) (.int .i64 0)
    obtain ⟨W5, hW5⟩ : ∃ W5, (((((((W22).setCell ⟨q, 0, none⟩ (.int .i64 16)).setCell ⟨q, 1, none⟩ (.bool wd)).setCell ⟨q, 2, none⟩ (.int .i64 r)).setCell ⟨q, 3, none⟩ (.int .i64 b)).setCell ⟨q, 4, none⟩ (.int .i64 0)).setCell ⟨q, 5, none⟩ (.int .i64 0)).setCell ⟨q, 6, none⟩ (.int .i64 0) = W5 := ⟨_, rfl⟩
    rw [hW5] at kF kB5 ⊢
    clear hW5 y0 y1 y2 y3 y4 y5 y6 f0 f1 f2 f3 f4 f5 f6 x0 x1 x2 x3 x4 x5 x6 r0 r1 r2 r3 r4 r5 r6 g0 g1 g2 g3 g4 g5 g6 lx lq ly
    obtain ⟨z0, z1, z2, z3, z4, z5, z6⟩ := cell7 kF
    exact bodyPost_ret (v := .tuple #[xv ⟨16, wd, r, b, 0, 0, 0⟩, .bool false]) (by simp [results, Tryd.results40, go_sem, z0, z1, z2, z3, z4, z5, z6]) rfl ⟨by simp only [HB.out.1, HB.out.2, Bool.true_and] <;> first | rfl | simp, kB5⟩
  · have HB := Aside0.mk (And.intro hr hb)
    clear hr hb
    go_enter Tryd.func40, Tryd.ntmps40
    go_upto_block 1 with (first
        | (go_at_call 58; (with_reducible refine (Plain _ _ _ _ _ _ _ _).mono ?_); rintro e w1 ⟨rfl, rfl⟩)
        | (go_at_call 57; (with_reducible refine (Reg r _).mono ?_); rw [HB.out.1]; rintro e w1 ⟨rfl, rfl⟩)
        | (go_at_call 57; (with_reducible refine (Reg b _).mono ?_); rw [HB.out.2]; rintro e w1 ⟨rfl, rfl⟩))
    obtain ⟨W, y, q, hW, hy, hq, hxy, hyx, hqy, hyq, hqx, hq0, hy0, HK⟩ := open5 w ⟨16, wd, r, b, i, c, n⟩ ⟨0, false, 0, 0, 0, 0, 0⟩ ⟨16, wd, 0, 0, 0, 0, 0⟩
    rw [hW, hy, hq]
    clear hW hy hq
    apply wp_block
    apply mono0 (k := 2)
    · (intro a w h; (repeat (first | refine then_out ?_ | refine block_out (by decide) ?_)); exact block_in (then_in h))
    go_wp2_with fail
    refine ⟨rfl, ?_⟩
    go_step
    apply mono0 (k := 0)
    · (intro a w h; (repeat (first | refine then_out ?_ | refine block_out (by decide) ?_)); exact block_in (then_in h))
    obtain ⟨y0, y1, y2, y3, y4, y5, y6⟩ := cell7 HK.out.2.2.1
    obtain ⟨f0, f1, f2, f3, f4, f5, f6⟩ := froz7 HK.out.2.2.1
    obtain ⟨x0, x1, x2, x3, x4, x5, x6⟩ := cell7 HK.out.1
    obtain ⟨r0, r1, r2, r3, r4, r5, r6⟩ := cell7 HK.out.2.1
    obtain ⟨g0, g1, g2, g3, g4, g5, g6⟩ := froz7 HK.out.2.1
    have lx := blk_lt HK.out.1
    have lq := blk_lt HK.out.2.1
    have ly := blk_lt HK.out.2.2.1
    go_wp2_with fail
    go_region_held3 (fun wr => wr.cell? ⟨w.heap.size, 2, none⟩ = some (.int .i64 r) ∧ wr.cell? ⟨w.heap.size, 3, none⟩ = some (.int .i64 b)) (go_keep) (fail)
    clear y0 y1 y2 y3 y4 y5 y6 f0 f1 f2 f3 f4 f5 f6 x0 x1 x2 x3 x4 x5 x6 r0 r1 r2 r3 r4 r5 r6 g0 g1 g2 g3 g4 g5 g6 lx lq ly
    obtain ⟨W23, hW⟩ : ∃ W2, (((W).setCell ⟨y, 2, none⟩ (.int .i64 r)).setCell ⟨y, 3, none⟩ (.int .i64 b)).drew = W2 := ⟨_, rfl⟩
    have kX := blk_drew (blk_far (blk_far HK.out.1 (p := ⟨y, 2, none⟩) hxy (.int .i64 r)) (p := ⟨y, 3, none⟩) hxy (.int .i64 b))
    have kR := blk_drew (blk_far (blk_far HK.out.2.1 (p := ⟨y, 2, none⟩) hqy (.int .i64 r)) (p := ⟨y, 3, none⟩) hqy (.int .i64 b))
    have kY := blk_drew (blk_put (blk_put HK.out.2.2.1 2 (.int .i64 r) #[.int .i64 16, .bool wd, .int .i64 r, .int .i64 0, .int .i64 0, .int .i64 0, .int .i64 0] rfl) 3 (.int .i64 b) #[.int .i64 16, .bool wd, .int .i64 r, .int .i64 b, .int .i64 0, .int .i64 0, .int .i64 0] rfl)
    have kB := below_drew (Below.setCell (Below.setCell HK.out.2.2.2 (p := ⟨y, 2, none⟩) hy0 (.int .i64 r)) (p := ⟨y, 3, none⟩) hy0 (.int .i64 b))
    rw [hW] at kX kR kY kB ⊢
    have HK23 := Aside0.mk (And.intro kX (And.intro kR (And.intro kY kB)))
    clear hW kX kR kY kB
    obtain ⟨y0, y1, y2, y3, y4, y5, y6⟩ := cell7 HK23.out.2.2.1
    obtain ⟨f0, f1, f2, f3, f4, f5, f6⟩ := froz7 HK23.out.2.2.1
    obtain ⟨x0, x1, x2, x3, x4, x5, x6⟩ := cell7 HK23.out.1
    obtain ⟨r0, r1, r2, r3, r4, r5, r6⟩ := cell7 HK23.out.2.1
    obtain ⟨g0, g1, g2, g3, g4, g5, g6⟩ := froz7 HK23.out.2.1
    have lx := blk_lt HK23.out.1
    have lq := blk_lt HK23.out.2.1
    have ly := blk_lt HK23.out.2.2.1
    cases wd with
    | false =>
      go_wp2_with fail
      refine ⟨rfl, ?_⟩
      go_wp2_with fail
      have kF := row7 HK23.out.2.1 (.int .i64 16) (.bool false) (.int .i64 r) (.int .i64 b) (.int .i64 0) (.int .i64 0) (.int .i64 0)
      have kB5 := below7 hq0 HK23.out.2.2.2 (.int .i64 16) (.bool false) (.int .i64 r) (.int .i64 b) (.int .i64 0) (.int .i64 0) (.int .i64 0)
      obtain ⟨W5, hW5⟩ : ∃ W5, (((((((W23).setCell ⟨q, 0, none⟩ (.int .i64 16)).setCell ⟨q, 1, none⟩ (.bool false)).setCell ⟨q, 2, none⟩ (.int .i64 r)).setCell ⟨q, 3, none⟩ (.int .i64 b)).setCell ⟨q, 4, none⟩ (.int .i64 0)).setCell ⟨q, 5, none⟩ (.int .i64 0)).setCell ⟨q, 6, none⟩ (.int .i64 0) = W5 := ⟨_, rfl⟩
      rw [hW5] at kF kB5 ⊢
      clear hW5 y0 y1 y2 y3 y4 y5 y6 f0 f1 f2 f3 f4 f5 f6 x0 x1 x2 x3 x4 x5 x6 r0 r1 r2 r3 r4 r5 r6 g0 g1 g2 g3 g4 g5 g6 lx lq ly
      obtain ⟨z0, z1, z2, z3, z4, z5, z6⟩ := cell7 kF
      exact bodyPost_ret (v := .tuple #[xv ⟨16, false, r, b, 0, 0, 0⟩, .bool false]) (by simp [results, Tryd.results40, go_sem, z0, z1, z2, z3, z4, z5, z6]) rfl ⟨by simp only [HB.out.1, HB.out.2, Bool.true_and] <;> first | rfl | simp, kB5⟩
    | true =>
      go_wp2_with fail
      refine ⟨rfl, ?_⟩
      go_wp2_with fail
      have kF := row7 HK23.out.2.1 (.int .i64 16) (.bool true) (.int .i64 r) (.int .i64 b) (.int .i64 0) (.int .i64 0) (.int .i64 0)
      have kB5 := below7 hq0 HK23.out.2.2.2 (.int .i64 16) (.bool true) (.int .i64 r) (.int .i64 b) (.int .i64 0) (.int .i64 0) (.int .i64 0)
      obtain ⟨W5, hW5⟩ : ∃ W5, (((((((W23).setCell ⟨q, 0, none⟩ (.int .i64 16)).setCell ⟨q, 1, none⟩ (.bool true)).setCell ⟨q, 2, none⟩ (.int .i64 r)).setCell ⟨q, 3, none⟩ (.int .i64 b)).setCell ⟨q, 4, none⟩ (.int .i64 0)).setCell ⟨q, 5, none⟩ (.int .i64 0)).setCell ⟨q, 6, none⟩ (.int .i64 0) = W5 := ⟨_, rfl⟩
      rw [hW5] at kF kB5 ⊢
      clear hW5 y0 y1 y2 y3 y4 y5 y6 f0 f1 f2 f3 f4 f5 f6 x0 x1 x2 x3 x4 x5 x6 r0 r1 r2 r3 r4 r5 r6 g0 g1 g2 g3 g4 g5 g6 lx lq ly
      obtain ⟨z0, z1, z2, z3, z4, z5, z6⟩ := cell7 kF
      exact bodyPost_ret (v := .tuple #[xv ⟨16, true, r, b, 0, 0, 0⟩, .bool true]) (by simp [results, Tryd.results40, go_sem, z0, z1, z2, z3, z4, z5, z6]) rfl ⟨by simp only [HB.out.1, HB.out.2, Bool.true_and] <;> first | rfl | simp, kB5⟩
set_option maxHeartbeats 16000000 in
set_option maxRecDepth 100000 in
theorem shape_2 (wd : Bool) (r b i c n : Int) (w : World) (ht : Tab w) (hn : -9223372036854775808 ≤ n ∧ n ≤ 9223372036854775807) :
    Calls Tryd.prog 40 #[xv ⟨2, wd, r, b, i, c, n⟩] w fun e w' => e = .returned (.tuple #[xv ⟨2, wd, r, 0, 0, 0, n⟩, .bool ((reg r && reg b) && wd)]) ∧ Below w.heap.size w w' := by
  have HT := Aside0.mk (And.intro ht hn)
  clear ht hn
  have cs : reg r = false ∨ (reg r = true ∧ reg b = false) ∨ (reg r = true ∧ reg b = true) := by cases reg r <;> cases reg b <;> simp
  rcases cs with hr | ⟨hr, hb⟩ | ⟨hr, hb⟩
  · have HB := Aside0.mk hr
    clear hr
    go_enter Tryd.func40, Tryd.ntmps40
    go_upto_block 1 with (first
        | (go_at_call 58; (with_reducible refine (Plain _ _ _ _ _ _ _ _).mono ?_); rintro e w1 ⟨rfl, rfl⟩)
        | (go_at_call 57; (with_reducible refine (Reg _ _).mono ?_); rw [HB.out]; rintro e w1 ⟨rfl, rfl⟩))
    obtain ⟨W, y, q, hW, hy, hq, hxy, hyx, hqy, hyq, hqx, hq0, hy0, HK⟩ := open5 w ⟨2, wd, r, b, i, c, n⟩ ⟨0, false, 0, 0, 0, 0, 0⟩ ⟨2, wd, 0, 0, 0, 0, 0⟩
    rw [hW, hy, hq]
    clear hW hy hq
    apply wp_block
    apply mono0 (k := 3)
    · (intro a w h; (repeat (first | refine then_out ?_ | refine block_out (by decide) ?_)); exact block_in (then_in h))
    go_wp2_with fail
    refine ⟨rfl, ?_⟩
    go_step
    apply mono0 (k := 0)
    · (intro a w h; (repeat (first | refine then_out ?_ | refine block_out (by decide) ?_)); exact block_in (then_in h))
    obtain ⟨y0, y1, y2, y3, y4, y5, y6⟩ := cell7 HK.out.2.2.1
    obtain ⟨f0, f1, f2, f3, f4, f5, f6⟩ := froz7 HK.out.2.2.1
    obtain ⟨x0, x1, x2, x3, x4, x5, x6⟩ := cell7 HK.out.1
    obtain ⟨r0, r1, r2, r3, r4, r5, r6⟩ := cell7 HK.out.2.1
    obtain ⟨g0, g1, g2, g3, g4, g5, g6⟩ := froz7 HK.out.2.1
    have lx := blk_lt HK.out.1
    have lq := blk_lt HK.out.2.1
    have ly := blk_lt HK.out.2.2.1
    go_wp2_with fail
    go_region_held3 (fun wr => wr.cell? ⟨w.heap.size, 2, none⟩ = some (.int .i64 r) ∧ wr.cell? ⟨w.heap.size, 6, none⟩ = some (.int .i64 n)) (go_keep) (fail)
    clear y0 y1 y2 y3 y4 y5 y6 f0 f1 f2 f3 f4 f5 f6 x0 x1 x2 x3 x4 x5 x6 r0 r1 r2 r3 r4 r5 r6 g0 g1 g2 g3 g4 g5 g6 lx lq ly
    obtain ⟨W21, hW⟩ : ∃ W2, (((W).setCell ⟨y, 2, none⟩ (.int .i64 r)).setCell ⟨y, 6, none⟩ (.int .i64 n)).drew = W2 := ⟨_, rfl⟩
    have kX := blk_drew (blk_far (blk_far HK.out.1 (p := ⟨y, 2, none⟩) hxy (.int .i64 r)) (p := ⟨y, 6, none⟩) hxy (.int .i64 n))
    have kR := blk_drew (blk_far (blk_far HK.out.2.1 (p := ⟨y, 2, none⟩) hqy (.int .i64 r)) (p := ⟨y, 6, none⟩) hqy (.int .i64 n))
    have kY := blk_drew (blk_put (blk_put HK.out.2.2.1 2 (.int .i64 r) #[.int .i64 2, .bool wd, .int .i64 r, .int .i64 0, .int .i64 0, .int .i64 0, .int .i64 0] rfl) 6 (.int .i64 n) #[.int .i64 2, .bool wd, .int .i64 r, .int .i64 0, .int .i64 0, .int .i64 0, .int .i64 n] rfl)
    have kB := below_drew (Below.setCell (Below.setCell HK.out.2.2.2 (p := ⟨y, 2, none⟩) hy0 (.int .i64 r)) (p := ⟨y, 6, none⟩) hy0 (.int .i64 n))
    rw [hW] at kX kR kY kB ⊢
    have HK21 := Aside0.mk (And.intro kX (And.intro kR (And.intro kY kB)))
    clear hW kX kR kY kB
    obtain ⟨y0, y1, y2, y3, y4, y5, y6⟩ := cell7 HK21.out.2.2.1
    obtain ⟨f0, f1, f2, f3, f4, f5, f6⟩ := froz7 HK21.out.2.2.1
    obtain ⟨x0, x1, x2, x3, x4, x5, x6⟩ := cell7 HK21.out.1
    obtain ⟨r0, r1, r2, r3, r4, r5, r6⟩ := cell7 HK21.out.2.1
    obtain ⟨g0, g1, g2, g3, g4, g5, g6⟩ := froz7 HK21.out.2.1
    have lx := blk_lt HK21.out.1
    have lq := blk_lt HK21.out.2.1
    have ly := blk_lt HK21.out.2.2.1
    go_wp2_with fail
    refine ⟨rfl, ?_⟩
    go_wp2_with fail
    have kF := row7 HK21.out.2.1 (.int .i64 2) (.bool wd) (.int .i64 r) (.int .i64 0) (.int .i64 0) (.int .i64 0) (.int .i64 n)
    have kB5 := below7 hq0 HK21.out.2.2.2 (.int .i64 2) (.bool wd) (.int .i64 r) (.int .i64 0) (.int .i64 0) (.int .i64 0) (.int .i64 n)
    obtain ⟨W5, hW5⟩ : ∃ W5, (((((((W21).setCell ⟨q, 0, none⟩ (.int .i64 2)).setCell ⟨q, 1, none⟩ (.bool wd)).setCell ⟨q, 2, none⟩ (.int .i64 r)).setCell ⟨q, 3, none⟩ (.int .i64 0)).setCell ⟨q, 4, none⟩ (.int .i64 0)).setCell ⟨q, 5, none⟩ (.int .i64 0)).setCell ⟨q, 6, none⟩ (.int .i64 n) = W5 := ⟨_, rfl⟩
    rw [hW5] at kF kB5 ⊢
    clear hW5 y0 y1 y2 y3 y4 y5 y6 f0 f1 f2 f3 f4 f5 f6 x0 x1 x2 x3 x4 x5 x6 r0 r1 r2 r3 r4 r5 r6 g0 g1 g2 g3 g4 g5 g6 lx lq ly
    obtain ⟨z0, z1, z2, z3, z4, z5, z6⟩ := cell7 kF
    exact bodyPost_ret (v := .tuple #[xv ⟨2, wd, r, 0, 0, 0, n⟩, .bool false]) (by simp [results, Tryd.results40, go_sem, z0, z1, z2, z3, z4, z5, z6]) rfl ⟨by simp only [HB.out, Bool.false_and] <;> first | rfl | simp, kB5⟩
  · have HB := Aside0.mk (And.intro hr hb)
    clear hr hb
    go_enter Tryd.func40, Tryd.ntmps40
    go_upto_block 1 with (first
        | (go_at_call 58; (with_reducible refine (Plain _ _ _ _ _ _ _ _).mono ?_); rintro e w1 ⟨rfl, rfl⟩)
        | (go_at_call 57; (with_reducible refine (Reg r _).mono ?_); rw [HB.out.1]; rintro e w1 ⟨rfl, rfl⟩)
        | (go_at_call 57; (with_reducible refine (Reg b _).mono ?_); rw [HB.out.2]; rintro e w1 ⟨rfl, rfl⟩))
    obtain ⟨W, y, q, hW, hy, hq, hxy, hyx, hqy, hyq, hqx, hq0, hy0, HK⟩ := open5 w ⟨2, wd, r, b, i, c, n⟩ ⟨0, false, 0, 0, 0, 0, 0⟩ ⟨2, wd, 0, 0, 0, 0, 0⟩
    rw [hW, hy, hq]
    clear hW hy hq
    apply wp_block
    apply mono0 (k := 3)
    · (intro a w h; (repeat (first | refine then_out ?_ | refine block_out (by decide) ?_)); exact block_in (then_in h))
    go_wp2_with fail
    refine ⟨rfl, ?_⟩
    go_step
    apply mono0 (k := 0)
    · (intro a w h; (repeat (first | refine then_out ?_ | refine block_out (by decide) ?_)); exact block_in (then_in h))
    obtain ⟨y0, y1, y2, y3, y4, y5, y6⟩ := cell7 HK.out.2.2.1
    obtain ⟨f0, f1, f2, f3, f4, f5, f6⟩ := froz7 HK.out.2.2.1
    obtain ⟨x0, x1, x2, x3, x4, x5, x6⟩ := cell7 HK.out.1
    obtain ⟨r0, r1, r2, r3, r4, r5, r6⟩ := cell7 HK.out.2.1
    obtain ⟨g0, g1, g2, g3, g4, g5, g6⟩ := froz7 HK.out.2.1
    have lx := blk_lt HK.out.1
    have lq := blk_lt HK.out.2.1
    have ly := blk_lt HK.out.2.2.1
    go_wp2_with fail
    go_region_held3 (fun wr => wr.cell? ⟨w.heap.size, 2, none⟩ = some (.int .i64 r) ∧ wr.cell? ⟨w.heap.size, 6, none⟩ = some (.int .i64 n)) (go_keep) (fail)
    clear y0 y1 y2 y3 y4 y5 y6 f0 f1 f2 f3 f4 f5 f6 x0 x1 x2 x3 x4 x5 x6 r0 r1 r2 r3 r4 r5 r6 g0 g1 g2 g3 g4 g5 g6 lx lq ly
    obtain ⟨W22, hW⟩ : ∃ W2, (((W).setCell ⟨y, 2, none⟩ (.int .i64 r)).setCell ⟨y, 6, none⟩ (.int .i64 n)).drew = W2 := ⟨_, rfl⟩
    have kX := blk_drew (blk_far (blk_far HK.out.1 (p := ⟨y, 2, none⟩) hxy (.int .i64 r)) (p := ⟨y, 6, none⟩) hxy (.int .i64 n))
    have kR := blk_drew (blk_far (blk_far HK.out.2.1 (p := ⟨y, 2, none⟩) hqy (.int .i64 r)) (p := ⟨y, 6, none⟩) hqy (.int .i64 n))
    have kY := blk_drew (blk_put (blk_put HK.out.2.2.1 2 (.int .i64 r) #[.int .i64 2, .bool wd, .int .i64 r, .int .i64 0, .int .i64 0, .int .i64 0, .int .i64 0] rfl) 6 (.int .i64 n) #[.int .i64 2, .bool wd, .int .i64 r, .int .i64 0, .int .i64 0, .int .i64 0, .int .i64 n] rfl)
    have kB := below_drew (Below.setCell (Below.setCell HK.out.2.2.2 (p := ⟨y, 2, none⟩) hy0 (.int .i64 r)) (p := ⟨y, 6, none⟩) hy0 (.int .i64 n))
    rw [hW] at kX kR kY kB ⊢
    have HK22 := Aside0.mk (And.intro kX (And.intro kR (And.intro kY kB)))
    clear hW kX kR kY kB
    obtain ⟨y0, y1, y2, y3, y4, y5, y6⟩ := cell7 HK22.out.2.2.1
    obtain ⟨f0, f1, f2, f3, f4, f5, f6⟩ := froz7 HK22.out.2.2.1
    obtain ⟨x0, x1, x2, x3, x4, x5, x6⟩ := cell7 HK22.out.1
    obtain ⟨r0, r1, r2, r3, r4, r5, r6⟩ := cell7 HK22.out.2.1
    obtain ⟨g0, g1, g2, g3, g4, g5, g6⟩ := froz7 HK22.out.2.1
    have lx := blk_lt HK22.out.1
    have lq := blk_lt HK22.out.2.1
    have ly := blk_lt HK22.out.2.2.1
    go_wp2_with fail
    refine ⟨rfl, ?_⟩
    go_wp2_with fail
    have kF := row7 HK22.out.2.1 (.int .i64 2) (.bool wd) (.int .i64 r) (.int .i64 0) (.int .i64 0) (.int .i64 0) (.int .i64 n)
    have kB5 := below7 hq0 HK22.out.2.2.2 (.int .i64 2) (.bool wd) (.int .i64 r) (.int .i64 0) (.int .i64 0) (.int .i64 0) (.int .i64 n)
    obtain ⟨W5, hW5⟩ : ∃ W5, (((((((W22).setCell ⟨q, 0, none⟩ (.int .i64 2)).setCell ⟨q, 1, none⟩ (.bool wd)).setCell ⟨q, 2, none⟩ (.int .i64 r)).setCell ⟨q, 3, none⟩ (.int .i64 0)).setCell ⟨q, 4, none⟩ (.int .i64 0)).setCell ⟨q, 5, none⟩ (.int .i64 0)).setCell ⟨q, 6, none⟩ (.int .i64 n) = W5 := ⟨_, rfl⟩
    rw [hW5] at kF kB5 ⊢
    clear hW5 y0 y1 y2 y3 y4 y5 y6 f0 f1 f2 f3 f4 f5 f6 x0 x1 x2 x3 x4 x5 x6 r0 r1 r2 r3 r4 r5 r6 g0 g1 g2 g3 g4 g5 g6 lx lq ly
    obtain ⟨z0, z1, z2, z3, z4, z5, z6⟩ := cell7 kF
    exact bodyPost_ret (v := .tuple #[xv ⟨2, wd, r, 0, 0, 0, n⟩, .bool false]) (by simp [results, Tryd.results40, go_sem, z0, z1, z2, z3, z4, z5, z6]) rfl ⟨by simp only [HB.out.1, HB.out.2, Bool.true_and] <;> first | rfl | simp, kB5⟩
  · have HB := Aside0.mk (And.intro hr hb)
    clear hr hb
    go_enter Tryd.func40, Tryd.ntmps40
    go_upto_block 1 with (first
        | (go_at_call 58; (with_reducible refine (Plain _ _ _ _ _ _ _ _).mono ?_); rintro e w1 ⟨rfl, rfl⟩)
        | (go_at_call 57; (with_reducible refine (Reg r _).mono ?_); rw [HB.out.1]; rintro e w1 ⟨rfl, rfl⟩)
        | (go_at_call 57; (with_reducible refine (Reg b _).mono ?_); rw [HB.out.2]; rintro e w1 ⟨rfl, rfl⟩))
    obtain ⟨W, y, q, hW, hy, hq, hxy, hyx, hqy, hyq, hqx, hq0, hy0, HK⟩ := open5 w ⟨2, wd, r, b, i, c, n⟩ ⟨0, false, 0, 0, 0, 0, 0⟩ ⟨2, wd, 0, 0, 0, 0, 0⟩
    rw [hW, hy, hq]
    clear hW hy hq
    apply wp_block
    apply mono0 (k := 3)
    · (intro a w h; (repeat (first | refine then_out ?_ | refine block_out (by decide) ?_)); exact block_in (then_in h))
    go_wp2_with fail
    refine ⟨rfl, ?_⟩
    go_step
    apply mono0 (k := 0)
    · (intro a w h; (repeat (first | refine then_out ?_ | refine block_out (by decide) ?_)); exact block_in (then_in h))
    obtain ⟨y0, y1, y2, y3, y4, y5, y6⟩ := cell7 HK.out.2.2.1
    obtain ⟨f0, f1, f2, f3, f4, f5, f6⟩ := froz7 HK.out.2.2.1
    obtain ⟨x0, x1, x2, x3, x4, x5, x6⟩ := cell7 HK.out.1
    obtain ⟨r0, r1, r2, r3, r4, r5, r6⟩ := cell7 HK.out.2.1
    obtain ⟨g0, g1, g2, g3, g4, g5, g6⟩ := froz7 HK.out.2.1
    have lx := blk_lt HK.out.1
    have lq := blk_lt HK.out.2.1
    have ly := blk_lt HK.out.2.2.1
    go_wp2_with fail
    go_region_held3 (fun wr => wr.cell? ⟨w.heap.size, 2, none⟩ = some (.int .i64 r) ∧ wr.cell? ⟨w.heap.size, 6, none⟩ = some (.int .i64 n)) (go_keep) (fail)
    clear y0 y1 y2 y3 y4 y5 y6 f0 f1 f2 f3 f4 f5 f6 x0 x1 x2 x3 x4 x5 x6 r0 r1 r2 r3 r4 r5 r6 g0 g1 g2 g3 g4 g5 g6 lx lq ly
    obtain ⟨W23, hW⟩ : ∃ W2, (((W).setCell ⟨y, 2, none⟩ (.int .i64 r)).setCell ⟨y, 6, none⟩ (.int .i64 n)).drew = W2 := ⟨_, rfl⟩
    have kX := blk_drew (blk_far (blk_far HK.out.1 (p := ⟨y, 2, none⟩) hxy (.int .i64 r)) (p := ⟨y, 6, none⟩) hxy (.int .i64 n))
    have kR := blk_drew (blk_far (blk_far HK.out.2.1 (p := ⟨y, 2, none⟩) hqy (.int .i64 r)) (p := ⟨y, 6, none⟩) hqy (.int .i64 n))
    have kY := blk_drew (blk_put (blk_put HK.out.2.2.1 2 (.int .i64 r) #[.int .i64 2, .bool wd, .int .i64 r, .int .i64 0, .int .i64 0, .int .i64 0, .int .i64 0] rfl) 6 (.int .i64 n) #[.int .i64 2, .bool wd, .int .i64 r, .int .i64 0, .int .i64 0, .int .i64 0, .int .i64 n] rfl)
    have kB := below_drew (Below.setCell (Below.setCell HK.out.2.2.2 (p := ⟨y, 2, none⟩) hy0 (.int .i64 r)) (p := ⟨y, 6, none⟩) hy0 (.int .i64 n))
    rw [hW] at kX kR kY kB ⊢
    have HK23 := Aside0.mk (And.intro kX (And.intro kR (And.intro kY kB)))
    clear hW kX kR kY kB
    obtain ⟨y0, y1, y2, y3, y4, y5, y6⟩ := cell7 HK23.out.2.2.1
    obtain ⟨f0, f1, f2, f3, f4, f5, f6⟩ := froz7 HK23.out.2.2.1
    obtain ⟨x0, x1, x2, x3, x4, x5, x6⟩ := cell7 HK23.out.1
    obtain ⟨r0, r1, r2, r3, r4, r5, r6⟩ := cell7 HK23.out.2.1
    obtain ⟨g0, g1, g2, g3, g4, g5, g6⟩ := froz7 HK23.out.2.1
    have lx := blk_lt HK23.out.1
    have lq := blk_lt HK23.out.2.1
    have ly := blk_lt HK23.out.2.2.1
    cases wd with
    | false =>
      go_wp2_with fail
      refine ⟨rfl, ?_⟩
      go_wp2_with fail
      have kF := row7 HK23.out.2.1 (.int .i64 2) (.bool false) (.int .i64 r) (.int .i64 0) (.int .i64 0) (.int .i64 0) (.int .i64 n)
      have kB5 := below7 hq0 HK23.out.2.2.2 (.int .i64 2) (.bool false) (.int .i64 r) (.int .i64 0) (.int .i64 0) (.int .i64 0) (.int .i64 n)
      obtain ⟨W5, hW5⟩ : ∃ W5, (((((((W23).setCell ⟨q, 0, none⟩ (.int .i64 2)).setCell ⟨q, 1, none⟩ (.bool false)).setCell ⟨q, 2, none⟩ (.int .i64 r)).setCell ⟨q, 3, none⟩ (.int .i64 0)).setCell ⟨q, 4, none⟩ (.int .i64 0)).setCell ⟨q, 5, none⟩ (.int .i64 0)).setCell ⟨q, 6, none⟩ (.int .i64 n) = W5 := ⟨_, rfl⟩
      rw [hW5] at kF kB5 ⊢
      clear hW5 y0 y1 y2 y3 y4 y5 y6 f0 f1 f2 f3 f4 f5 f6 x0 x1 x2 x3 x4 x5 x6 r0 r1 r2 r3 r4 r5 r6 g0 g1 g2 g3 g4 g5 g6 lx lq ly
      obtain ⟨z0, z1, z2, z3, z4, z5, z6⟩ := cell7 kF
      exact bodyPost_ret (v := .tuple #[xv ⟨2, false, r, 0, 0, 0, n⟩, .bool false]) (by simp [results, Tryd.results40, go_sem, z0, z1, z2, z3, z4, z5, z6]) rfl ⟨by simp only [HB.out.1, HB.out.2, Bool.true_and] <;> first | rfl | simp, kB5⟩
    | true =>
      go_wp2_with fail
      refine ⟨rfl, ?_⟩
      go_wp2_with fail
      have kF := row7 HK23.out.2.1 (.int .i64 2) (.bool true) (.int .i64 r) (.int .i64 0) (.int .i64 0) (.int .i64 0) (.int .i64 n)
      have kB5 := below7 hq0 HK23.out.2.2.2 (.int .i64 2) (.bool true) (.int .i64 r) (.int .i64 0) (.int .i64 0) (.int .i64 0) (.int .i64 n)
      obtain ⟨W5, hW5⟩ : ∃ W5, (((((((W23).setCell ⟨q, 0, none⟩ (.int .i64 2)).setCell ⟨q, 1, none⟩ (.bool true)).setCell ⟨q, 2, none⟩ (.int .i64 r)).setCell ⟨q, 3, none⟩ (.int .i64 0)).setCell ⟨q, 4, none⟩ (.int .i64 0)).setCell ⟨q, 5, none⟩ (.int .i64 0)).setCell ⟨q, 6, none⟩ (.int .i64 n) = W5 := ⟨_, rfl⟩
      rw [hW5] at kF kB5 ⊢
      clear hW5 y0 y1 y2 y3 y4 y5 y6 f0 f1 f2 f3 f4 f5 f6 x0 x1 x2 x3 x4 x5 x6 r0 r1 r2 r3 r4 r5 r6 g0 g1 g2 g3 g4 g5 g6 lx lq ly
      obtain ⟨z0, z1, z2, z3, z4, z5, z6⟩ := cell7 kF
      exact bodyPost_ret (v := .tuple #[xv ⟨2, true, r, 0, 0, 0, n⟩, .bool true]) (by simp [results, Tryd.results40, go_sem, z0, z1, z2, z3, z4, z5, z6]) rfl ⟨by simp only [HB.out.1, HB.out.2, Bool.true_and] <;> first | rfl | simp, kB5⟩
set_option maxHeartbeats 16000000 in
set_option maxRecDepth 100000 in
theorem shape_8 (wd : Bool) (r b i c n : Int) (w : World) (ht : Tab w) (hn : -9223372036854775808 ≤ n ∧ n ≤ 9223372036854775807) :
    Calls Tryd.prog 40 #[xv ⟨8, wd, r, b, i, c, n⟩] w fun e w' => e = .returned (.tuple #[xv ⟨8, wd, 0, b, 0, 0, 0⟩, .bool (reg r && reg b)]) ∧ Below w.heap.size w w' := by
  have HT := Aside0.mk (And.intro ht hn)
  clear ht hn
  have cs : reg r = false ∨ (reg r = true ∧ reg b = false) ∨ (reg r = true ∧ reg b = true) := by cases reg r <;> cases reg b <;> simp
  rcases cs with hr | ⟨hr, hb⟩ | ⟨hr, hb⟩
  · have HB := Aside0.mk hr
    clear hr
    go_enter Tryd.func40, Tryd.ntmps40
    go_upto_block 1 with (first
        | (go_at_call 58; (with_reducible refine (Plain _ _ _ _ _ _ _ _).mono ?_); rintro e w1 ⟨rfl, rfl⟩)
        | (go_at_call 57; (with_reducible refine (Reg _ _).mono ?_); rw [HB.out]; rintro e w1 ⟨rfl, rfl⟩))
    obtain ⟨W, y, q, hW, hy, hq, hxy, hyx, hqy, hyq, hqx, hq0, hy0, HK⟩ := open5 w ⟨8, wd, r, b, i, c, n⟩ ⟨0, false, 0, 0, 0, 0, 0⟩ ⟨8, wd, 0, 0, 0, 0, 0⟩
    rw [hW, hy, hq]
    clear hW hy hq
    apply wp_block
    apply mono0 (k := 7)
    · (intro a w h; (repeat (first | refine then_out ?_ | refine block_out (by decide) ?_)); exact block_in (then_in h))
    go_wp2_with fail
    refine ⟨rfl, ?_⟩
    go_step
    apply mono0 (k := 0)
    · (intro a w h; (repeat (first | refine then_out ?_ | refine block_out (by decide) ?_)); exact block_in (then_in h))
    obtain ⟨y0, y1, y2, y3, y4, y5, y6⟩ := cell7 HK.out.2.2.1
    obtain ⟨f0, f1, f2, f3, f4, f5, f6⟩ := froz7 HK.out.2.2.1
    obtain ⟨x0, x1, x2, x3, x4, x5, x6⟩ := cell7 HK.out.1
    obtain ⟨r0, r1, r2, r3, r4, r5, r6⟩ := cell7 HK.out.2.1
    obtain ⟨g0, g1, g2, g3, g4, g5, g6⟩ := froz7 HK.out.2.1
    have lx := blk_lt HK.out.1
    have lq := blk_lt HK.out.2.1
    have ly := blk_lt HK.out.2.2.1
    go_wp2_with fail
    refine ⟨rfl, ?_⟩
    go_wp2_with fail
    have kF := row7 (blk_far HK.out.2.1 (p := ⟨y, 3, none⟩) hqy (.int .i64 b)) (.int .i64 8) (.bool wd) (.int .i64 0) (.int .i64 b) (.int .i64 0) (.int .i64 0) (.int .i64 0)
    have kB5 := below7 hq0 (Below.setCell HK.out.2.2.2 (p := ⟨y, 3, none⟩) hy0 (.int .i64 b)) (.int .i64 8) (.bool wd) (.int .i64 0) (.int .i64 b) (.int .i64 0) (.int .i64 0) (.int .i64 0)
    obtain ⟨W5, hW5⟩ : ∃ W5, ((((((((W).setCell ⟨y, 3, none⟩ (.int .i64 b)).setCell ⟨q, 0, none⟩ (.int .i64 8)).setCell ⟨q, 1, none⟩ (.bool wd)).setCell ⟨q, 2, none⟩ (.int .i64 0)).setCell ⟨q, 3, none⟩ (.int .i64 b)).setCell ⟨q, 4, none⟩ (.int .i64 0)).setCell ⟨q, 5, none⟩ (.int .i64 0)).setCell ⟨q, 6, none⟩ (.int .i64 0) = W5 := ⟨_, rfl⟩
    rw [hW5] at kF kB5 ⊢
    clear hW5 y0 y1 y2 y3 y4 y5 y6 f0 f1 f2 f3 f4 f5 f6 x0 x1 x2 x3 x4 x5 x6 r0 r1 r2 r3 r4 r5 r6 g0 g1 g2 g3 g4 g5 g6 lx lq ly
    obtain ⟨z0, z1, z2, z3, z4, z5, z6⟩ := cell7 kF
    exact bodyPost_ret (v := .tuple #[xv ⟨8, wd, 0, b, 0, 0, 0⟩, .bool false]) (by simp [results, Tryd.results40, go_sem, z0, z1, z2, z3, z4, z5, z6]) rfl ⟨by simp only [HB.out, Bool.false_and] <;> first | rfl | simp, kB5⟩
  · have HB := Aside0.mk (And.intro hr hb)
    clear hr hb
    go_enter Tryd.func40, Tryd.ntmps40
    go_upto_block 1 with (first
        | (go_at_call 58; (with_reducible refine (Plain _ _ _ _ _ _ _ _).mono ?_); rintro e w1 ⟨rfl, rfl⟩)
        | (go_at_call 57; (with_reducible refine (Reg r _).mono ?_); rw [HB.out.1]; rintro e w1 ⟨rfl, rfl⟩)
        | (go_at_call 57; (with_reducible refine (Reg b _).mono ?_); rw [HB.out.2]; rintro e w1 ⟨rfl, rfl⟩))
    obtain ⟨W, y, q, hW, hy, hq, hxy, hyx, hqy, hyq, hqx, hq0, hy0, HK⟩ := open5 w ⟨8, wd, r, b, i, c, n⟩ ⟨0, false, 0, 0, 0, 0, 0⟩ ⟨8, wd, 0, 0, 0, 0, 0⟩
    rw [hW, hy, hq]
    clear hW hy hq
    apply wp_block
    apply mono0 (k := 7)
    · (intro a w h; (repeat (first | refine then_out ?_ | refine block_out (by decide) ?_)); exact block_in (then_in h))
    go_wp2_with fail
    refine ⟨rfl, ?_⟩
    go_step
    apply mono0 (k := 0)
    · (intro a w h; (repeat (first | refine then_out ?_ | refine block_out (by decide) ?_)); exact block_in (then_in h))
    obtain ⟨y0, y1, y2, y3, y4, y5, y6⟩ := cell7 HK.out.2.2.1
    obtain ⟨f0, f1, f2, f3, f4, f5, f6⟩ := froz7 HK.out.2.2.1
    obtain ⟨x0, x1, x2, x3, x4, x5, x6⟩ := cell7 HK.out.1
    obtain ⟨r0, r1, r2, r3, r4, r5, r6⟩ := cell7 HK.out.2.1
    obtain ⟨g0, g1, g2, g3, g4, g5, g6⟩ := froz7 HK.out.2.1
    have lx := blk_lt HK.out.1
    have lq := blk_lt HK.out.2.1
    have ly := blk_lt HK.out.2.2.1
    go_wp2_with fail
    refine ⟨rfl, ?_⟩
    go_wp2_with fail
    have kF := row7 (blk_far HK.out.2.1 (p := ⟨y, 3, none⟩) hqy (.int .i64 b)) (.int .i64 8) (.bool wd) (.int .i64 0) (.int .i64 b) (.int .i64 0) (.int .i64 0) (.int .i64 0)
    have kB5 := below7 hq0 (Below.setCell HK.out.2.2.2 (p := ⟨y, 3, none⟩) hy0 (.int .i64 b)) (.int .i64 8) (.bool wd) (.int .i64 0) (.int .i64 b) (.int .i64 0) (.int .i64 0) (.int .i64 0)
    obtain ⟨W5, hW5⟩ : ∃ W5, ((((((((W).setCell ⟨y, 3, none⟩ (.int .i64 b)).setCell ⟨q, 0, none⟩ (.int .i64 8)).setCell ⟨q, 1, none⟩ (.bool wd)).setCell ⟨q, 2, none⟩ (.int .i64 0)).setCell ⟨q, 3, none⟩ (.int .i64 b)).setCell ⟨q, 4, none⟩ (.int .i64 0)).setCell ⟨q, 5, none⟩ (.int .i64 0)).setCell ⟨q, 6, none⟩ (.int .i64 0) = W5 := ⟨_, rfl⟩
    rw [hW5] at kF kB5 ⊢
    clear hW5 y0 y1 y2 y3 y4 y5 y6 f0 f1 f2 f3 f4 f5 f6 x0 x1 x2 x3 x4 x5 x6 r0 r1 r2 r3 r4 r5 r6 g0 g1 g2 g3 g4 g5 g6 lx lq ly
    obtain ⟨z0, z1, z2, z3, z4, z5, z6⟩ := cell7 kF
    exact bodyPost_ret (v := .tuple #[xv ⟨8, wd, 0, b, 0, 0, 0⟩, .bool false]) (by simp [results, Tryd.results40, go_sem, z0, z1, z2, z3, z4, z5, z6]) rfl ⟨by simp only [HB.out.1, HB.out.2, Bool.true_and] <;> first | rfl | simp, kB5⟩
  · have HB := Aside0.mk (And.intro hr hb)
    clear hr hb
    go_enter Tryd.func40, Tryd.ntmps40
    go_upto_block 1 with (first
        | (go_at_call 58; (with_reducible refine (Plain _ _ _ _ _ _ _ _).mono ?_); rintro e w1 ⟨rfl, rfl⟩)
        | (go_at_call 57; (with_reducible refine (Reg r _).mono ?_); rw [HB.out.1]; rintro e w1 ⟨rfl, rfl⟩)
        | (go_at_call 57; (with_reducible refine (Reg b _).mono ?_); rw [HB.out.2]; rintro e w1 ⟨rfl, rfl⟩))
    obtain ⟨W, y, q, hW, hy, hq, hxy, hyx, hqy, hyq, hqx, hq0, hy0, HK⟩ := open5 w ⟨8, wd, r, b, i, c, n⟩ ⟨0, false, 0, 0, 0, 0, 0⟩ ⟨8, wd, 0, 0, 0, 0, 0⟩
    rw [hW, hy, hq]
    clear hW hy hq
    apply wp_block
    apply mono0 (k := 7)
    · (intro a w h; (repeat (first | refine then_out ?_ | refine block_out (by decide) ?_)); exact block_in (then_in h))
    go_wp2_with fail
    refine ⟨rfl, ?_⟩
    go_step
    apply mono0 (k := 0)
    · (intro a w h; (repeat (first | refine then_out ?_ | refine block_out (by decide) ?_)); exact block_in (then_in h))
    obtain ⟨y0, y1, y2, y3, y4, y5, y6⟩ := cell7 HK.out.2.2.1
    obtain ⟨f0, f1, f2, f3, f4, f5, f6⟩ := froz7 HK.out.2.2.1
    obtain ⟨x0, x1, x2, x3, x4, x5, x6⟩ := cell7 HK.out.1
    obtain ⟨r0, r1, r2, r3, r4, r5, r6⟩ := cell7 HK.out.2.1
    obtain ⟨g0, g1, g2, g3, g4, g5, g6⟩ := froz7 HK.out.2.1
    have lx := blk_lt HK.out.1
    have lq := blk_lt HK.out.2.1
    have ly := blk_lt HK.out.2.2.1
    go_wp2_with fail
    refine ⟨rfl, ?_⟩
    go_wp2_with fail
    have kF := row7 (blk_far HK.out.2.1 (p := ⟨y, 3, none⟩) hqy (.int .i64 b)) (.int .i64 8) (.bool wd) (.int .i64 0) (.int .i64 b) (.int .i64 0) (.int .i64 0) (.int .i64 0)
    have kB5 := below7 hq0 (Below.setCell HK.out.2.2.2 (p := ⟨y, 3, none⟩) hy0 (.int .i64 b)) (.int .i64 8) (.bool wd) (.int .i64 0) (.int .i64 b) (.int .i64 0) (.int .i64 0) (.int .i64 0)
    obtain ⟨W5, hW5⟩ : ∃ W5, ((((((((W).setCell ⟨y, 3, none⟩ (.int .i64 b)).setCell ⟨q, 0, none⟩ (.int .i64 8)).setCell ⟨q, 1, none⟩ (.bool wd)).setCell ⟨q, 2, none⟩ (.int .i64 0)).setCell ⟨q, 3, none⟩ (.int .i64 b)).setCell ⟨q, 4, none⟩ (.int .i64 0)).setCell ⟨q, 5, none⟩ (.int .i64 0)).setCell ⟨q, 6, none⟩ (.int .i64 0) = W5 := ⟨_, rfl⟩
    rw [hW5] at kF kB5 ⊢
    clear hW5 y0 y1 y2 y3 y4 y5 y6 f0 f1 f2 f3 f4 f5 f6 x0 x1 x2 x3 x4 x5 x6 r0 r1 r2 r3 r4 r5 r6 g0 g1 g2 g3 g4 g5 g6 lx lq ly
    obtain ⟨z0, z1, z2, z3, z4, z5, z6⟩ := cell7 kF
    exact bodyPost_ret (v := .tuple #[xv ⟨8, wd, 0, b, 0, 0, 0⟩, .bool true]) (by simp [results, Tryd.results40, go_sem, z0, z1, z2, z3, z4, z5, z6]) rfl ⟨by simp only [HB.out.1, HB.out.2, Bool.true_and] <;> first | rfl | simp, kB5⟩
set_option maxHeartbeats 16000000 in
set_option maxRecDepth 100000 in
theorem shape_9 (wd : Bool) (r b i c n : Int) (w : World) (ht : Tab w) (hn : -9223372036854775808 ≤ n ∧ n ≤ 9223372036854775807) :
    Calls Tryd.prog 40 #[xv ⟨9, wd, r, b, i, c, n⟩] w fun e w' => e = .returned (.tuple #[xv ⟨9, wd, 0, b, 0, 0, 0⟩, .bool (reg r && reg b)]) ∧ Below w.heap.size w w' := by
  have HT := Aside0.mk (And.intro ht hn)
  clear ht hn
  have cs : reg r = false ∨ (reg r = true ∧ reg b = false) ∨ (reg r = true ∧ reg b = true) := by cases reg r <;> cases reg b <;> simp
  rcases cs with hr | ⟨hr, hb⟩ | ⟨hr, hb⟩
  · have HB := Aside0.mk hr
    clear hr
    go_enter Tryd.func40, Tryd.ntmps40
    go_upto_block 1 with (first
        | (go_at_call 58; (with_reducible refine (Plain _ _ _ _ _ _ _ _).mono ?_); rintro e w1 ⟨rfl, rfl⟩)
        | (go_at_call 57; (with_reducible refine (Reg _ _).mono ?_); rw [HB.out]; rintro e w1 ⟨rfl, rfl⟩))
    obtain ⟨W, y, q, hW, hy, hq, hxy, hyx, hqy, hyq, hqx, hq0, hy0, HK⟩ := open5 w ⟨9, wd, r, b, i, c, n⟩ ⟨0, false, 0, 0, 0, 0, 0⟩ ⟨9, wd, 0, 0, 0, 0, 0⟩
    rw [hW, hy, hq]
    clear hW hy hq
    apply wp_block
    apply mono0 (k := 7)
    · (intro a w h; (repeat (first | refine then_out ?_ | refine block_out (by decide) ?_)); exact block_in (then_in h))
    go_wp2_with fail
    refine ⟨rfl, ?_⟩
    go_step
    apply mono0 (k := 0)
    · (intro a w h; (repeat (first | refine then_out ?_ | refine block_out (by decide) ?_)); exact block_in (then_in h))
    obtain ⟨y0, y1, y2, y3, y4, y5, y6⟩ := cell7 HK.out.2.2.1
    obtain ⟨f0, f1, f2, f3, f4, f5, f6⟩ := froz7 HK.out.2.2.1
    obtain ⟨x0, x1, x2, x3, x4, x5, x6⟩ := cell7 HK.out.1
    obtain ⟨r0, r1, r2, r3, r4, r5, r6⟩ := cell7 HK.out.2.1
    obtain ⟨g0, g1, g2, g3, g4, g5, g6⟩ := froz7 HK.out.2.1
    have lx := blk_lt HK.out.1
    have lq := blk_lt HK.out.2.1
    have ly := blk_lt HK.out.2.2.1
    go_wp2_with fail
    refine ⟨rfl, ?_⟩
    go_wp2_with fail
    have kF := row7 (blk_far HK.out.2.1 (p := ⟨y, 3, none⟩) hqy (.int .i64 b)) (.int .i64 9) (.bool wd) (.int .i64 0) (.int .i64 b) (.int .i64 0) (.int .i64 0) (.int .i64 0)
    have kB5 := below7 hq0 (Below.setCell HK.out.2.2.2 (p := ⟨y, 3, none⟩) hy0 (.int .i64 b)) (.int .i64 9) (.bool wd) (.int .i64 0) (.int .i64 b) (.int .i64 0) (.int .i64 0) (.int .i64 0)
    obtain ⟨W5, hW5⟩ : ∃ W5, ((((((((W).setCell ⟨y, 3, none⟩ (.int .i64 b)).setCell ⟨q, 0, none⟩ (.int .i64 9)).setCell ⟨q, 1, none⟩ (.bool wd)).setCell ⟨q, 2, none⟩ (.int .i64 0)).setCell ⟨q, 3, none⟩ (.int .i64 b)).setCell ⟨q, 4, none⟩ (.int .i64 0)).setCell ⟨q, 5, none⟩ (.int .i64 0)).setCell ⟨q, 6, none⟩ (.int .i64 0) = W5 := ⟨_, rfl⟩
    rw [hW5] at kF kB5 ⊢
    clear hW5 y0 y1 y2 y3 y4 y5 y6 f0 f1 f2 f3 f4 f5 f6 x0 x1 x2 x3 x4 x5 x6 r0 r1 r2 r3 r4 r5 r6 g0 g1 g2 g3 g4 g5 g6 lx lq ly
    obtain ⟨z0, z1, z2, z3, z4, z5, z6⟩ := cell7 kF
    exact bodyPost_ret (v := .tuple #[xv ⟨9, wd, 0, b, 0, 0, 0⟩, .bool false]) (by simp [results, Tryd.results40, go_sem, z0, z1, z2, z3, z4, z5, z6]) rfl ⟨by simp only [HB.out, Bool.false_and] <;> first | rfl | simp, kB5⟩
  · have HB := Aside0.mk (And.intro hr hb)
    clear hr hb
    go_enter Tryd.func40, Tryd.ntmps40
    go_upto_block 1 with (first
        | (go_at_call 58; (with_reducible refine (Plain _ _ _ _ _ _ _ _).mono ?_); rintro e w1 ⟨rfl, rfl⟩)
        | (go_at_call 57; (with_reducible refine (Reg r _).mono ?_); rw [HB.out.1]; rintro e w1 ⟨rfl, rfl⟩)
        | (go_at_call 57; (with_reducible refine (Reg b _).mono ?_); rw [HB.out.2]; rintro e w1 ⟨rfl, rfl⟩))
    obtain ⟨W, y, q, hW, hy, hq, hxy, hyx, hqy, hyq, hqx, hq0, hy0, HK⟩ := open5 w ⟨9, wd, r, b, i, c, n⟩ ⟨0, false, 0, 0, 0, 0, 0⟩ ⟨9, wd, 0, 0, 0, 0, 0⟩
    rw [hW, hy, hq]
    clear hW hy hq
    apply wp_block
    apply mono0 (k := 7)
    · (intro a w h; (repeat (first | refine then_out ?_ | refine block_out (by decide) ?_)); exact block_in (then_in h))
    go_wp2_with fail
    refine ⟨rfl, ?_⟩
    go_step
    apply mono0 (k := 0)
    · (intro a w h; (repeat (first | refine then_out ?_ | refine block_out (by decide) ?_)); exact block_in (then_in h))
    obtain ⟨y0, y1, y2, y3, y4, y5, y6⟩ := cell7 HK.out.2.2.1
    obtain ⟨f0, f1, f2, f3, f4, f5, f6⟩ := froz7 HK.out.2.2.1
    obtain ⟨x0, x1, x2, x3, x4, x5, x6⟩ := cell7 HK.out.1
    obtain ⟨r0, r1, r2, r3, r4, r5, r6⟩ := cell7 HK.out.2.1
    obtain ⟨g0, g1, g2, g3, g4, g5, g6⟩ := froz7 HK.out.2.1
    have lx := blk_lt HK.out.1
    have lq := blk_lt HK.out.2.1
    have ly := blk_lt HK.out.2.2.1
    go_wp2_with fail
    refine ⟨rfl, ?_⟩
    go_wp2_with fail
    have kF := row7 (blk_far HK.out.2.1 (p := ⟨y, 3, none⟩) hqy (.int .i64 b)) (.int .i64 9) (.bool wd) (.int .i64 0) (.int .i64 b) (.int .i64 0) (.int .i64 0) (.int .i64 0)
    have kB5 := below7 hq0 (Below.setCell HK.out.2.2.2 (p := ⟨y, 3, none⟩) hy0 (.int .i64 b)) (.int .i64 9) (.bool wd) (.int .i64 0) (.int .i64 b) (.int .i64 0) (.int .i64 0) (.int .i64 0)
    obtain ⟨W5, hW5⟩ : ∃ W5, ((((((((W).setCell ⟨y, 3, none⟩ (.int .i64 b)).setCell ⟨q, 0, none⟩ (.int .i64 9)).setCell ⟨q, 1, none⟩ (.bool wd)).setCell ⟨q, 2, none⟩ (.int .i64 0)).setCell ⟨q, 3, none⟩ (.int .i64 b)).setCell ⟨q, 4, none⟩ (.int .i64 0)).setCell ⟨q, 5, none⟩ (.int .i64 0)).setCell ⟨q, 6, none⟩ (.int .i64 0) = W5 := ⟨_, rfl⟩
    rw [hW5] at kF kB5 ⊢
    clear hW5 y0 y1 y2 y3 y4 y5 y6 f0 f1 f2 f3 f4 f5 f6 x0 x1 x2 x3 x4 x5 x6 r0 r1 r2 r3 r4 r5 r6 g0 g1 g2 g3 g4 g5 g6 lx lq ly
    obtain ⟨z0, z1, z2, z3, z4, z5, z6⟩ := cell7 kF
    exact bodyPost_ret (v := .tuple #[xv ⟨9, wd, 0, b, 0, 0, 0⟩, .bool false]) (by simp [results, Tryd.results40, go_sem, z0, z1, z2, z3, z4, z5, z6]) rfl ⟨by simp only [HB.out.1, HB.out.2, Bool.true_and] <;> first | rfl | simp, kB5⟩
  · have HB := Aside0.mk (And.intro hr hb)
    clear hr hb
    go_enter Tryd.func40, Tryd.ntmps40
    go_upto_block 1 with (first
        | (go_at_call 58; (with_reducible refine (Plain _ _ _ _ _ _ _ _).mono ?_); rintro e w1 ⟨rfl, rfl⟩)
        | (go_at_call 57; (with_reducible refine (Reg r _).mono ?_); rw [HB.out.1]; rintro e w1 ⟨rfl, rfl⟩)
        | (go_at_call 57; (with_reducible refine (Reg b _).mono ?_); rw [HB.out.2]; rintro e w1 ⟨rfl, rfl⟩))
    obtain ⟨W, y, q, hW, hy, hq, hxy, hyx, hqy, hyq, hqx, hq0, hy0, HK⟩ := open5 w ⟨9, wd, r, b, i, c, n⟩ ⟨0, false, 0, 0, 0, 0, 0⟩ ⟨9, wd, 0, 0, 0, 0, 0⟩
    rw [hW, hy, hq]
    clear hW hy hq
    apply wp_block
    apply mono0 (k := 7)
    · (intro a w h; (repeat (first | refine then_out ?_ | refine block_out (by decide) ?_)); exact block_in (then_in h))
    go_wp2_with fail
    refine ⟨rfl, ?_⟩
    go_step
    apply mono0 (k := 0)
    · (intro a w h; (repeat (first | refine then_out ?_ | refine block_out (by decide) ?_)); exact block_in (then_in h))
    obtain ⟨y0, y1, y2, y3, y4, y5, y6⟩ := cell7 HK.out.2.2.1
    obtain ⟨f0, f1, f2, f3, f4, f5, f6⟩ := froz7 HK.out.2.2.1
    obtain ⟨x0, x1, x2, x3, x4, x5, x6⟩ := cell7 HK.out.1
    obtain ⟨r0, r1, r2, r3, r4, r5, r6⟩ := cell7 HK.out.2.1
    obtain ⟨g0, g1, g2, g3, g4, g5, g6⟩ := froz7 HK.out.2.1
    have lx := blk_lt HK.out.1
    have lq := blk_lt HK.out.2.1
    have ly := blk_lt HK.out.2.2.1
    go_wp2_with fail
    refine ⟨rfl, ?_⟩
    go_wp2_with fail
    have kF := row7 (blk_far HK.out.2.1 (p := ⟨y, 3, none⟩) hqy (.int .i64 b)) (.int .i64 9) (.bool wd) (.int .i64 0) (.int .i64 b) (.int .i64 0) (.int .i64 0) (.int .i64 0)
    have kB5 := below7 hq0 (Below.setCell HK.out.2.2.2 (p := ⟨y, 3, none⟩) hy0 (.int .i64 b)) (.int .i64 9) (.bool wd) (.int .i64 0) (.int .i64 b) (.int .i64 0) (.int .i64 0) (.int .i64 0)
    obtain ⟨W5, hW5⟩ : ∃ W5, ((((((((W).setCell ⟨y, 3, none⟩ (.int .i64 b)).setCell ⟨q, 0, none⟩ (.int .i64 9)).setCell ⟨q, 1, none⟩ (.bool wd)).setCell ⟨q, 2, none⟩ (.int .i64 0)).setCell ⟨q, 3, none⟩ (.int .i64 b)).setCell ⟨q, 4, none⟩ (.int .i64 0)).setCell ⟨q, 5, none⟩ (.int .i64 0)).setCell ⟨q, 6, none⟩ (.int .i64 0) = W5 := ⟨_, rfl⟩
    rw [hW5] at kF kB5 ⊢
    clear hW5 y0 y1 y2 y3 y4 y5 y6 f0 f1 f2 f3 f4 f5 f6 x0 x1 x2 x3 x4 x5 x6 r0 r1 r2 r3 r4 r5 r6 g0 g1 g2 g3 g4 g5 g6 lx lq ly
    obtain ⟨z0, z1, z2, z3, z4, z5, z6⟩ := cell7 kF
    exact bodyPost_ret (v := .tuple #[xv ⟨9, wd, 0, b, 0, 0, 0⟩, .bool true]) (by simp [results, Tryd.results40, go_sem, z0, z1, z2, z3, z4, z5, z6]) rfl ⟨by simp only [HB.out.1, HB.out.2, Bool.true_and] <;> first | rfl | simp, kB5⟩
set_option maxHeartbeats 16000000 in
set_option maxRecDepth 100000 in
theorem shape_21 (wd : Bool) (r b i c n : Int) (w : World) (ht : Tab w) (hn : -9223372036854775808 ≤ n ∧ n ≤ 9223372036854775807) :
    Calls Tryd.prog 40 #[xv ⟨21, wd, r, b, i, c, n⟩] w fun e w' => e = .returned (.tuple #[xv ⟨21, wd, 0, 0, 0, 0, 0⟩, .bool ((reg r && reg b) && !wd)]) ∧ Below w.heap.size w w' := by
  have HT := Aside0.mk (And.intro ht hn)
  clear ht hn
  have cs : reg r = false ∨ (reg r = true ∧ reg b = false) ∨ (reg r = true ∧ reg b = true) := by cases reg r <;> cases reg b <;> simp
  rcases cs with hr | ⟨hr, hb⟩ | ⟨hr, hb⟩
  · have HB := Aside0.mk hr
    clear hr
    go_enter Tryd.func40, Tryd.ntmps40
    go_upto_block 1 with (first
        | (go_at_call 58; (with_reducible refine (Plain _ _ _ _ _ _ _ _).mono ?_); rintro e w1 ⟨rfl, rfl⟩)
        | (go_at_call 57; (with_reducible refine (Reg _ _).mono ?_); rw [HB.out]; rintro e w1 ⟨rfl, rfl⟩))
    obtain ⟨W, y, q, hW, hy, hq, hxy, hyx, hqy, hyq, hqx, hq0, hy0, HK⟩ := open5 w ⟨21, wd, r, b, i, c, n⟩ ⟨0, false, 0, 0, 0, 0, 0⟩ ⟨21, wd, 0, 0, 0, 0, 0⟩
    rw [hW, hy, hq]
    clear hW hy hq
    apply wp_block
    apply mono0 (k := 14)
    · (intro a w h; (repeat (first | refine then_out ?_ | refine block_out (by decide) ?_)); exact block_in (then_in h))
    go_wp2_with fail
    refine ⟨rfl, ?_⟩
    go_step
    apply mono0 (k := 0)
    · (intro a w h; (repeat (first | refine then_out ?_ | refine block_out (by decide) ?_)); exact block_in (then_in h))
    obtain ⟨y0, y1, y2, y3, y4, y5, y6⟩ := cell7 HK.out.2.2.1
    obtain ⟨f0, f1, f2, f3, f4, f5, f6⟩ := froz7 HK.out.2.2.1
    obtain ⟨x0, x1, x2, x3, x4, x5, x6⟩ := cell7 HK.out.1
    obtain ⟨r0, r1, r2, r3, r4, r5, r6⟩ := cell7 HK.out.2.1
    obtain ⟨g0, g1, g2, g3, g4, g5, g6⟩ := froz7 HK.out.2.1
    have lx := blk_lt HK.out.1
    have lq := blk_lt HK.out.2.1
    have ly := blk_lt HK.out.2.2.1
    go_wp2_with fail
    refine ⟨rfl, ?_⟩
    go_wp2_with fail
    have kF := row7 HK.out.2.1 (.int .i64 21) (.bool wd) (.int .i64 0) (.int .i64 0) (.int .i64 0) (.int .i64 0) (.int .i64 0)
    have kB5 := below7 hq0 HK.out.2.2.2 (.int .i64 21) (.bool wd) (.int .i64 0) (.int .i64 0) (.int .i64 0) (.int .i64 0) (.int .i64 0)
    obtain ⟨W5, hW5⟩ : ∃ W5, (((((((W).setCell ⟨q, 0, none⟩ (.int .i64 21)).setCell ⟨q, 1, none⟩ (.bool wd)).setCell ⟨q, 2, none⟩ (.int .i64 0)).setCell ⟨q, 3, none⟩ (.int .i64 0)).setCell ⟨q, 4, none⟩ (.int .i64 0)).setCell ⟨q, 5, none⟩ (.int .i64 0)).setCell ⟨q, 6, none⟩ (.int .i64 0) = W5 := ⟨_, rfl⟩
    rw [hW5] at kF kB5 ⊢
    clear hW5 y0 y1 y2 y3 y4 y5 y6 f0 f1 f2 f3 f4 f5 f6 x0 x1 x2 x3 x4 x5 x6 r0 r1 r2 r3 r4 r5 r6 g0 g1 g2 g3 g4 g5 g6 lx lq ly
    obtain ⟨z0, z1, z2, z3, z4, z5, z6⟩ := cell7 kF
    exact bodyPost_ret (v := .tuple #[xv ⟨21, wd, 0, 0, 0, 0, 0⟩, .bool false]) (by simp [results, Tryd.results40, go_sem, z0, z1, z2, z3, z4, z5, z6]) rfl ⟨by simp only [HB.out, Bool.false_and] <;> first | rfl | simp, kB5⟩
  · have HB := Aside0.mk (And.intro hr hb)
    clear hr hb
    go_enter Tryd.func40, Tryd.ntmps40
    go_upto_block 1 with (first
        | (go_at_call 58; (with_reducible refine (Plain _ _ _ _ _ _ _ _).mono ?_); rintro e w1 ⟨rfl, rfl⟩)
        | (go_at_call 57; (with_reducible refine (Reg r _).mono ?_); rw [HB.out.1]; rintro e w1 ⟨rfl, rfl⟩)
        | (go_at_call 57; (with_reducible refine (Reg b _).mono ?_); rw [HB.out.2]; rintro e w1 ⟨rfl, rfl⟩))
    obtain ⟨W, y, q, hW, hy, hq, hxy, hyx, hqy, hyq, hqx, hq0, hy0, HK⟩ := open5 w ⟨21, wd, r, b, i, c, n⟩ ⟨0, false, 0, 0, 0, 0, 0⟩ ⟨21, wd, 0, 0, 0, 0, 0⟩
    rw [hW, hy, hq]
    clear hW hy hq
    apply wp_block
    apply mono0 (k := 14)
    · (intro a w h; (repeat (first | refine then_out ?_ | refine block_out (by decide) ?_)); exact block_in (then_in h))
    go_wp2_with fail
    refine ⟨rfl, ?_⟩
    go_step
    apply mono0 (k := 0)
    · (intro a w h; (repeat (first | refine then_out ?_ | refine block_out (by decide) ?_)); exact block_in (then_in h))
    obtain ⟨y0, y1, y2, y3, y4, y5, y6⟩ := cell7 HK.out.2.2.1
    obtain ⟨f0, f1, f2, f3, f4, f5, f6⟩ := froz7 HK.out.2.2.1
    obtain ⟨x0, x1, x2, x3, x4, x5, x6⟩ := cell7 HK.out.1
    obtain ⟨r0, r1, r2, r3, r4, r5, r6⟩ := cell7 HK.out.2.1
    obtain ⟨g0, g1, g2, g3, g4, g5, g6⟩ := froz7 HK.out.2.1
    have lx := blk_lt HK.out.1
    have lq := blk_lt HK.out.2.1
    have ly := blk_lt HK.out.2.2.1
    go_wp2_with fail
    refine ⟨rfl, ?_⟩
    go_wp2_with fail
    have kF := row7 HK.out.2.1 (.int .i64 21) (.bool wd) (.int .i64 0) (.int .i64 0) (.int .i64 0) (.int .i64 0) (.int .i64 0)
    have kB5 := below7 hq0 HK.out.2.2.2 (.int .i64 21) (.bool wd) (.int .i64 0) (.int .i64 0) (.int .i64 0) (.int .i64 0) (.int .i64 0)
    obtain ⟨W5, hW5⟩ : ∃ W5, (((((((W).setCell ⟨q, 0, none⟩ (.int .i64 21)).setCell ⟨q, 1, none⟩ (.bool wd)).setCell ⟨q, 2, none⟩ (.int .i64 0)).setCell ⟨q, 3, none⟩ (.int .i64 0)).setCell ⟨q, 4, none⟩ (.int .i64 0)).setCell ⟨q, 5, none⟩ (.int .i64 0)).setCell ⟨q, 6, none⟩ (.int .i64 0) = W5 := ⟨_, rfl⟩
    rw [hW5] at kF kB5 ⊢
    clear hW5 y0 y1 y2 y3 y4 y5 y6 f0 f1 f2 f3 f4 f5 f6 x0 x1 x2 x3 x4 x5 x6 r0 r1 r2 r3 r4 r5 r6 g0 g1 g2 g3 g4 g5 g6 lx lq ly
    obtain ⟨z0, z1, z2, z3, z4, z5, z6⟩ := cell7 kF
    exact bodyPost_ret (v := .tuple #[xv ⟨21, wd, 0, 0, 0, 0, 0⟩, .bool false]) (by simp [results, Tryd.results40, go_sem, z0, z1, z2, z3, z4, z5, z6]) rfl ⟨by simp only [HB.out.1, HB.out.2, Bool.true_and] <;> first | rfl | simp, kB5⟩
  · have HB := Aside0.mk (And.intro hr hb)
    clear hr hb
    go_enter Tryd.func40, Tryd.ntmps40
    go_upto_block 1 with (first
        | (go_at_call 58; (with_reducible refine (Plain _ _ _ _ _ _ _ _).mono ?_); rintro e w1 ⟨rfl, rfl⟩)
        | (go_at_call 57; (with_reducible refine (Reg r _).mono ?_); rw [HB.out.1]; rintro e w1 ⟨rfl, rfl⟩)
        | (go_at_call 57; (with_reducible refine (Reg b _).mono ?_); rw [HB.out.2]; rintro e w1 ⟨rfl, rfl⟩))
    obtain ⟨W, y, q, hW, hy, hq, hxy, hyx, hqy, hyq, hqx, hq0, hy0, HK⟩ := open5 w ⟨21, wd, r, b, i, c, n⟩ ⟨0, false, 0, 0, 0, 0, 0⟩ ⟨21, wd, 0, 0, 0, 0, 0⟩
    rw [hW, hy, hq]
    clear hW hy hq
    apply wp_block
    apply mono0 (k := 14)
    · (intro a w h; (repeat (first | refine then_out ?_ | refine block_out (by decide) ?_)); exact block_in (then_in h))
    go_wp2_with fail
    refine ⟨rfl, ?_⟩
    go_step
    apply mono0 (k := 0)
    · (intro a w h; (repeat (first | refine then_out ?_ | refine block_out (by decide) ?_)); exact block_in (then_in h))
    obtain ⟨y0, y1, y2, y3, y4, y5, y6⟩ := cell7 HK.out.2.2.1
    obtain ⟨f0, f1, f2, f3, f4, f5, f6⟩ := froz7 HK.out.2.2.1
    obtain ⟨x0, x1, x2, x3, x4, x5, x6⟩ := cell7 HK.out.1
    obtain ⟨r0, r1, r2, r3, r4, r5, r6⟩ := cell7 HK.out.2.1
    obtain ⟨g0, g1, g2, g3, g4, g5, g6⟩ := froz7 HK.out.2.1
    have lx := blk_lt HK.out.1
    have lq := blk_lt HK.out.2.1
    have ly := blk_lt HK.out.2.2.1
    cases wd with
    | true =>
      go_wp2_with fail
      refine ⟨rfl, ?_⟩
      go_wp2_with fail
      have kF := row7 HK.out.2.1 (.int .i64 21) (.bool true) (.int .i64 0) (.int .i64 0) (.int .i64 0) (.int .i64 0) (.int .i64 0)
      have kB5 := below7 hq0 HK.out.2.2.2 (.int .i64 21) (.bool true) (.int .i64 0) (.int .i64 0) (.int .i64 0) (.int .i64 0) (.int .i64 0)
      obtain ⟨W5, hW5⟩ : ∃ W5, (((((((W).setCell ⟨q, 0, none⟩ (.int .i64 21)).setCell ⟨q, 1, none⟩ (.bool true)).setCell ⟨q, 2, none⟩ (.int .i64 0)).setCell ⟨q, 3, none⟩ (.int .i64 0)).setCell ⟨q, 4, none⟩ (.int .i64 0)).setCell ⟨q, 5, none⟩ (.int .i64 0)).setCell ⟨q, 6, none⟩ (.int .i64 0) = W5 := ⟨_, rfl⟩
      rw [hW5] at kF kB5 ⊢
      clear hW5 y0 y1 y2 y3 y4 y5 y6 f0 f1 f2 f3 f4 f5 f6 x0 x1 x2 x3 x4 x5 x6 r0 r1 r2 r3 r4 r5 r6 g0 g1 g2 g3 g4 g5 g6 lx lq ly
      obtain ⟨z0, z1, z2, z3, z4, z5, z6⟩ := cell7 kF
      exact bodyPost_ret (v := .tuple #[xv ⟨21, true, 0, 0, 0, 0, 0⟩, .bool false]) (by simp [results, Tryd.results40, go_sem, z0, z1, z2, z3, z4, z5, z6]) rfl ⟨by simp only [HB.out.1, HB.out.2, Bool.true_and] <;> first | rfl | simp, kB5⟩
    | false =>
      go_wp2_with fail
      refine ⟨rfl, ?_⟩
      go_wp2_with fail
      have kF := row7 HK.out.2.1 (.int .i64 21) (.bool false) (.int .i64 0) (.int .i64 0) (.int .i64 0) (.int .i64 0) (.int .i64 0)
      have kB5 := below7 hq0 HK.out.2.2.2 (.int .i64 21) (.bool false) (.int .i64 0) (.int .i64 0) (.int .i64 0) (.int .i64 0) (.int .i64 0)
      obtain ⟨W5, hW5⟩ : ∃ W5, (((((((W).setCell ⟨q, 0, none⟩ (.int .i64 21)).setCell ⟨q, 1, none⟩ (.bool false)).setCell ⟨q, 2, none⟩ (.int .i64 0)).setCell ⟨q, 3, none⟩ (.int .i64 0)).setCell ⟨q, 4, none⟩ (.int .i64 0)).setCell ⟨q, 5, none⟩ (.int .i64 0)).setCell ⟨q, 6, none⟩ (.int .i64 0) = W5 := ⟨_, rfl⟩
      rw [hW5] at kF kB5 ⊢
      clear hW5 y0 y1 y2 y3 y4 y5 y6 f0 f1 f2 f3 f4 f5 f6 x0 x1 x2 x3 x4 x5 x6 r0 r1 r2 r3 r4 r5 r6 g0 g1 g2 g3 g4 g5 g6 lx lq ly
      obtain ⟨z0, z1, z2, z3, z4, z5, z6⟩ := cell7 kF
      exact bodyPost_ret (v := .tuple #[xv ⟨21, false, 0, 0, 0, 0, 0⟩, .bool true]) (by simp [results, Tryd.results40, go_sem, z0, z1, z2, z3, z4, z5, z6]) rfl ⟨by simp only [HB.out.1, HB.out.2, Bool.true_and] <;> first | rfl | simp, kB5⟩
set_option maxHeartbeats 16000000 in
set_option maxRecDepth 100000 in
theorem shape_22 (wd : Bool) (r b i c n : Int) (w : World) (ht : Tab w) (hn : -9223372036854775808 ≤ n ∧ n ≤ 9223372036854775807) :
    Calls Tryd.prog 40 #[xv ⟨22, wd, r, b, i, c, n⟩] w fun e w' => e = .returned (.tuple #[xv ⟨22, wd, 0, 0, 0, 0, 0⟩, .bool ((reg r && reg b) && !wd)]) ∧ Below w.heap.size w w' := by
  have HT := Aside0.mk (And.intro ht hn)
  clear ht hn
  have cs : reg r = false ∨ (reg r = true ∧ reg b = false) ∨ (reg r = true ∧ reg b = true) := by cases reg r <;> cases reg b <;> simp
  rcases cs with hr | ⟨hr, hb⟩ | ⟨hr, hb⟩
  · have HB := Aside0.mk hr
    clear hr
    go_enter Tryd.func40, Tryd.ntmps40
    go_upto_block 1 with (first
        | (go_at_call 58; (with_reducible refine (Plain _ _ _ _ _ _ _ _).mono ?_); rintro e w1 ⟨rfl, rfl⟩)
        | (go_at_call 57; (with_reducible refine (Reg _ _).mono ?_); rw [HB.out]; rintro e w1 ⟨rfl, rfl⟩))
    obtain ⟨W, y, q, hW, hy, hq, hxy, hyx, hqy, hyq, hqx, hq0, hy0, HK⟩ := open5 w ⟨22, wd, r, b, i, c, n⟩ ⟨0, false, 0, 0, 0, 0, 0⟩ ⟨22, wd, 0, 0, 0, 0, 0⟩
    rw [hW, hy, hq]
    clear hW hy hq
    apply wp_block
    apply mono0 (k := 14)
    · (intro a w h; (repeat (first | refine then_out ?_ | refine block_out (by decide) ?_)); exact block_in (then_in h))
    go_wp2_with fail
    refine ⟨rfl, ?_⟩
    go_step
    apply mono0 (k := 0)
    · (intro a w h; (repeat (first | refine then_out ?_ | refine block_out (by decide) ?_)); exact block_in (then_in h))
    obtain ⟨y0, y1, y2, y3, y4, y5, y6⟩ := cell7 HK.out.2.2.1
    obtain ⟨f0, f1, f2, f3, f4, f5, f6⟩ := froz7 HK.out.2.2.1
    obtain ⟨x0, x1, x2, x3, x4, x5, x6⟩ := cell7 HK.out.1
    obtain ⟨r0, r1, r2, r3, r4, r5, r6⟩ := cell7 HK.out.2.1
    obtain ⟨g0, g1, g2, g3, g4, g5, g6⟩ := froz7 HK.out.2.1
    have lx := blk_lt HK.out.1
    have lq := blk_lt HK.out.2.1
    have ly := blk_lt HK.out.2.2.1
    go_wp2_with fail
    refine ⟨rfl, ?_⟩
    go_wp2_with fail
    have kF := row7 HK.out.2.1 (.int .i64 22) (.bool wd) (.int .i64 0) (.int .i64 0) (.int .i64 0) (.int .i64 0) (.int .i64 0)
    have kB5 := below7 hq0 HK.out.2.2.2 (.int .i64 22) (.bool wd) (.int .i64 0) (.int .i64 0) (.int .i64 0) (.int .i64 0) (.int .i64 0)
    obtain ⟨W5, hW5⟩ : ∃ W5, (((((((W).setCell ⟨q, 0, none⟩ (.int .i64 22)).setCell ⟨q, 1, none⟩ (.bool wd)).setCell ⟨q, 2, none⟩ (.int .i64 0)).setCell ⟨q, 3, none⟩ (.int .i64 0)).setCell ⟨q, 4, none⟩ (.int .i64 0)).setCell ⟨q, 5, none⟩ (.int .i64 0)).setCell ⟨q, 6, none⟩ (.int .i64 0) = W5 := ⟨_, rfl⟩
    rw [hW5] at kF kB5 ⊢
    clear hW5 y0 y1 y2 y3 y4 y5 y6 f0 f1 f2 f3 f4 f5 f6 x0 x1 x2 x3 x4 x5 x6 r0 r1 r2 r3 r4 r5 r6 g0 g1 g2 g3 g4 g5 g6 lx lq ly
    obtain ⟨z0, z1, z2, z3, z4, z5, z6⟩ := cell7 kF
    exact bodyPost_ret (v := .tuple #[xv ⟨22, wd, 0, 0, 0, 0, 0⟩, .bool false]) (by simp [results, Tryd.results40, go_sem, z0, z1, z2, z3, z4, z5, z6]) rfl ⟨by simp only [HB.out, Bool.false_and] <;> first | rfl | simp, kB5⟩
  · have HB := Aside0.mk (And.intro hr hb)
    clear hr hb
    go_enter Tryd.func40, Tryd.ntmps40
    go_upto_block 1 with (first
        | (go_at_call 58; (with_reducible refine (Plain _ _ _ _ _ _ _ _).mono ?_); rintro e w1 ⟨rfl, rfl⟩)
        | (go_at_call 57; (with_reducible refine (Reg r _).mono ?_); rw [HB.out.1]; rintro e w1 ⟨rfl, rfl⟩)
        | (go_at_call 57; (with_reducible refine (Reg b _).mono ?_); rw [HB.out.2]; rintro e w1 ⟨rfl, rfl⟩))
    obtain ⟨W, y, q, hW, hy, hq, hxy, hyx, hqy, hyq, hqx, hq0, hy0, HK⟩ := open5 w ⟨22, wd, r, b, i, c, n⟩ ⟨0, false, 0, 0, 0, 0, 0⟩ ⟨22, wd, 0, 0, 0, 0, 0⟩
    rw [hW, hy, hq]
    clear hW hy hq
    apply wp_block
    apply mono0 (k := 14)
    · (intro a w h; (repeat (first | refine then_out ?_ | refine block_out (by decide) ?_)); exact block_in (then_in h))
    go_wp2_with fail
    refine ⟨rfl, ?_⟩
    go_step
    apply mono0 (k := 0)
    · (intro a w h; (repeat (first | refine then_out ?_ | refine block_out (by decide) ?_)); exact block_in (then_in h))
    obtain ⟨y0, y1, y2, y3, y4, y5, y6⟩ := cell7 HK.out.2.2.1
    obtain ⟨f0, f1, f2, f3, f4, f5, f6⟩ := froz7 HK.out.2.2.1
    obtain ⟨x0, x1, x2, x3, x4, x5, x6⟩ := cell7 HK.out.1
    obtain ⟨r0, r1, r2, r3, r4, r5, r6⟩ := cell7 HK.out.2.1
    obtain ⟨g0, g1, g2, g3, g4, g5, g6⟩ := froz7 HK.out.2.1
    have lx := blk_lt HK.out.1
    have lq := blk_lt HK.out.2.1
    have ly := blk_lt HK.out.2.2.1
    go_wp2_with fail
    refine ⟨rfl, ?_⟩
    go_wp2_with fail
    have kF := row7 HK.out.2.1 (.int .i64 22) (.bool wd) (.int .i64 0) (.int .i64 0) (.int .i64 0) (.int .i64 0) (.int .i64 0)
    have kB5 := below7 hq0 HK.out.2.2.2 (.int .i64 22) (.bool wd) (.int .i64 0) (.int .i64 0) (.int .i64 0) (.int .i64 0) (.int .i64 0)
    obtain ⟨W5, hW5⟩ : ∃ W5, (((((((W).setCell ⟨q, 0, none⟩ (.int .i64 22)).setCell ⟨q, 1, none⟩ (.bool wd)).setCell ⟨q, 2, none⟩ (.int .i64 0)).setCell ⟨q, 3, none⟩ (.int .i64 0)).setCell ⟨q, 4, none⟩ (.int .i64 0)).setCell ⟨q, 5, none⟩ (.int .i64 0)).setCell ⟨q, 6, none⟩ (.int .i64 0) = W5 := ⟨_, rfl⟩
    rw [hW5] at kF kB5 ⊢
    clear hW5 y0 y1 y2 y3 y4 y5 y6 f0 f1 f2 f3 f4 f5 f6 x0 x1 x2 x3 x4 x5 x6 r0 r1 r2 r3 r4 r5 r6 g0 g1 g2 g3 g4 g5 g6 lx lq ly
    obtain ⟨z0, z1, z2, z3, z4, z5, z6⟩ := cell7 kF
    exact bodyPost_ret (v := .tuple #[xv ⟨22, wd, 0, 0, 0, 0, 0⟩, .bool false]) (by simp [results, Tryd.results40, go_sem, z0, z1, z2, z3, z4, z5, z6]) rfl ⟨by simp only [HB.out.1, HB.out.2, Bool.true_and] <;> first | rfl | simp, kB5⟩
  · have HB := Aside0.mk (And.intro hr hb)
    clear hr hb
    go_enter Tryd.func40, Tryd.ntmps40
    go_upto_block 1 with (first
        | (go_at_call 58; (with_reducible refine (Plain _ _ _ _ _ _ _ _).mono ?_); rintro e w1 ⟨rfl, rfl⟩)
        | (go_at_call 57; (with_reducible refine (Reg r _).mono ?_); rw [HB.out.1]; rintro e w1 ⟨rfl, rfl⟩)
        | (go_at_call 57; (with_reducible refine (Reg b _).mono ?_); rw [HB.out.2]; rintro e w1 ⟨rfl, rfl⟩))
    obtain ⟨W, y, q, hW, hy, hq, hxy, hyx, hqy, hyq, hqx, hq0, hy0, HK⟩ := open5 w ⟨22, wd, r, b, i, c, n⟩ ⟨0, false, 0, 0, 0, 0, 0⟩ ⟨22, wd, 0, 0, 0, 0, 0⟩
    rw [hW, hy, hq]
    clear hW hy hq
    apply wp_block
    apply mono0 (k := 14)
    · (intro a w h; (repeat (first | refine then_out ?_ | refine block_out (by decide) ?_)); exact block_in (then_in h))
    go_wp2_with fail
    refine ⟨rfl, ?_⟩
    go_step
    apply mono0 (k := 0)
    · (intro a w h; (repeat (first | refine then_out ?_ | refine block_out (by decide) ?_)); exact block_in (then_in h))
    obtain ⟨y0, y1, y2, y3, y4, y5, y6⟩ := cell7 HK.out.2.2.1
    obtain ⟨f0, f1, f2, f3, f4, f5, f6⟩ := froz7 HK.out.2.2.1
    obtain ⟨x0, x1, x2, x3, x4, x5, x6⟩ := cell7 HK.out.1
    obtain ⟨r0, r1, r2, r3, r4, r5, r6⟩ := cell7 HK.out.2.1
    obtain ⟨g0, g1, g2, g3, g4, g5, g6⟩ := froz7 HK.out.2.1
    have lx := blk_lt HK.out.1
    have lq := blk_lt HK.out.2.1
    have ly := blk_lt HK.out.2.2.1
    cases wd with
    | true =>
      go_wp2_with fail
      refine ⟨rfl, ?_⟩
      go_wp2_with fail
      have kF := row7 HK.out.2.1 (.int .i64 22) (.bool true) (.int .i64 0) (.int .i64 0) (.int .i64 0) (.int .i64 0) (.int .i64 0)
      have kB5 := below7 hq0 HK.out.2.2.2 (.int .i64 22) (.bool true) (.int .i64 0) (.int .i64 0) (.int .i64 0) (.int .i64 0) (.int .i64 0)
      obtain ⟨W5, hW5⟩ : ∃ W5, (((((((W).setCell ⟨q, 0, none⟩ (.int .i64 22)).setCell ⟨q, 1, none⟩ (.bool true)).setCell ⟨q, 2, none⟩ (.int .i64 0)).setCell ⟨q, 3, none⟩ (.int .i64 0)).setCell ⟨q, 4, none⟩ (.int .i64 0)).setCell ⟨q, 5, none⟩ (.int .i64 0)).setCell ⟨q, 6, none⟩ (.int .i64 0) = W5 := ⟨_, rfl⟩
      rw [hW5] at kF kB5 ⊢
      clear hW5 y0 y1 y2 y3 y4 y5 y6 f0 f1 f2 f3 f4 f5 f6 x0 x1 x2 x3 x4 x5 x6 r0 r1 r2 r3 r4 r5 r6 g0 g1 g2 g3 g4 g5 g6 lx lq ly
      obtain ⟨z0, z1, z2, z3, z4, z5, z6⟩ := cell7 kF
      exact bodyPost_ret (v := .tuple #[xv ⟨22, true, 0, 0, 0, 0, 0⟩, .bool false]) (by simp [results, Tryd.results40, go_sem, z0, z1, z2, z3, z4, z5, z6]) rfl ⟨by simp only [HB.out.1, HB.out.2, Bool.true_and] <;> first | rfl | simp, kB5⟩
    | false =>
      go_wp2_with fail
      refine ⟨rfl, ?_⟩
      go_wp2_with fail
      have kF := row7 HK.out.2.1 (.int .i64 22) (.bool false) (.int .i64 0) (.int .i64 0) (.int .i64 0) (.int .i64 0) (.int .i64 0)
      have kB5 := below7 hq0 HK.out.2.2.2 (.int .i64 22) (.bool false) (.int .i64 0) (.int .i64 0) (.int .i64 0) (.int .i64 0) (.int .i64 0)
      obtain ⟨W5, hW5⟩ : ∃ W5, (((((((W).setCell ⟨q, 0, none⟩ (.int .i64 22)).setCell ⟨q, 1, none⟩ (.bool false)).setCell ⟨q, 2, none⟩ (.int .i64 0)).setCell ⟨q, 3, none⟩ (.int .i64 0)).setCell ⟨q, 4, none⟩ (.int .i64 0)).setCell ⟨q, 5, none⟩ (.int .i64 0)).setCell ⟨q, 6, none⟩ (.int .i64 0) = W5 := ⟨_, rfl⟩
      rw [hW5] at kF kB5 ⊢
      clear hW5 y0 y1 y2 y3 y4 y5 y6 f0 f1 f2 f3 f4 f5 f6 x0 x1 x2 x3 x4 x5 x6 r0 r1 r2 r3 r4 r5 r6 g0 g1 g2 g3 g4 g5 g6 lx lq ly
      obtain ⟨z0, z1, z2, z3, z4, z5, z6⟩ := cell7 kF
      exact bodyPost_ret (v := .tuple #[xv ⟨22, false, 0, 0, 0, 0, 0⟩, .bool true]) (by simp [results, Tryd.results40, go_sem, z0, z1, z2, z3, z4, z5, z6]) rfl ⟨by simp only [HB.out.1, HB.out.2, Bool.true_and] <;> first | rfl | simp, kB5⟩
set_option maxHeartbeats 16000000 in
set_option maxRecDepth 100000 in
theorem shape_23 (wd : Bool) (r b i c n : Int) (w : World) (ht : Tab w) (hn : -9223372036854775808 ≤ n ∧ n ≤ 9223372036854775807) :
    Calls Tryd.prog 40 #[xv ⟨23, wd, r, b, i, c, n⟩] w fun e w' => e = .returned (.tuple #[xv ⟨23, wd, 0, 0, 0, 0, 0⟩, .bool ((reg r && reg b) && !wd)]) ∧ Below w.heap.size w w' := by
  have HT := Aside0.mk (And.intro ht hn)
  clear ht hn
  have cs : reg r = false ∨ (reg r = true ∧ reg b = false) ∨ (reg r = true ∧ reg b = true) := by cases reg r <;> cases reg b <;> simp
  rcases cs with hr | ⟨hr, hb⟩ | ⟨hr, hb⟩
  · have HB := Aside0.mk hr
    clear hr
    go_enter Tryd.func40, Tryd.ntmps40
    go_upto_block 1 with (first
        | (go_at_call 58; (with_reducible refine (Plain _ _ _ _ _ _ _ _).mono ?_); rintro e w1 ⟨rfl, rfl⟩)
        | (go_at_call 57; (with_reducible refine (Reg _ _).mono ?_); rw [HB.out]; rintro e w1 ⟨rfl, rfl⟩))
    obtain ⟨W, y, q, hW, hy, hq, hxy, hyx, hqy, hyq, hqx, hq0, hy0, HK⟩ := open5 w ⟨23, wd, r, b, i, c, n⟩ ⟨0, false, 0, 0, 0, 0, 0⟩ ⟨23, wd, 0, 0, 0, 0, 0⟩
    rw [hW, hy, hq]
    clear hW hy hq
    apply wp_block
    apply mono0 (k := 14)
    · (intro a w h; (repeat (first | refine then_out ?_ | refine block_out (by decide) ?_)); exact block_in (then_in h))
    go_wp2_with fail
    refine ⟨rfl, ?_⟩
    go_step
    apply mono0 (k := 0)
    · (intro a w h; (repeat (first | refine then_out ?_ | refine block_out (by decide) ?_)); exact block_in (then_in h))
    obtain ⟨y0, y1, y2, y3, y4, y5, y6⟩ := cell7 HK.out.2.2.1
    obtain ⟨f0, f1, f2, f3, f4, f5, f6⟩ := froz7 HK.out.2.2.1
    obtain ⟨x0, x1, x2, x3, x4, x5, x6⟩ := cell7 HK.out.1
    obtain ⟨r0, r1, r2, r3, r4, r5, r6⟩ := cell7 HK.out.2.1
    obtain ⟨g0, g1, g2, g3, g4, g5, g6⟩ := froz7 HK.out.2.1
    have lx := blk_lt HK.out.1
    have lq := blk_lt HK.out.2.1
    have ly := blk_lt HK.out.2.2.1
    go_wp2_with fail
    refine ⟨rfl, ?_⟩
    go_wp2_with fail
    have kF := row7 HK.out.2.1 (.int .i64 23) (.bool wd) (.int .i64 0) (.int .i64 0) (.int .i64 0) (.int .i64 0) (.int .i64 0)
    have kB5 := below7 hq0 HK.out.2.2.2 (.int .i64 23) (.bool wd) (.int .i64 0) (.int .i64 0) (.int .i64 0) (.int .i64 0) (.int .i64 0)
    obtain ⟨W5, hW5⟩ : ∃ W5, (((((((W).setCell ⟨q, 0, none⟩ (.int .i64 23)).setCell ⟨q, 1, none⟩ (.bool wd)).setCell ⟨q, 2, none⟩ (.int .i64 0)).setCell ⟨q, 3, none⟩ (.int .i64 0)).setCell ⟨q, 4, none⟩ (.int .i64 0)).setCell ⟨q, 5, none⟩ (.int .i64 0)).setCell ⟨q, 6, none⟩ (.int .i64 0) = W5 := ⟨_, rfl⟩
    rw [hW5] at kF kB5 ⊢
    clear hW5 y0 y1 y2 y3 y4 y5 y6 f0 f1 f2 f3 f4 f5 f6 x0 x1 x2 x3 x4 x5 x6 r0 r1 r2 r3 r4 r5 r6 g0 g1 g2 g3 g4 g5 g6 lx lq ly
    obtain ⟨z0, z1, z2, z3, z4, z5, z6⟩ := cell7 kF
    exact bodyPost_ret (v := .tuple #[xv ⟨23, wd, 0, 0, 0, 0, 0⟩, .bool false]) (by simp [results, Tryd.results40, go_sem, z0, z1, z2, z3, z4, z5, z6]) rfl ⟨by simp only [HB.out, Bool.false_and] <;> first | rfl | simp, kB5⟩
  · have HB := Aside0.mk (And.intro hr hb)
    clear hr hb
    go_enter Tryd.func40, Tryd.ntmps40
    go_upto_block 1 with (first
        | (go_at_call 58; (with_reducible refine (Plain _ _ _ _ _ _ _ _).mono ?_); rintro e w1 ⟨rfl, rfl⟩)
        | (go_at_call 57; (with_reducible refine (Reg r _).mono ?_); rw [HB.out.1]; rintro e w1 ⟨rfl, rfl⟩)
        | (go_at_call 57; (with_reducible refine (Reg b _).mono ?_); rw [HB.out.2]; rintro e w1 ⟨rfl, rfl⟩))
    obtain ⟨W, y, q, hW, hy, hq, hxy, hyx, hqy, hyq, hqx, hq0, hy0, HK⟩ := open5 w ⟨23, wd, r, b, i, c, n⟩ ⟨0, false, 0, 0, 0, 0, 0⟩ ⟨23, wd, 0, 0, 0, 0, 0⟩
    rw [hW, hy, hq]
    clear hW hy hq
    apply wp_block
    apply mono0 (k := 14)
    · (intro a w h; (repeat (first | refine then_out ?_ | refine block_out (by decide) ?_)); exact block_in (then_in h))
    go_wp2_with fail
    refine ⟨rfl, ?_⟩
    go_step
    apply mono0 (k := 0)
    · (intro a w h; (repeat (first | refine then_out ?_ | refine block_out (by decide) ?_)); exact block_in (then_in h))
    obtain ⟨y0, y1, y2, y3, y4, y5, y6⟩ := cell7 HK.out.2.2.1
    obtain ⟨f0, f1, f2, f3, f4, f5, f6⟩ := froz7 HK.out.2.2.1
    obtain ⟨x0, x1, x2, x3, x4, x5, x6⟩ := cell7 HK.out.1
    obtain ⟨r0, r1, r2, r3, r4, r5, r6⟩ := cell7 HK.out.2.1
    obtain ⟨g0, g1, g2, g3, g4, g5, g6⟩ := froz7 HK.out.2.1
    have lx := blk_lt HK.out.1
    have lq := blk_lt HK.out.2.1
    have ly := blk_lt HK.out.2.2.1
    go_wp2_with fail
    refine ⟨rfl, ?_⟩
    go_wp2_with fail
    have kF := row7 HK.out.2.1 (.int .i64 23) (.bool wd) (.int .i64 0) (.int .i64 0) (.int .i64 0) (.int .i64 0) (.int .i64 0)
    have kB5 := below7 hq0 HK.out.2.2.2 (.int .i64 23) (.bool wd) (.int .i64 0) (.int .i64 0) (.int .i64 0) (.int .i64 0) (.int .i64 0)
    obtain ⟨W5, hW5⟩ : ∃ W5, (((((((W).setCell ⟨q, 0, none⟩ (.int .i64 23)).setCell ⟨q, 1, none⟩ (.bool wd)).setCell ⟨q, 2, none⟩ (.int .i64 0)).setCell ⟨q, 3, none⟩ (.int .i64 0)).setCell ⟨q, 4, none⟩ (.int .i64 0)).setCell ⟨q, 5, none⟩ (.int .i64 0)).setCell ⟨q, 6, none⟩ (.int .i64 0) = W5 := ⟨_, rfl⟩
    rw [hW5] at kF kB5 ⊢
    clear hW5 y0 y1 y2 y3 y4 y5 y6 f0 f1 f2 f3 f4 f5 f6 x0 x1 x2 x3 x4 x5 x6 r0 r1 r2 r3 r4 r5 r6 g0 g1 g2 g3 g4 g5 g6 lx lq ly
    obtain ⟨z0, z1, z2, z3, z4, z5, z6⟩ := cell7 kF
    exact bodyPost_ret (v := .tuple #[xv ⟨23, wd, 0, 0, 0, 0, 0⟩, .bool false]) (by simp [results, Tryd.results40, go_sem, z0, z1, z2, z3, z4, z5, z6]) rfl ⟨by simp only [HB.out.1, HB.out.2, Bool.true_and] <;> first | rfl | simp, kB5⟩
  · have HB := Aside0.mk (And.intro hr hb)
    clear hr hb
    go_enter Tryd.func40, Tryd.ntmps40
    go_upto_block 1 with (first
        | (go_at_call 58; (with_reducible refine (Plain _ _ _ _ _ _ _ _).mono ?_); rintro e w1 ⟨rfl, rfl⟩)
        | (go_at_call 57; (with_reducible refine (Reg r _).mono ?_); rw [HB.out.1]; rintro e w1 ⟨rfl, rfl⟩)
        | (go_at_call 57; (with_reducible refine (Reg b _).mono ?_); rw [HB.out.2]; rintro e w1 ⟨rfl, rfl⟩))
    obtain ⟨W, y, q, hW, hy, hq, hxy, hyx, hqy, hyq, hqx, hq0, hy0, HK⟩ := open5 w ⟨23, wd, r, b, i, c, n⟩ ⟨0, false, 0, 0, 0, 0, 0⟩ ⟨23, wd, 0, 0, 0, 0, 0⟩
    rw [hW, hy, hq]
    clear hW hy hq
    apply wp_block
    apply mono0 (k := 14)
    · (intro a w h; (repeat (first | refine then_out ?_ | refine block_out (by decide) ?_)); exact block_in (then_in h))
    go_wp2_with fail
    refine ⟨rfl, ?_⟩
    go_step
    apply mono0 (k := 0)
    · (intro a w h; (repeat (first | refine then_out ?_ | refine block_out (by decide) ?_)); exact block_in (then_in h))
    obtain ⟨y0, y1, y2, y3, y4, y5, y6⟩ := cell7 HK.out.2.2.1
    obtain ⟨f0, f1, f2, f3, f4, f5, f6⟩ := froz7 HK.out.2.2.1
    obtain ⟨x0, x1, x2, x3, x4, x5, x6⟩ := cell7 HK.out.1
    obtain ⟨r0, r1, r2, r3, r4, r5, r6⟩ := cell7 HK.out.2.1
    obtain ⟨g0, g1, g2, g3, g4, g5, g6⟩ := froz7 HK.out.2.1
    have lx := blk_lt HK.out.1
    have lq := blk_lt HK.out.2.1
    have ly := blk_lt HK.out.2.2.1
    cases wd with
    | true =>
      go_wp2_with fail
      refine ⟨rfl, ?_⟩
      go_wp2_with fail
      have kF := row7 HK.out.2.1 (.int .i64 23) (.bool true) (.int .i64 0) (.int .i64 0) (.int .i64 0) (.int .i64 0) (.int .i64 0)
      have kB5 := below7 hq0 HK.out.2.2.2 (.int .i64 23) (.bool true) (.int .i64 0) (.int .i64 0) (.int .i64 0) (.int .i64 0) (.int .i64 0)
      obtain ⟨W5, hW5⟩ : ∃ W5, (((((((W).setCell ⟨q, 0, none⟩ (.int .i64 23)).setCell ⟨q, 1, none⟩ (.bool true)).setCell ⟨q, 2, none⟩ (.int .i64 0)).setCell ⟨q, 3, none⟩ (.int .i64 0)).setCell ⟨q, 4, none⟩ (.int .i64 0)).setCell ⟨q, 5, none⟩ (.int .i64 0)).setCell ⟨q, 6, none⟩ (.int .i64 0) = W5 := ⟨_, rfl⟩
      rw [hW5] at kF kB5 ⊢
      clear hW5 y0 y1 y2 y3 y4 y5 y6 f0 f1 f2 f3 f4 f5 f6 x0 x1 x2 x3 x4 x5 x6 r0 r1 r2 r3 r4 r5 r6 g0 g1 g2 g3 g4 g5 g6 lx lq ly
      obtain ⟨z0, z1, z2, z3, z4, z5, z6⟩ := cell7 kF
      exact bodyPost_ret (v := .tuple #[xv ⟨23, true, 0, 0, 0, 0, 0⟩, .bool false]) (by simp [results, Tryd.results40, go_sem, z0, z1, z2, z3, z4, z5, z6]) rfl ⟨by simp only [HB.out.1, HB.out.2, Bool.true_and] <;> first | rfl | simp, kB5⟩
    | false =>
      go_wp2_with fail
      refine ⟨rfl, ?_⟩
      go_wp2_with fail
      have kF := row7 HK.out.2.1 (.int .i64 23) (.bool false) (.int .i64 0) (.int .i64 0) (.int .i64 0) (.int .i64 0) (.int .i64 0)
      have kB5 := below7 hq0 HK.out.2.2.2 (.int .i64 23) (.bool false) (.int .i64 0) (.int .i64 0) (.int .i64 0) (.int .i64 0) (.int .i64 0)
      obtain ⟨W5, hW5⟩ : ∃ W5, (((((((W).setCell ⟨q, 0, none⟩ (.int .i64 23)).setCell ⟨q, 1, none⟩ (.bool false)).setCell ⟨q, 2, none⟩ (.int .i64 0)).setCell ⟨q, 3, none⟩ (.int .i64 0)).setCell ⟨q, 4, none⟩ (.int .i64 0)).setCell ⟨q, 5, none⟩ (.int .i64 0)).setCell ⟨q, 6, none⟩ (.int .i64 0) = W5 := ⟨_, rfl⟩
      rw [hW5] at kF kB5 ⊢
      clear hW5 y0 y1 y2 y3 y4 y5 y6 f0 f1 f2 f3 f4 f5 f6 x0 x1 x2 x3 x4 x5 x6 r0 r1 r2 r3 r4 r5 r6 g0 g1 g2 g3 g4 g5 g6 lx lq ly
      obtain ⟨z0, z1, z2, z3, z4, z5, z6⟩ := cell7 kF
      exact bodyPost_ret (v := .tuple #[xv ⟨23, false, 0, 0, 0, 0, 0⟩, .bool true]) (by simp [results, Tryd.results40, go_sem, z0, z1, z2, z3, z4, z5, z6]) rfl ⟨by simp only [HB.out.1, HB.out.2, Bool.true_and] <;> first | rfl | simp, kB5⟩
end Go.Proofs.YtkfinaongajhmaaDoor.X

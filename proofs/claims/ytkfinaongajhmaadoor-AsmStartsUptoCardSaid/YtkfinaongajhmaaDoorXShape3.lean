/- What an instruction's fields may be: what the program's function computes, kinds 3, 7, 15. No condition but that the table of conditions holds what the program's text lays, and that numbers are those of the language. -/
import Derived.Test.YtkfinaongajhmaaDoorXSmall
import Derived.Deep.DeepCutAuto
import Derived.Deep.CutBlock
import Derived.BigRegion
import Derived.Deep.RegionHeld3
namespace Go.Proofs.YtkfinaongajhmaaDoor.X
open Go.Ob Go.Ob.Xc Go.RowKit Go.Proofs.YtkfinaongajhmaaDoorW.PrintWords Go.Proofs.YtkfinaongajhmaaDoorW.PrintMore
attribute [local go_sem] max2_int min2_int max_two min_two
set_option linter.unusedVariables false
set_option linter.unusedSimpArgs false
set_option maxHeartbeats 16000000 in
set_option maxRecDepth 100000 in
theorem shape_3 (wd : Bool) (r b i c n : Int) (w : World) (ht : Tab w) (hn : -9223372036854775808 ≤ n ∧ n ≤ 9223372036854775807) :
    Calls Tryd.prog 40 #[xv ⟨3, wd, r, b, i, c, n⟩] w fun e w' => e = .returned (.tuple #[xv ⟨3, wd, r, b, 0, c, 0⟩, .bool ((reg r && reg b) && alu c)]) ∧ Below w.heap.size w w' := by
  have HT := Aside0.mk (And.intro ht hn)
  clear ht hn
  have cs : reg r = false ∨ (reg r = true ∧ reg b = false) ∨ (reg r = true ∧ reg b = true) := by cases reg r <;> cases reg b <;> simp
  rcases cs with hr | ⟨hr, hb⟩ | ⟨hr, hb⟩
  · have HB := Aside0.mk hr
    clear hr
    go_enter Tryd.func40, Tryd.ntmps40
    go_upto_block 1 with (first
        | (go_at_call 58; (with_reducible refine (Plain _ _ _ _ _ _ _ _).mono ?_); rintro e w1 ⟨rfl, rfl⟩)
        | (go_at_call 57; (with_reducible refine (Reg _ _).mono ?_); rw [HB.out]; rintro e w1 ⟨rfl, rfl⟩))
    obtain ⟨W, y, q, hW, hy, hq, hxy, hyx, hqy, hyq, hqx, hq0, hy0, HK⟩ := open5 w ⟨3, wd, r, b, i, c, n⟩ ⟨0, false, 0, 0, 0, 0, 0⟩ ⟨3, wd, 0, 0, 0, 0, 0⟩
    rw [hW, hy, hq]
    clear hW hy hq
    apply wp_block
    apply mono0 (k := 5)
    · (intro a w h; (repeat (first | refine then_out ?_ | refine block_out (by decide) ?_)); exact block_in (then_in h))
    go_wp2_with fail
    refine ⟨rfl, ?_⟩
    go_step
    apply mono0 (k := 0)
    · (intro a w h; (repeat (first | refine then_out ?_ | refine block_out (by decide) ?_)); exact block_in (then_in h))
    obtain ⟨y0, y1, y2, y3, y4, y5, y6⟩ := cell7 HK.out.2.2.1
    obtain ⟨f0, f1, f2, f3, f4, f5, f6⟩ := froz7 HK.out.2.2.1
    obtain ⟨x0, x1, x2, x3, x4, x5, x6⟩ := cell7 HK.out.1
    obtain ⟨r0, r1, r2, r3, r4, r5, r6⟩ := cell7 HK.out.2.1
    obtain ⟨g0, g1, g2, g3, g4, g5, g6⟩ := froz7 HK.out.2.1
    have lx := blk_lt HK.out.1
    have lq := blk_lt HK.out.2.1
    have ly := blk_lt HK.out.2.2.1
    go_wp2_with fail
    go_region_held3 (fun wr => wr.cell? ⟨w.heap.size, 2, none⟩ = some (.int .i64 r) ∧ wr.cell? ⟨w.heap.size, 3, none⟩ = some (.int .i64 b) ∧ wr.cell? ⟨w.heap.size, 5, none⟩ = some (.int .i64 c)) (go_keep) (fail)
    clear y0 y1 y2 y3 y4 y5 y6 f0 f1 f2 f3 f4 f5 f6 x0 x1 x2 x3 x4 x5 x6 r0 r1 r2 r3 r4 r5 r6 g0 g1 g2 g3 g4 g5 g6 lx lq ly
    obtain ⟨W21, hW⟩ : ∃ W2, ((((W).setCell ⟨y, 2, none⟩ (.int .i64 r)).setCell ⟨y, 3, none⟩ (.int .i64 b)).setCell ⟨y, 5, none⟩ (.int .i64 c)).drew = W2 := ⟨_, rfl⟩
    have kX := blk_drew (blk_far (blk_far (blk_far HK.out.1 (p := ⟨y, 2, none⟩) hxy (.int .i64 r)) (p := ⟨y, 3, none⟩) hxy (.int .i64 b)) (p := ⟨y, 5, none⟩) hxy (.int .i64 c))
    have kR := blk_drew (blk_far (blk_far (blk_far HK.out.2.1 (p := ⟨y, 2, none⟩) hqy (.int .i64 r)) (p := ⟨y, 3, none⟩) hqy (.int .i64 b)) (p := ⟨y, 5, none⟩) hqy (.int .i64 c))
    have kY := blk_drew (blk_put (blk_put (blk_put HK.out.2.2.1 2 (.int .i64 r) #[.int .i64 3, .bool wd, .int .i64 r, .int .i64 0, .int .i64 0, .int .i64 0, .int .i64 0] rfl) 3 (.int .i64 b) #[.int .i64 3, .bool wd, .int .i64 r, .int .i64 b, .int .i64 0, .int .i64 0, .int .i64 0] rfl) 5 (.int .i64 c) #[.int .i64 3, .bool wd, .int .i64 r, .int .i64 b, .int .i64 0, .int .i64 c, .int .i64 0] rfl)
    have kB := below_drew (Below.setCell (Below.setCell (Below.setCell HK.out.2.2.2 (p := ⟨y, 2, none⟩) hy0 (.int .i64 r)) (p := ⟨y, 3, none⟩) hy0 (.int .i64 b)) (p := ⟨y, 5, none⟩) hy0 (.int .i64 c))
    rw [hW] at kX kR kY kB ⊢
    have HK21 := Aside0.mk (And.intro kX (And.intro kR (And.intro kY kB)))
    clear hW kX kR kY kB
    obtain ⟨y0, y1, y2, y3, y4, y5, y6⟩ := cell7 HK21.out.2.2.1
    obtain ⟨f0, f1, f2, f3, f4, f5, f6⟩ := froz7 HK21.out.2.2.1
    obtain ⟨x0, x1, x2, x3, x4, x5, x6⟩ := cell7 HK21.out.1
    obtain ⟨r0, r1, r2, r3, r4, r5, r6⟩ := cell7 HK21.out.2.1
    obtain ⟨g0, g1, g2, g3, g4, g5, g6⟩ := froz7 HK21.out.2.1
    have lx := blk_lt HK21.out.1
    have lq := blk_lt HK21.out.2.1
    have ly := blk_lt HK21.out.2.2.1
    go_wp2_with fail
    refine ⟨rfl, ?_⟩
    go_wp2_with fail
    have kF := row7 HK21.out.2.1 (.int .i64 3) (.bool wd) (.int .i64 r) (.int .i64 b) (.int .i64 0) (.int .i64 c) (.int .i64 0)
    have kB5 := below7 hq0 HK21.out.2.2.2 (.int .i64 3) (.bool wd) (.int .i64 r) (.int .i64 b) (.int .i64 0) (.int .i64 c) (.int .i64 0)
    obtain ⟨W5, hW5⟩ : ∃ W5, (((((((W21).setCell ⟨q, 0, none⟩ (.int .i64 3)).setCell ⟨q, 1, none⟩ (.bool wd)).setCell ⟨q, 2, none⟩ (.int .i64 r)).setCell ⟨q, 3, none⟩ (.int .i64 b)).setCell ⟨q, 4, none⟩ (.int .i64 0)).setCell ⟨q, 5, none⟩ (.int .i64 c)).setCell ⟨q, 6, none⟩ (.int .i64 0) = W5 := ⟨_, rfl⟩
    rw [hW5] at kF kB5 ⊢
    clear hW5 y0 y1 y2 y3 y4 y5 y6 f0 f1 f2 f3 f4 f5 f6 x0 x1 x2 x3 x4 x5 x6 r0 r1 r2 r3 r4 r5 r6 g0 g1 g2 g3 g4 g5 g6 lx lq ly
    obtain ⟨z0, z1, z2, z3, z4, z5, z6⟩ := cell7 kF
    exact bodyPost_ret (v := .tuple #[xv ⟨3, wd, r, b, 0, c, 0⟩, .bool false]) (by simp [results, Tryd.results40, go_sem, z0, z1, z2, z3, z4, z5, z6]) rfl ⟨by simp only [HB.out, Bool.false_and] <;> first | rfl | simp, kB5⟩
  · have HB := Aside0.mk (And.intro hr hb)
    clear hr hb
    go_enter Tryd.func40, Tryd.ntmps40
    go_upto_block 1 with (first
        | (go_at_call 58; (with_reducible refine (Plain _ _ _ _ _ _ _ _).mono ?_); rintro e w1 ⟨rfl, rfl⟩)
        | (go_at_call 57; (with_reducible refine (Reg r _).mono ?_); rw [HB.out.1]; rintro e w1 ⟨rfl, rfl⟩)
        | (go_at_call 57; (with_reducible refine (Reg b _).mono ?_); rw [HB.out.2]; rintro e w1 ⟨rfl, rfl⟩))
    obtain ⟨W, y, q, hW, hy, hq, hxy, hyx, hqy, hyq, hqx, hq0, hy0, HK⟩ := open5 w ⟨3, wd, r, b, i, c, n⟩ ⟨0, false, 0, 0, 0, 0, 0⟩ ⟨3, wd, 0, 0, 0, 0, 0⟩
    rw [hW, hy, hq]
    clear hW hy hq
    apply wp_block
    apply mono0 (k := 5)
    · (intro a w h; (repeat (first | refine then_out ?_ | refine block_out (by decide) ?_)); exact block_in (then_in h))
    go_wp2_with fail
    refine ⟨rfl, ?_⟩
    go_step
    apply mono0 (k := 0)
    · (intro a w h; (repeat (first | refine then_out ?_ | refine block_out (by decide) ?_)); exact block_in (then_in h))
    obtain ⟨y0, y1, y2, y3, y4, y5, y6⟩ := cell7 HK.out.2.2.1
    obtain ⟨f0, f1, f2, f3, f4, f5, f6⟩ := froz7 HK.out.2.2.1
    obtain ⟨x0, x1, x2, x3, x4, x5, x6⟩ := cell7 HK.out.1
    obtain ⟨r0, r1, r2, r3, r4, r5, r6⟩ := cell7 HK.out.2.1
    obtain ⟨g0, g1, g2, g3, g4, g5, g6⟩ := froz7 HK.out.2.1
    have lx := blk_lt HK.out.1
    have lq := blk_lt HK.out.2.1
    have ly := blk_lt HK.out.2.2.1
    go_wp2_with fail
    go_region_held3 (fun wr => wr.cell? ⟨w.heap.size, 2, none⟩ = some (.int .i64 r) ∧ wr.cell? ⟨w.heap.size, 3, none⟩ = some (.int .i64 b) ∧ wr.cell? ⟨w.heap.size, 5, none⟩ = some (.int .i64 c)) (go_keep) (fail)
    clear y0 y1 y2 y3 y4 y5 y6 f0 f1 f2 f3 f4 f5 f6 x0 x1 x2 x3 x4 x5 x6 r0 r1 r2 r3 r4 r5 r6 g0 g1 g2 g3 g4 g5 g6 lx lq ly
    obtain ⟨W22, hW⟩ : ∃ W2, ((((W).setCell ⟨y, 2, none⟩ (.int .i64 r)).setCell ⟨y, 3, none⟩ (.int .i64 b)).setCell ⟨y, 5, none⟩ (.int .i64 c)).drew = W2 := ⟨_, rfl⟩
    have kX := blk_drew (blk_far (blk_far (blk_far HK.out.1 (p := ⟨y, 2, none⟩) hxy (.int .i64 r)) (p := ⟨y, 3, none⟩) hxy (.int .i64 b)) (p := ⟨y, 5, none⟩) hxy (.int .i64 c))
    have kR := blk_drew (blk_far (blk_far (blk_far HK.out.2.1 (p := ⟨y, 2, none⟩) hqy (.int .i64 r)) (p := ⟨y, 3, none⟩) hqy (.int .i64 b)) (p := ⟨y, 5, none⟩) hqy (.int .i64 c))
    have kY := blk_drew (blk_put (blk_put (blk_put HK.out.2.2.1 2 (.int .i64 r) #[.int .i64 3, .bool wd, .int .i64 r, .int .i64 0, .int .i64 0, .int .i64 0, .int .i64 0] rfl) 3 (.int .i64 b) #[.int .i64 3, .bool wd, .int .i64 r, .int .i64 b, .int .i64 0, .int .i64 0, .int .i64 0] rfl) 5 (.int .i64 c) #[.int .i64 3, .bool wd, .int .i64 r, .int .i64 b, .int .i64 0, .int .i64 c, .int .i64 0] rfl)
    have kB := below_drew (Below.setCell (Below.setCell (Below.setCell HK.out.2.2.2 (p := ⟨y, 2, none⟩) hy0 (.int .i64 r)) (p := ⟨y, 3, none⟩) hy0 (.int .i64 b)) (p := ⟨y, 5, none⟩) hy0 (.int .i64 c))
    rw [hW] at kX kR kY kB ⊢
    have HK22 := Aside0.mk (And.intro kX (And.intro kR (And.intro kY kB)))
    clear hW kX kR kY kB
    obtain ⟨y0, y1, y2, y3, y4, y5, y6⟩ := cell7 HK22.out.2.2.1
    obtain ⟨f0, f1, f2, f3, f4, f5, f6⟩ := froz7 HK22.out.2.2.1
    obtain ⟨x0, x1, x2, x3, x4, x5, x6⟩ := cell7 HK22.out.1
    obtain ⟨r0, r1, r2, r3, r4, r5, r6⟩ := cell7 HK22.out.2.1
    obtain ⟨g0, g1, g2, g3, g4, g5, g6⟩ := froz7 HK22.out.2.1
    have lx := blk_lt HK22.out.1
    have lq := blk_lt HK22.out.2.1
    have ly := blk_lt HK22.out.2.2.1
    go_wp2_with fail
    refine ⟨rfl, ?_⟩
    go_wp2_with fail
    have kF := row7 HK22.out.2.1 (.int .i64 3) (.bool wd) (.int .i64 r) (.int .i64 b) (.int .i64 0) (.int .i64 c) (.int .i64 0)
    have kB5 := below7 hq0 HK22.out.2.2.2 (.int .i64 3) (.bool wd) (.int .i64 r) (.int .i64 b) (.int .i64 0) (.int .i64 c) (.int .i64 0)
    obtain ⟨W5, hW5⟩ : ∃ W5, (((((((W22).setCell ⟨q, 0, none⟩ (.int .i64 3)).setCell ⟨q, 1, none⟩ (.bool wd)).setCell ⟨q, 2, none⟩ (.int .i64 r)).setCell ⟨q, 3, none⟩ (.int .i64 b)).setCell ⟨q, 4, none⟩ (.int .i64 0)).setCell ⟨q, 5, none⟩ (.int .i64 c)).setCell ⟨q, 6, none⟩ (.int .i64 0) = W5 := ⟨_, rfl⟩
    rw [hW5] at kF kB5 ⊢
    clear hW5 y0 y1 y2 y3 y4 y5 y6 f0 f1 f2 f3 f4 f5 f6 x0 x1 x2 x3 x4 x5 x6 r0 r1 r2 r3 r4 r5 r6 g0 g1 g2 g3 g4 g5 g6 lx lq ly
    obtain ⟨z0, z1, z2, z3, z4, z5, z6⟩ := cell7 kF
    exact bodyPost_ret (v := .tuple #[xv ⟨3, wd, r, b, 0, c, 0⟩, .bool false]) (by simp [results, Tryd.results40, go_sem, z0, z1, z2, z3, z4, z5, z6]) rfl ⟨by simp only [HB.out.1, HB.out.2, Bool.true_and] <;> first | rfl | simp, kB5⟩
  · have HB := Aside0.mk (And.intro hr hb)
    clear hr hb
    go_enter Tryd.func40, Tryd.ntmps40
    go_upto_block 1 with (first
        | (go_at_call 58; (with_reducible refine (Plain _ _ _ _ _ _ _ _).mono ?_); rintro e w1 ⟨rfl, rfl⟩)
        | (go_at_call 57; (with_reducible refine (Reg r _).mono ?_); rw [HB.out.1]; rintro e w1 ⟨rfl, rfl⟩)
        | (go_at_call 57; (with_reducible refine (Reg b _).mono ?_); rw [HB.out.2]; rintro e w1 ⟨rfl, rfl⟩))
    obtain ⟨W, y, q, hW, hy, hq, hxy, hyx, hqy, hyq, hqx, hq0, hy0, HK⟩ := open5 w ⟨3, wd, r, b, i, c, n⟩ ⟨0, false, 0, 0, 0, 0, 0⟩ ⟨3, wd, 0, 0, 0, 0, 0⟩
    rw [hW, hy, hq]
    clear hW hy hq
    apply wp_block
    apply mono0 (k := 5)
    · (intro a w h; (repeat (first | refine then_out ?_ | refine block_out (by decide) ?_)); exact block_in (then_in h))
    go_wp2_with fail
    refine ⟨rfl, ?_⟩
    go_step
    apply mono0 (k := 0)
    · (intro a w h; (repeat (first | refine then_out ?_ | refine block_out (by decide) ?_)); exact block_in (then_in h))
    obtain ⟨y0, y1, y2, y3, y4, y5, y6⟩ := cell7 HK.out.2.2.1
    obtain ⟨f0, f1, f2, f3, f4, f5, f6⟩ := froz7 HK.out.2.2.1
    obtain ⟨x0, x1, x2, x3, x4, x5, x6⟩ := cell7 HK.out.1
    obtain ⟨r0, r1, r2, r3, r4, r5, r6⟩ := cell7 HK.out.2.1
    obtain ⟨g0, g1, g2, g3, g4, g5, g6⟩ := froz7 HK.out.2.1
    have lx := blk_lt HK.out.1
    have lq := blk_lt HK.out.2.1
    have ly := blk_lt HK.out.2.2.1
    go_wp2_with fail
    go_region_held3 (fun wr => wr.cell? ⟨w.heap.size, 2, none⟩ = some (.int .i64 r) ∧ wr.cell? ⟨w.heap.size, 3, none⟩ = some (.int .i64 b) ∧ wr.cell? ⟨w.heap.size, 5, none⟩ = some (.int .i64 c)) (go_keep) (fail)
    clear y0 y1 y2 y3 y4 y5 y6 f0 f1 f2 f3 f4 f5 f6 x0 x1 x2 x3 x4 x5 x6 r0 r1 r2 r3 r4 r5 r6 g0 g1 g2 g3 g4 g5 g6 lx lq ly
    obtain ⟨W23, hW⟩ : ∃ W2, ((((W).setCell ⟨y, 2, none⟩ (.int .i64 r)).setCell ⟨y, 3, none⟩ (.int .i64 b)).setCell ⟨y, 5, none⟩ (.int .i64 c)).drew = W2 := ⟨_, rfl⟩
    have kX := blk_drew (blk_far (blk_far (blk_far HK.out.1 (p := ⟨y, 2, none⟩) hxy (.int .i64 r)) (p := ⟨y, 3, none⟩) hxy (.int .i64 b)) (p := ⟨y, 5, none⟩) hxy (.int .i64 c))
    have kR := blk_drew (blk_far (blk_far (blk_far HK.out.2.1 (p := ⟨y, 2, none⟩) hqy (.int .i64 r)) (p := ⟨y, 3, none⟩) hqy (.int .i64 b)) (p := ⟨y, 5, none⟩) hqy (.int .i64 c))
    have kY := blk_drew (blk_put (blk_put (blk_put HK.out.2.2.1 2 (.int .i64 r) #[.int .i64 3, .bool wd, .int .i64 r, .int .i64 0, .int .i64 0, .int .i64 0, .int .i64 0] rfl) 3 (.int .i64 b) #[.int .i64 3, .bool wd, .int .i64 r, .int .i64 b, .int .i64 0, .int .i64 0, .int .i64 0] rfl) 5 (.int .i64 c) #[.int .i64 3, .bool wd, .int .i64 r, .int .i64 b, .int .i64 0, .int .i64 c, .int .i64 0] rfl)
    have kB := below_drew (Below.setCell (Below.setCell (Below.setCell HK.out.2.2.2 (p := ⟨y, 2, none⟩) hy0 (.int .i64 r)) (p := ⟨y, 3, none⟩) hy0 (.int .i64 b)) (p := ⟨y, 5, none⟩) hy0 (.int .i64 c))
    rw [hW] at kX kR kY kB ⊢
    have HK23 := Aside0.mk (And.intro kX (And.intro kR (And.intro kY kB)))
    clear hW kX kR kY kB
    obtain ⟨y0, y1, y2, y3, y4, y5, y6⟩ := cell7 HK23.out.2.2.1
    obtain ⟨f0, f1, f2, f3, f4, f5, f6⟩ := froz7 HK23.out.2.2.1
    obtain ⟨x0, x1, x2, x3, x4, x5, x6⟩ := cell7 HK23.out.1
    obtain ⟨r0, r1, r2, r3, r4, r5, r6⟩ := cell7 HK23.out.2.1
    obtain ⟨g0, g1, g2, g3, g4, g5, g6⟩ := froz7 HK23.out.2.1
    have lx := blk_lt HK23.out.1
    have lq := blk_lt HK23.out.2.1
    have ly := blk_lt HK23.out.2.2.1
    cases halu : alu c with
    | false =>
      have HALU := Aside0.mk halu
      clear halu
      go_wp2_with (first
        | (go_at_call 60; (with_reducible refine (HasAlu c _).mono ?_); rw [HALU.out]; rintro e w1 ⟨rfl, rfl⟩))
      refine ⟨rfl, ?_⟩
      go_wp2_with fail
      have kF := blk_alloc (row7 HK23.out.2.1 (.int .i64 3) (.bool wd) (.int .i64 r) (.int .i64 b) (.int .i64 0) (.int .i64 c) (.int .i64 0)) (.cells #[.int .i64 0, .int .i64 1, .int .i64 4, .int .i64 5, .int .i64 6, .int .i64 7] 3)
      have kB5 := below_alloc (below7 hq0 HK23.out.2.2.2 (.int .i64 3) (.bool wd) (.int .i64 r) (.int .i64 b) (.int .i64 0) (.int .i64 c) (.int .i64 0)) (.cells #[.int .i64 0, .int .i64 1, .int .i64 4, .int .i64 5, .int .i64 6, .int .i64 7] 3)
      obtain ⟨W5, hW5⟩ : ∃ W5, ((((((((W23).setCell ⟨q, 0, none⟩ (.int .i64 3)).setCell ⟨q, 1, none⟩ (.bool wd)).setCell ⟨q, 2, none⟩ (.int .i64 r)).setCell ⟨q, 3, none⟩ (.int .i64 b)).setCell ⟨q, 4, none⟩ (.int .i64 0)).setCell ⟨q, 5, none⟩ (.int .i64 c)).setCell ⟨q, 6, none⟩ (.int .i64 0)).alloc (.cells #[.int .i64 0, .int .i64 1, .int .i64 4, .int .i64 5, .int .i64 6, .int .i64 7] 3) = W5 := ⟨_, rfl⟩
      rw [hW5] at kF kB5 ⊢
      clear hW5 y0 y1 y2 y3 y4 y5 y6 f0 f1 f2 f3 f4 f5 f6 x0 x1 x2 x3 x4 x5 x6 r0 r1 r2 r3 r4 r5 r6 g0 g1 g2 g3 g4 g5 g6 lx lq ly
      obtain ⟨z0, z1, z2, z3, z4, z5, z6⟩ := cell7 kF
      exact bodyPost_ret (v := .tuple #[xv ⟨3, wd, r, b, 0, c, 0⟩, .bool false]) (by simp [results, Tryd.results40, go_sem, z0, z1, z2, z3, z4, z5, z6]) rfl ⟨by simp only [HB.out.1, HB.out.2, Bool.true_and, HALU.out] <;> first | rfl | simp, kB5⟩
    | true =>
      have HALU := Aside0.mk halu
      clear halu
      go_wp2_with (first
        | (go_at_call 60; (with_reducible refine (HasAlu c _).mono ?_); rw [HALU.out]; rintro e w1 ⟨rfl, rfl⟩))
      refine ⟨rfl, ?_⟩
      go_wp2_with fail
      have kF := blk_alloc (row7 HK23.out.2.1 (.int .i64 3) (.bool wd) (.int .i64 r) (.int .i64 b) (.int .i64 0) (.int .i64 c) (.int .i64 0)) (.cells #[.int .i64 0, .int .i64 1, .int .i64 4, .int .i64 5, .int .i64 6, .int .i64 7] 3)
      have kB5 := below_alloc (below7 hq0 HK23.out.2.2.2 (.int .i64 3) (.bool wd) (.int .i64 r) (.int .i64 b) (.int .i64 0) (.int .i64 c) (.int .i64 0)) (.cells #[.int .i64 0, .int .i64 1, .int .i64 4, .int .i64 5, .int .i64 6, .int .i64 7] 3)
      obtain ⟨W5, hW5⟩ : ∃ W5, ((((((((W23).setCell ⟨q, 0, none⟩ (.int .i64 3)).setCell ⟨q, 1, none⟩ (.bool wd)).setCell ⟨q, 2, none⟩ (.int .i64 r)).setCell ⟨q, 3, none⟩ (.int .i64 b)).setCell ⟨q, 4, none⟩ (.int .i64 0)).setCell ⟨q, 5, none⟩ (.int .i64 c)).setCell ⟨q, 6, none⟩ (.int .i64 0)).alloc (.cells #[.int .i64 0, .int .i64 1, .int .i64 4, .int .i64 5, .int .i64 6, .int .i64 7] 3) = W5 := ⟨_, rfl⟩
      rw [hW5] at kF kB5 ⊢
      clear hW5 y0 y1 y2 y3 y4 y5 y6 f0 f1 f2 f3 f4 f5 f6 x0 x1 x2 x3 x4 x5 x6 r0 r1 r2 r3 r4 r5 r6 g0 g1 g2 g3 g4 g5 g6 lx lq ly
      obtain ⟨z0, z1, z2, z3, z4, z5, z6⟩ := cell7 kF
      exact bodyPost_ret (v := .tuple #[xv ⟨3, wd, r, b, 0, c, 0⟩, .bool true]) (by simp [results, Tryd.results40, go_sem, z0, z1, z2, z3, z4, z5, z6]) rfl ⟨by simp only [HB.out.1, HB.out.2, Bool.true_and, HALU.out] <;> first | rfl | simp, kB5⟩
set_option maxHeartbeats 16000000 in
set_option maxRecDepth 100000 in
theorem shape_7 (wd : Bool) (r b i c n : Int) (w : World) (ht : Tab w) (hn : -9223372036854775808 ≤ n ∧ n ≤ 9223372036854775807) :
    Calls Tryd.prog 40 #[xv ⟨7, wd, r, b, i, c, n⟩] w fun e w' => e = .returned (.tuple #[xv ⟨7, wd, 0, b, 0, c, 0⟩, .bool ((reg r && reg b) && shf c)]) ∧ Below w.heap.size w w' := by
  have HT := Aside0.mk (And.intro ht hn)
  clear ht hn
  have cs : reg r = false ∨ (reg r = true ∧ reg b = false) ∨ (reg r = true ∧ reg b = true) := by cases reg r <;> cases reg b <;> simp
  rcases cs with hr | ⟨hr, hb⟩ | ⟨hr, hb⟩
  · have HB := Aside0.mk hr
    clear hr
    go_enter Tryd.func40, Tryd.ntmps40
    go_upto_block 1 with (first
        | (go_at_call 58; (with_reducible refine (Plain _ _ _ _ _ _ _ _).mono ?_); rintro e w1 ⟨rfl, rfl⟩)
        | (go_at_call 57; (with_reducible refine (Reg _ _).mono ?_); rw [HB.out]; rintro e w1 ⟨rfl, rfl⟩))
    obtain ⟨W, y, q, hW, hy, hq, hxy, hyx, hqy, hyq, hqx, hq0, hy0, HK⟩ := open5 w ⟨7, wd, r, b, i, c, n⟩ ⟨0, false, 0, 0, 0, 0, 0⟩ ⟨7, wd, 0, 0, 0, 0, 0⟩
    rw [hW, hy, hq]
    clear hW hy hq
    apply wp_block
    apply mono0 (k := 6)
    · (intro a w h; (repeat (first | refine then_out ?_ | refine block_out (by decide) ?_)); exact block_in (then_in h))
    go_wp2_with fail
    refine ⟨rfl, ?_⟩
    go_step
    apply mono0 (k := 0)
    · (intro a w h; (repeat (first | refine then_out ?_ | refine block_out (by decide) ?_)); exact block_in (then_in h))
    obtain ⟨y0, y1, y2, y3, y4, y5, y6⟩ := cell7 HK.out.2.2.1
    obtain ⟨f0, f1, f2, f3, f4, f5, f6⟩ := froz7 HK.out.2.2.1
    obtain ⟨x0, x1, x2, x3, x4, x5, x6⟩ := cell7 HK.out.1
    obtain ⟨r0, r1, r2, r3, r4, r5, r6⟩ := cell7 HK.out.2.1
    obtain ⟨g0, g1, g2, g3, g4, g5, g6⟩ := froz7 HK.out.2.1
    have lx := blk_lt HK.out.1
    have lq := blk_lt HK.out.2.1
    have ly := blk_lt HK.out.2.2.1
    go_wp2_with fail
    go_region_held3 (fun wr => wr.cell? ⟨w.heap.size, 3, none⟩ = some (.int .i64 b) ∧ wr.cell? ⟨w.heap.size, 5, none⟩ = some (.int .i64 c)) (go_keep) (fail)
    clear y0 y1 y2 y3 y4 y5 y6 f0 f1 f2 f3 f4 f5 f6 x0 x1 x2 x3 x4 x5 x6 r0 r1 r2 r3 r4 r5 r6 g0 g1 g2 g3 g4 g5 g6 lx lq ly
    obtain ⟨W21, hW⟩ : ∃ W2, (((W).setCell ⟨y, 3, none⟩ (.int .i64 b)).setCell ⟨y, 5, none⟩ (.int .i64 c)).drew = W2 := ⟨_, rfl⟩
    have kX := blk_drew (blk_far (blk_far HK.out.1 (p := ⟨y, 3, none⟩) hxy (.int .i64 b)) (p := ⟨y, 5, none⟩) hxy (.int .i64 c))
    have kR := blk_drew (blk_far (blk_far HK.out.2.1 (p := ⟨y, 3, none⟩) hqy (.int .i64 b)) (p := ⟨y, 5, none⟩) hqy (.int .i64 c))
    have kY := blk_drew (blk_put (blk_put HK.out.2.2.1 3 (.int .i64 b) #[.int .i64 7, .bool wd, .int .i64 0, .int .i64 b, .int .i64 0, .int .i64 0, .int .i64 0] rfl) 5 (.int .i64 c) #[.int .i64 7, .bool wd, .int .i64 0, .int .i64 b, .int .i64 0, .int .i64 c, .int .i64 0] rfl)
    have kB := below_drew (Below.setCell (Below.setCell HK.out.2.2.2 (p := ⟨y, 3, none⟩) hy0 (.int .i64 b)) (p := ⟨y, 5, none⟩) hy0 (.int .i64 c))
    rw [hW] at kX kR kY kB ⊢
    have HK21 := Aside0.mk (And.intro kX (And.intro kR (And.intro kY kB)))
    clear hW kX kR kY kB
    obtain ⟨y0, y1, y2, y3, y4, y5, y6⟩ := cell7 HK21.out.2.2.1
    obtain ⟨f0, f1, f2, f3, f4, f5, f6⟩ := froz7 HK21.out.2.2.1
    obtain ⟨x0, x1, x2, x3, x4, x5, x6⟩ := cell7 HK21.out.1
    obtain ⟨r0, r1, r2, r3, r4, r5, r6⟩ := cell7 HK21.out.2.1
    obtain ⟨g0, g1, g2, g3, g4, g5, g6⟩ := froz7 HK21.out.2.1
    have lx := blk_lt HK21.out.1
    have lq := blk_lt HK21.out.2.1
    have ly := blk_lt HK21.out.2.2.1
    go_wp2_with fail
    refine ⟨rfl, ?_⟩
    go_wp2_with fail
    have kF := row7 HK21.out.2.1 (.int .i64 7) (.bool wd) (.int .i64 0) (.int .i64 b) (.int .i64 0) (.int .i64 c) (.int .i64 0)
    have kB5 := below7 hq0 HK21.out.2.2.2 (.int .i64 7) (.bool wd) (.int .i64 0) (.int .i64 b) (.int .i64 0) (.int .i64 c) (.int .i64 0)
    obtain ⟨W5, hW5⟩ : ∃ W5, (((((((W21).setCell ⟨q, 0, none⟩ (.int .i64 7)).setCell ⟨q, 1, none⟩ (.bool wd)).setCell ⟨q, 2, none⟩ (.int .i64 0)).setCell ⟨q, 3, none⟩ (.int .i64 b)).setCell ⟨q, 4, none⟩ (.int .i64 0)).setCell ⟨q, 5, none⟩ (.int .i64 c)).setCell ⟨q, 6, none⟩ (.int .i64 0) = W5 := ⟨_, rfl⟩
    rw [hW5] at kF kB5 ⊢
    clear hW5 y0 y1 y2 y3 y4 y5 y6 f0 f1 f2 f3 f4 f5 f6 x0 x1 x2 x3 x4 x5 x6 r0 r1 r2 r3 r4 r5 r6 g0 g1 g2 g3 g4 g5 g6 lx lq ly
    obtain ⟨z0, z1, z2, z3, z4, z5, z6⟩ := cell7 kF
    exact bodyPost_ret (v := .tuple #[xv ⟨7, wd, 0, b, 0, c, 0⟩, .bool false]) (by simp [results, Tryd.results40, go_sem, z0, z1, z2, z3, z4, z5, z6]) rfl ⟨by simp only [HB.out, Bool.false_and] <;> first | rfl | simp, kB5⟩
  · have HB := Aside0.mk (And.intro hr hb)
    clear hr hb
    go_enter Tryd.func40, Tryd.ntmps40
    go_upto_block 1 with (first
        | (go_at_call 58; (with_reducible refine (Plain _ _ _ _ _ _ _ _).mono ?_); rintro e w1 ⟨rfl, rfl⟩)
        | (go_at_call 57; (with_reducible refine (Reg r _).mono ?_); rw [HB.out.1]; rintro e w1 ⟨rfl, rfl⟩)
        | (go_at_call 57; (with_reducible refine (Reg b _).mono ?_); rw [HB.out.2]; rintro e w1 ⟨rfl, rfl⟩))
    obtain ⟨W, y, q, hW, hy, hq, hxy, hyx, hqy, hyq, hqx, hq0, hy0, HK⟩ := open5 w ⟨7, wd, r, b, i, c, n⟩ ⟨0, false, 0, 0, 0, 0, 0⟩ ⟨7, wd, 0, 0, 0, 0, 0⟩
    rw [hW, hy, hq]
    clear hW hy hq
    apply wp_block
    apply mono0 (k := 6)
    · (intro a w h; (repeat (first | refine then_out ?_ | refine block_out (by decide) ?_)); exact block_in (then_in h))
    go_wp2_with fail
    refine ⟨rfl, ?_⟩
    go_step
    apply mono0 (k := 0)
    · (intro a w h; (repeat (first | refine then_out ?_ | refine block_out (by decide) ?_)); exact block_in (then_in h))
    obtain ⟨y0, y1, y2, y3, y4, y5, y6⟩ := cell7 HK.out.2.2.1
    obtain ⟨f0, f1, f2, f3, f4, f5, f6⟩ := froz7 HK.out.2.2.1
    obtain ⟨x0, x1, x2, x3, x4, x5, x6⟩ := cell7 HK.out.1
    obtain ⟨r0, r1, r2, r3, r4, r5, r6⟩ := cell7 HK.out.2.1
    obtain ⟨g0, g1, g2, g3, g4, g5, g6⟩ := froz7 HK.out.2.1
    have lx := blk_lt HK.out.1
    have lq := blk_lt HK.out.2.1
    have ly := blk_lt HK.out.2.2.1
    go_wp2_with fail
    go_region_held3 (fun wr => wr.cell? ⟨w.heap.size, 3, none⟩ = some (.int .i64 b) ∧ wr.cell? ⟨w.heap.size, 5, none⟩ = some (.int .i64 c)) (go_keep) (fail)
    clear y0 y1 y2 y3 y4 y5 y6 f0 f1 f2 f3 f4 f5 f6 x0 x1 x2 x3 x4 x5 x6 r0 r1 r2 r3 r4 r5 r6 g0 g1 g2 g3 g4 g5 g6 lx lq ly
    obtain ⟨W22, hW⟩ : ∃ W2, (((W).setCell ⟨y, 3, none⟩ (.int .i64 b)).setCell ⟨y, 5, none⟩ (.int .i64 c)).drew = W2 := ⟨_, rfl⟩
    have kX := blk_drew (blk_far (blk_far HK.out.1 (p := ⟨y, 3, none⟩) hxy (.int .i64 b)) (p := ⟨y, 5, none⟩) hxy (.int .i64 c))
    have kR := blk_drew (blk_far (blk_far HK.out.2.1 (p := ⟨y, 3, none⟩) hqy (.int .i64 b)) (p := ⟨y, 5, none⟩) hqy (.int .i64 c))
    have kY := blk_drew (blk_put (blk_put HK.out.2.2.1 3 (.int .i64 b) #[.int .i64 7, .bool wd, .int .i64 0, .int .i64 b, .int .i64 0, .int .i64 0, .int .i64 0] rfl) 5 (.int .i64 c) #[.int .i64 7, .bool wd, .int .i64 0, .int .i64 b, .int .i64 0, .int .i64 c, .int .i64 0] rfl)
    have kB := below_drew (Below.setCell (Below.setCell HK.out.2.2.2 (p := ⟨y, 3, none⟩) hy0 (.int .i64 b)) (p := ⟨y, 5, none⟩) hy0 (.int .i64 c))
    rw [hW] at kX kR kY kB ⊢
    have HK22 := Aside0.mk (And.intro kX (And.intro kR (And.intro kY kB)))
    clear hW kX kR kY kB
    obtain ⟨y0, y1, y2, y3, y4, y5, y6⟩ := cell7 HK22.out.2.2.1
    obtain ⟨f0, f1, f2, f3, f4, f5, f6⟩ := froz7 HK22.out.2.2.1
    obtain ⟨x0, x1, x2, x3, x4, x5, x6⟩ := cell7 HK22.out.1
    obtain ⟨r0, r1, r2, r3, r4, r5, r6⟩ := cell7 HK22.out.2.1
    obtain ⟨g0, g1, g2, g3, g4, g5, g6⟩ := froz7 HK22.out.2.1
    have lx := blk_lt HK22.out.1
    have lq := blk_lt HK22.out.2.1
    have ly := blk_lt HK22.out.2.2.1
    go_wp2_with fail
    refine ⟨rfl, ?_⟩
    go_wp2_with fail
    have kF := row7 HK22.out.2.1 (.int .i64 7) (.bool wd) (.int .i64 0) (.int .i64 b) (.int .i64 0) (.int .i64 c) (.int .i64 0)
    have kB5 := below7 hq0 HK22.out.2.2.2 (.int .i64 7) (.bool wd) (.int .i64 0) (.int .i64 b) (.int .i64 0) (.int .i64 c) (.int .i64 0)
    obtain ⟨W5, hW5⟩ : ∃ W5, (((((((W22).setCell ⟨q, 0, none⟩ (.int .i64 7)).setCell ⟨q, 1, none⟩ (.bool wd)).setCell ⟨q, 2, none⟩ (.int .i64 0)).setCell ⟨q, 3, none⟩ (.int .i64 b)).setCell ⟨q, 4, none⟩ (.int .i64 0)).setCell ⟨q, 5, none⟩ (.int .i64 c)).setCell ⟨q, 6, none⟩ (.int .i64 0) = W5 := ⟨_, rfl⟩
    rw [hW5] at kF kB5 ⊢
    clear hW5 y0 y1 y2 y3 y4 y5 y6 f0 f1 f2 f3 f4 f5 f6 x0 x1 x2 x3 x4 x5 x6 r0 r1 r2 r3 r4 r5 r6 g0 g1 g2 g3 g4 g5 g6 lx lq ly
    obtain ⟨z0, z1, z2, z3, z4, z5, z6⟩ := cell7 kF
    exact bodyPost_ret (v := .tuple #[xv ⟨7, wd, 0, b, 0, c, 0⟩, .bool false]) (by simp [results, Tryd.results40, go_sem, z0, z1, z2, z3, z4, z5, z6]) rfl ⟨by simp only [HB.out.1, HB.out.2, Bool.true_and] <;> first | rfl | simp, kB5⟩
  · have HB := Aside0.mk (And.intro hr hb)
    clear hr hb
    go_enter Tryd.func40, Tryd.ntmps40
    go_upto_block 1 with (first
        | (go_at_call 58; (with_reducible refine (Plain _ _ _ _ _ _ _ _).mono ?_); rintro e w1 ⟨rfl, rfl⟩)
        | (go_at_call 57; (with_reducible refine (Reg r _).mono ?_); rw [HB.out.1]; rintro e w1 ⟨rfl, rfl⟩)
        | (go_at_call 57; (with_reducible refine (Reg b _).mono ?_); rw [HB.out.2]; rintro e w1 ⟨rfl, rfl⟩))
    obtain ⟨W, y, q, hW, hy, hq, hxy, hyx, hqy, hyq, hqx, hq0, hy0, HK⟩ := open5 w ⟨7, wd, r, b, i, c, n⟩ ⟨0, false, 0, 0, 0, 0, 0⟩ ⟨7, wd, 0, 0, 0, 0, 0⟩
    rw [hW, hy, hq]
    clear hW hy hq
    apply wp_block
    apply mono0 (k := 6)
    · (intro a w h; (repeat (first | refine then_out ?_ | refine block_out (by decide) ?_)); exact block_in (then_in h))
    go_wp2_with fail
    refine ⟨rfl, ?_⟩
    go_step
    apply mono0 (k := 0)
    · (intro a w h; (repeat (first | refine then_out ?_ | refine block_out (by decide) ?_)); exact block_in (then_in h))
    obtain ⟨y0, y1, y2, y3, y4, y5, y6⟩ := cell7 HK.out.2.2.1
    obtain ⟨f0, f1, f2, f3, f4, f5, f6⟩ := froz7 HK.out.2.2.1
    obtain ⟨x0, x1, x2, x3, x4, x5, x6⟩ := cell7 HK.out.1
    obtain ⟨r0, r1, r2, r3, r4, r5, r6⟩ := cell7 HK.out.2.1
    obtain ⟨g0, g1, g2, g3, g4, g5, g6⟩ := froz7 HK.out.2.1
    have lx := blk_lt HK.out.1
    have lq := blk_lt HK.out.2.1
    have ly := blk_lt HK.out.2.2.1
    go_wp2_with fail
    go_region_held3 (fun wr => wr.cell? ⟨w.heap.size, 3, none⟩ = some (.int .i64 b) ∧ wr.cell? ⟨w.heap.size, 5, none⟩ = some (.int .i64 c)) (go_keep) (fail)
    clear y0 y1 y2 y3 y4 y5 y6 f0 f1 f2 f3 f4 f5 f6 x0 x1 x2 x3 x4 x5 x6 r0 r1 r2 r3 r4 r5 r6 g0 g1 g2 g3 g4 g5 g6 lx lq ly
    obtain ⟨W23, hW⟩ : ∃ W2, (((W).setCell ⟨y, 3, none⟩ (.int .i64 b)).setCell ⟨y, 5, none⟩ (.int .i64 c)).drew = W2 := ⟨_, rfl⟩
    have kX := blk_drew (blk_far (blk_far HK.out.1 (p := ⟨y, 3, none⟩) hxy (.int .i64 b)) (p := ⟨y, 5, none⟩) hxy (.int .i64 c))
    have kR := blk_drew (blk_far (blk_far HK.out.2.1 (p := ⟨y, 3, none⟩) hqy (.int .i64 b)) (p := ⟨y, 5, none⟩) hqy (.int .i64 c))
    have kY := blk_drew (blk_put (blk_put HK.out.2.2.1 3 (.int .i64 b) #[.int .i64 7, .bool wd, .int .i64 0, .int .i64 b, .int .i64 0, .int .i64 0, .int .i64 0] rfl) 5 (.int .i64 c) #[.int .i64 7, .bool wd, .int .i64 0, .int .i64 b, .int .i64 0, .int .i64 c, .int .i64 0] rfl)
    have kB := below_drew (Below.setCell (Below.setCell HK.out.2.2.2 (p := ⟨y, 3, none⟩) hy0 (.int .i64 b)) (p := ⟨y, 5, none⟩) hy0 (.int .i64 c))
    rw [hW] at kX kR kY kB ⊢
    have HK23 := Aside0.mk (And.intro kX (And.intro kR (And.intro kY kB)))
    clear hW kX kR kY kB
    obtain ⟨y0, y1, y2, y3, y4, y5, y6⟩ := cell7 HK23.out.2.2.1
    obtain ⟨f0, f1, f2, f3, f4, f5, f6⟩ := froz7 HK23.out.2.2.1
    obtain ⟨x0, x1, x2, x3, x4, x5, x6⟩ := cell7 HK23.out.1
    obtain ⟨r0, r1, r2, r3, r4, r5, r6⟩ := cell7 HK23.out.2.1
    obtain ⟨g0, g1, g2, g3, g4, g5, g6⟩ := froz7 HK23.out.2.1
    have lx := blk_lt HK23.out.1
    have lq := blk_lt HK23.out.2.1
    have ly := blk_lt HK23.out.2.2.1
    cases hshf : shf c with
    | false =>
      have HSHF := Aside0.mk hshf
      clear hshf
      go_wp2_with (first
        | (go_at_call 60; (with_reducible refine (HasShf c _).mono ?_); rw [HSHF.out]; rintro e w1 ⟨rfl, rfl⟩))
      refine ⟨rfl, ?_⟩
      go_wp2_with fail
      have kF := blk_alloc (row7 HK23.out.2.1 (.int .i64 7) (.bool wd) (.int .i64 0) (.int .i64 b) (.int .i64 0) (.int .i64 c) (.int .i64 0)) (.cells #[.int .i64 0, .int .i64 1, .int .i64 4, .int .i64 5, .int .i64 7] 3)
      have kB5 := below_alloc (below7 hq0 HK23.out.2.2.2 (.int .i64 7) (.bool wd) (.int .i64 0) (.int .i64 b) (.int .i64 0) (.int .i64 c) (.int .i64 0)) (.cells #[.int .i64 0, .int .i64 1, .int .i64 4, .int .i64 5, .int .i64 7] 3)
      obtain ⟨W5, hW5⟩ : ∃ W5, ((((((((W23).setCell ⟨q, 0, none⟩ (.int .i64 7)).setCell ⟨q, 1, none⟩ (.bool wd)).setCell ⟨q, 2, none⟩ (.int .i64 0)).setCell ⟨q, 3, none⟩ (.int .i64 b)).setCell ⟨q, 4, none⟩ (.int .i64 0)).setCell ⟨q, 5, none⟩ (.int .i64 c)).setCell ⟨q, 6, none⟩ (.int .i64 0)).alloc (.cells #[.int .i64 0, .int .i64 1, .int .i64 4, .int .i64 5, .int .i64 7] 3) = W5 := ⟨_, rfl⟩
      rw [hW5] at kF kB5 ⊢
      clear hW5 y0 y1 y2 y3 y4 y5 y6 f0 f1 f2 f3 f4 f5 f6 x0 x1 x2 x3 x4 x5 x6 r0 r1 r2 r3 r4 r5 r6 g0 g1 g2 g3 g4 g5 g6 lx lq ly
      obtain ⟨z0, z1, z2, z3, z4, z5, z6⟩ := cell7 kF
      exact bodyPost_ret (v := .tuple #[xv ⟨7, wd, 0, b, 0, c, 0⟩, .bool false]) (by simp [results, Tryd.results40, go_sem, z0, z1, z2, z3, z4, z5, z6]) rfl ⟨by simp only [HB.out.1, HB.out.2, Bool.true_and, HSHF.out] <;> first | rfl | simp, kB5⟩
    | true =>
      have HSHF := Aside0.mk hshf
      clear hshf
      go_wp2_with (first
        | (go_at_call 60; (with_reducible refine (HasShf c _).mono ?_); rw [HSHF.out]; rintro e w1 ⟨rfl, rfl⟩))
      refine ⟨rfl, ?_⟩
      go_wp2_with fail
      have kF := blk_alloc (row7 HK23.out.2.1 (.int .i64 7) (.bool wd) (.int .i64 0) (.int .i64 b) (.int .i64 0) (.int .i64 c) (.int .i64 0)) (.cells #[.int .i64 0, .int .i64 1, .int .i64 4, .int .i64 5, .int .i64 7] 3)
      have kB5 := below_alloc (below7 hq0 HK23.out.2.2.2 (.int .i64 7) (.bool wd) (.int .i64 0) (.int .i64 b) (.int .i64 0) (.int .i64 c) (.int .i64 0)) (.cells #[.int .i64 0, .int .i64 1, .int .i64 4, .int .i64 5, .int .i64 7] 3)
      obtain ⟨W5, hW5⟩ : ∃ W5, ((((((((W23).setCell ⟨q, 0, none⟩ (.int .i64 7)).setCell ⟨q, 1, none⟩ (.bool wd)).setCell ⟨q, 2, none⟩ (.int .i64 0)).setCell ⟨q, 3, none⟩ (.int .i64 b)).setCell ⟨q, 4, none⟩ (.int .i64 0)).setCell ⟨q, 5, none⟩ (.int .i64 c)).setCell ⟨q, 6, none⟩ (.int .i64 0)).alloc (.cells #[.int .i64 0, .int .i64 1, .int .i64 4, .int .i64 5, .int .i64 7] 3) = W5 := ⟨_, rfl⟩
      rw [hW5] at kF kB5 ⊢
      clear hW5 y0 y1 y2 y3 y4 y5 y6 f0 f1 f2 f3 f4 f5 f6 x0 x1 x2 x3 x4 x5 x6 r0 r1 r2 r3 r4 r5 r6 g0 g1 g2 g3 g4 g5 g6 lx lq ly
      obtain ⟨z0, z1, z2, z3, z4, z5, z6⟩ := cell7 kF
      exact bodyPost_ret (v := .tuple #[xv ⟨7, wd, 0, b, 0, c, 0⟩, .bool true]) (by simp [results, Tryd.results40, go_sem, z0, z1, z2, z3, z4, z5, z6]) rfl ⟨by simp only [HB.out.1, HB.out.2, Bool.true_and, HSHF.out] <;> first | rfl | simp, kB5⟩
set_option maxHeartbeats 16000000 in
set_option maxRecDepth 100000 in
theorem shape_15 (wd : Bool) (r b i c n : Int) (w : World) (ht : Tab w) (hn : -9223372036854775808 ≤ n ∧ n ≤ 9223372036854775807) :
    Calls Tryd.prog 40 #[xv ⟨15, wd, r, b, i, c, n⟩] w fun e w' => e = .returned (.tuple #[xv ⟨15, wd, r, b, 0, c, 0⟩, .bool ((reg r && reg b) && cnd c)]) ∧ Below w.heap.size w w' := by
  have HT := Aside0.mk (And.intro ht hn)
  clear ht hn
  have cs : reg r = false ∨ (reg r = true ∧ reg b = false) ∨ (reg r = true ∧ reg b = true) := by cases reg r <;> cases reg b <;> simp
  rcases cs with hr | ⟨hr, hb⟩ | ⟨hr, hb⟩
  · have HB := Aside0.mk hr
    clear hr
    go_enter Tryd.func40, Tryd.ntmps40
    go_upto_block 1 with (first
        | (go_at_call 58; (with_reducible refine (Plain _ _ _ _ _ _ _ _).mono ?_); rintro e w1 ⟨rfl, rfl⟩)
        | (go_at_call 57; (with_reducible refine (Reg _ _).mono ?_); rw [HB.out]; rintro e w1 ⟨rfl, rfl⟩))
    obtain ⟨W, y, q, hW, hy, hq, hxy, hyx, hqy, hyq, hqx, hq0, hy0, HK⟩ := open5 w ⟨15, wd, r, b, i, c, n⟩ ⟨0, false, 0, 0, 0, 0, 0⟩ ⟨15, wd, 0, 0, 0, 0, 0⟩
    rw [hW, hy, hq]
    clear hW hy hq
    apply wp_block
    apply mono0 (k := 10)
    · (intro a w h; (repeat (first | refine then_out ?_ | refine block_out (by decide) ?_)); exact block_in (then_in h))
    go_wp2_with fail
    refine ⟨rfl, ?_⟩
    go_step
    apply mono0 (k := 0)
    · (intro a w h; (repeat (first | refine then_out ?_ | refine block_out (by decide) ?_)); exact block_in (then_in h))
    obtain ⟨y0, y1, y2, y3, y4, y5, y6⟩ := cell7 HK.out.2.2.1
    obtain ⟨f0, f1, f2, f3, f4, f5, f6⟩ := froz7 HK.out.2.2.1
    obtain ⟨x0, x1, x2, x3, x4, x5, x6⟩ := cell7 HK.out.1
    obtain ⟨r0, r1, r2, r3, r4, r5, r6⟩ := cell7 HK.out.2.1
    obtain ⟨g0, g1, g2, g3, g4, g5, g6⟩ := froz7 HK.out.2.1
    have lx := blk_lt HK.out.1
    have lq := blk_lt HK.out.2.1
    have ly := blk_lt HK.out.2.2.1
    go_wp2_with fail
    go_region_held3 (fun wr => wr.cell? ⟨w.heap.size, 2, none⟩ = some (.int .i64 r) ∧ wr.cell? ⟨w.heap.size, 3, none⟩ = some (.int .i64 b) ∧ wr.cell? ⟨w.heap.size, 5, none⟩ = some (.int .i64 c)) (go_keep) (fail)
    clear y0 y1 y2 y3 y4 y5 y6 f0 f1 f2 f3 f4 f5 f6 x0 x1 x2 x3 x4 x5 x6 r0 r1 r2 r3 r4 r5 r6 g0 g1 g2 g3 g4 g5 g6 lx lq ly
    obtain ⟨W21, hW⟩ : ∃ W2, ((((W).setCell ⟨y, 2, none⟩ (.int .i64 r)).setCell ⟨y, 3, none⟩ (.int .i64 b)).setCell ⟨y, 5, none⟩ (.int .i64 c)).drew = W2 := ⟨_, rfl⟩
    have kX := blk_drew (blk_far (blk_far (blk_far HK.out.1 (p := ⟨y, 2, none⟩) hxy (.int .i64 r)) (p := ⟨y, 3, none⟩) hxy (.int .i64 b)) (p := ⟨y, 5, none⟩) hxy (.int .i64 c))
    have kR := blk_drew (blk_far (blk_far (blk_far HK.out.2.1 (p := ⟨y, 2, none⟩) hqy (.int .i64 r)) (p := ⟨y, 3, none⟩) hqy (.int .i64 b)) (p := ⟨y, 5, none⟩) hqy (.int .i64 c))
    have kY := blk_drew (blk_put (blk_put (blk_put HK.out.2.2.1 2 (.int .i64 r) #[.int .i64 15, .bool wd, .int .i64 r, .int .i64 0, .int .i64 0, .int .i64 0, .int .i64 0] rfl) 3 (.int .i64 b) #[.int .i64 15, .bool wd, .int .i64 r, .int .i64 b, .int .i64 0, .int .i64 0, .int .i64 0] rfl) 5 (.int .i64 c) #[.int .i64 15, .bool wd, .int .i64 r, .int .i64 b, .int .i64 0, .int .i64 c, .int .i64 0] rfl)
    have kB := below_drew (Below.setCell (Below.setCell (Below.setCell HK.out.2.2.2 (p := ⟨y, 2, none⟩) hy0 (.int .i64 r)) (p := ⟨y, 3, none⟩) hy0 (.int .i64 b)) (p := ⟨y, 5, none⟩) hy0 (.int .i64 c))
    rw [hW] at kX kR kY kB ⊢
    have HK21 := Aside0.mk (And.intro kX (And.intro kR (And.intro kY kB)))
    clear hW kX kR kY kB
    obtain ⟨y0, y1, y2, y3, y4, y5, y6⟩ := cell7 HK21.out.2.2.1
    obtain ⟨f0, f1, f2, f3, f4, f5, f6⟩ := froz7 HK21.out.2.2.1
    obtain ⟨x0, x1, x2, x3, x4, x5, x6⟩ := cell7 HK21.out.1
    obtain ⟨r0, r1, r2, r3, r4, r5, r6⟩ := cell7 HK21.out.2.1
    obtain ⟨g0, g1, g2, g3, g4, g5, g6⟩ := froz7 HK21.out.2.1
    have lx := blk_lt HK21.out.1
    have lq := blk_lt HK21.out.2.1
    have ly := blk_lt HK21.out.2.2.1
    go_wp2_with fail
    refine ⟨rfl, ?_⟩
    go_wp2_with fail
    have kF := row7 HK21.out.2.1 (.int .i64 15) (.bool wd) (.int .i64 r) (.int .i64 b) (.int .i64 0) (.int .i64 c) (.int .i64 0)
    have kB5 := below7 hq0 HK21.out.2.2.2 (.int .i64 15) (.bool wd) (.int .i64 r) (.int .i64 b) (.int .i64 0) (.int .i64 c) (.int .i64 0)
    obtain ⟨W5, hW5⟩ : ∃ W5, (((((((W21).setCell ⟨q, 0, none⟩ (.int .i64 15)).setCell ⟨q, 1, none⟩ (.bool wd)).setCell ⟨q, 2, none⟩ (.int .i64 r)).setCell ⟨q, 3, none⟩ (.int .i64 b)).setCell ⟨q, 4, none⟩ (.int .i64 0)).setCell ⟨q, 5, none⟩ (.int .i64 c)).setCell ⟨q, 6, none⟩ (.int .i64 0) = W5 := ⟨_, rfl⟩
    rw [hW5] at kF kB5 ⊢
    clear hW5 y0 y1 y2 y3 y4 y5 y6 f0 f1 f2 f3 f4 f5 f6 x0 x1 x2 x3 x4 x5 x6 r0 r1 r2 r3 r4 r5 r6 g0 g1 g2 g3 g4 g5 g6 lx lq ly
    obtain ⟨z0, z1, z2, z3, z4, z5, z6⟩ := cell7 kF
    exact bodyPost_ret (v := .tuple #[xv ⟨15, wd, r, b, 0, c, 0⟩, .bool false]) (by simp [results, Tryd.results40, go_sem, z0, z1, z2, z3, z4, z5, z6]) rfl ⟨by simp only [HB.out, Bool.false_and] <;> first | rfl | simp, kB5⟩
  · have HB := Aside0.mk (And.intro hr hb)
    clear hr hb
    go_enter Tryd.func40, Tryd.ntmps40
    go_upto_block 1 with (first
        | (go_at_call 58; (with_reducible refine (Plain _ _ _ _ _ _ _ _).mono ?_); rintro e w1 ⟨rfl, rfl⟩)
        | (go_at_call 57; (with_reducible refine (Reg r _).mono ?_); rw [HB.out.1]; rintro e w1 ⟨rfl, rfl⟩)
        | (go_at_call 57; (with_reducible refine (Reg b _).mono ?_); rw [HB.out.2]; rintro e w1 ⟨rfl, rfl⟩))
    obtain ⟨W, y, q, hW, hy, hq, hxy, hyx, hqy, hyq, hqx, hq0, hy0, HK⟩ := open5 w ⟨15, wd, r, b, i, c, n⟩ ⟨0, false, 0, 0, 0, 0, 0⟩ ⟨15, wd, 0, 0, 0, 0, 0⟩
    rw [hW, hy, hq]
    clear hW hy hq
    apply wp_block
    apply mono0 (k := 10)
    · (intro a w h; (repeat (first | refine then_out ?_ | refine block_out (by decide) ?_)); exact block_in (then_in h))
    go_wp2_with fail
    refine ⟨rfl, ?_⟩
    go_step
    apply mono0 (k := 0)
    · (intro a w h; (repeat (first | refine then_out ?_ | refine block_out (by decide) ?_)); exact block_in (then_in h))
    obtain ⟨y0, y1, y2, y3, y4, y5, y6⟩ := cell7 HK.out.2.2.1
    obtain ⟨f0, f1, f2, f3, f4, f5, f6⟩ := froz7 HK.out.2.2.1
    obtain ⟨x0, x1, x2, x3, x4, x5, x6⟩ := cell7 HK.out.1
    obtain ⟨r0, r1, r2, r3, r4, r5, r6⟩ := cell7 HK.out.2.1
    obtain ⟨g0, g1, g2, g3, g4, g5, g6⟩ := froz7 HK.out.2.1
    have lx := blk_lt HK.out.1
    have lq := blk_lt HK.out.2.1
    have ly := blk_lt HK.out.2.2.1
    go_wp2_with fail
    go_region_held3 (fun wr => wr.cell? ⟨w.heap.size, 2, none⟩ = some (.int .i64 r) ∧ wr.cell? ⟨w.heap.size, 3, none⟩ = some (.int .i64 b) ∧ wr.cell? ⟨w.heap.size, 5, none⟩ = some (.int .i64 c)) (go_keep) (fail)
    clear y0 y1 y2 y3 y4 y5 y6 f0 f1 f2 f3 f4 f5 f6 x0 x1 x2 x3 x4 x5 x6 r0 r1 r2 r3 r4 r5 r6 g0 g1 g2 g3 g4 g5 g6 lx lq ly
    obtain ⟨W22, hW⟩ : ∃ W2, ((((W).setCell ⟨y, 2, none⟩ (.int .i64 r)).setCell ⟨y, 3, none⟩ (.int .i64 b)).setCell ⟨y, 5, none⟩ (.int .i64 c)).drew = W2 := ⟨_, rfl⟩
    have kX := blk_drew (blk_far (blk_far (blk_far HK.out.1 (p := ⟨y, 2, none⟩) hxy (.int .i64 r)) (p := ⟨y, 3, none⟩) hxy (.int .i64 b)) (p := ⟨y, 5, none⟩) hxy (.int .i64 c))
    have kR := blk_drew (blk_far (blk_far (blk_far HK.out.2.1 (p := ⟨y, 2, none⟩) hqy (.int .i64 r)) (p := ⟨y, 3, none⟩) hqy (.int .i64 b)) (p := ⟨y, 5, none⟩) hqy (.int .i64 c))
    have kY := blk_drew (blk_put (blk_put (blk_put HK.out.2.2.1 2 (.int .i64 r) #[.int .i64 15, .bool wd, .int .i64 r, .int .i64 0, .int .i64 0, .int .i64 0, .int .i64 0] rfl) 3 (.int .i64 b) #[.int .i64 15, .bool wd, .int .i64 r, .int .i64 b, .int .i64 0, .int .i64 0, .int .i64 0] rfl) 5 (.int .i64 c) #[.int .i64 15, .bool wd, .int .i64 r, .int .i64 b, .int .i64 0, .int .i64 c, .int .i64 0] rfl)
    have kB := below_drew (Below.setCell (Below.setCell (Below.setCell HK.out.2.2.2 (p := ⟨y, 2, none⟩) hy0 (.int .i64 r)) (p := ⟨y, 3, none⟩) hy0 (.int .i64 b)) (p := ⟨y, 5, none⟩) hy0 (.int .i64 c))
    rw [hW] at kX kR kY kB ⊢
    have HK22 := Aside0.mk (And.intro kX (And.intro kR (And.intro kY kB)))
    clear hW kX kR kY kB
    obtain ⟨y0, y1, y2, y3, y4, y5, y6⟩ := cell7 HK22.out.2.2.1
    obtain ⟨f0, f1, f2, f3, f4, f5, f6⟩ := froz7 HK22.out.2.2.1
    obtain ⟨x0, x1, x2, x3, x4, x5, x6⟩ := cell7 HK22.out.1
    obtain ⟨r0, r1, r2, r3, r4, r5, r6⟩ := cell7 HK22.out.2.1
    obtain ⟨g0, g1, g2, g3, g4, g5, g6⟩ := froz7 HK22.out.2.1
    have lx := blk_lt HK22.out.1
    have lq := blk_lt HK22.out.2.1
    have ly := blk_lt HK22.out.2.2.1
    go_wp2_with fail
    refine ⟨rfl, ?_⟩
    go_wp2_with fail
    have kF := row7 HK22.out.2.1 (.int .i64 15) (.bool wd) (.int .i64 r) (.int .i64 b) (.int .i64 0) (.int .i64 c) (.int .i64 0)
    have kB5 := below7 hq0 HK22.out.2.2.2 (.int .i64 15) (.bool wd) (.int .i64 r) (.int .i64 b) (.int .i64 0) (.int .i64 c) (.int .i64 0)
    obtain ⟨W5, hW5⟩ : ∃ W5, (((((((W22).setCell ⟨q, 0, none⟩ (.int .i64 15)).setCell ⟨q, 1, none⟩ (.bool wd)).setCell ⟨q, 2, none⟩ (.int .i64 r)).setCell ⟨q, 3, none⟩ (.int .i64 b)).setCell ⟨q, 4, none⟩ (.int .i64 0)).setCell ⟨q, 5, none⟩ (.int .i64 c)).setCell ⟨q, 6, none⟩ (.int .i64 0) = W5 := ⟨_, rfl⟩
    rw [hW5] at kF kB5 ⊢
    clear hW5 y0 y1 y2 y3 y4 y5 y6 f0 f1 f2 f3 f4 f5 f6 x0 x1 x2 x3 x4 x5 x6 r0 r1 r2 r3 r4 r5 r6 g0 g1 g2 g3 g4 g5 g6 lx lq ly
    obtain ⟨z0, z1, z2, z3, z4, z5, z6⟩ := cell7 kF
    exact bodyPost_ret (v := .tuple #[xv ⟨15, wd, r, b, 0, c, 0⟩, .bool false]) (by simp [results, Tryd.results40, go_sem, z0, z1, z2, z3, z4, z5, z6]) rfl ⟨by simp only [HB.out.1, HB.out.2, Bool.true_and] <;> first | rfl | simp, kB5⟩
  · have HB := Aside0.mk (And.intro hr hb)
    clear hr hb
    go_enter Tryd.func40, Tryd.ntmps40
    go_upto_block 1 with (first
        | (go_at_call 58; (with_reducible refine (Plain _ _ _ _ _ _ _ _).mono ?_); rintro e w1 ⟨rfl, rfl⟩)
        | (go_at_call 57; (with_reducible refine (Reg r _).mono ?_); rw [HB.out.1]; rintro e w1 ⟨rfl, rfl⟩)
        | (go_at_call 57; (with_reducible refine (Reg b _).mono ?_); rw [HB.out.2]; rintro e w1 ⟨rfl, rfl⟩))
    obtain ⟨W, y, q, hW, hy, hq, hxy, hyx, hqy, hyq, hqx, hq0, hy0, HK⟩ := open5 w ⟨15, wd, r, b, i, c, n⟩ ⟨0, false, 0, 0, 0, 0, 0⟩ ⟨15, wd, 0, 0, 0, 0, 0⟩
    rw [hW, hy, hq]
    clear hW hy hq
    apply wp_block
    apply mono0 (k := 10)
    · (intro a w h; (repeat (first | refine then_out ?_ | refine block_out (by decide) ?_)); exact block_in (then_in h))
    go_wp2_with fail
    refine ⟨rfl, ?_⟩
    go_step
    apply mono0 (k := 0)
    · (intro a w h; (repeat (first | refine then_out ?_ | refine block_out (by decide) ?_)); exact block_in (then_in h))
    obtain ⟨y0, y1, y2, y3, y4, y5, y6⟩ := cell7 HK.out.2.2.1
    obtain ⟨f0, f1, f2, f3, f4, f5, f6⟩ := froz7 HK.out.2.2.1
    obtain ⟨x0, x1, x2, x3, x4, x5, x6⟩ := cell7 HK.out.1
    obtain ⟨r0, r1, r2, r3, r4, r5, r6⟩ := cell7 HK.out.2.1
    obtain ⟨g0, g1, g2, g3, g4, g5, g6⟩ := froz7 HK.out.2.1
    have lx := blk_lt HK.out.1
    have lq := blk_lt HK.out.2.1
    have ly := blk_lt HK.out.2.2.1
    go_wp2_with fail
    go_region_held3 (fun wr => wr.cell? ⟨w.heap.size, 2, none⟩ = some (.int .i64 r) ∧ wr.cell? ⟨w.heap.size, 3, none⟩ = some (.int .i64 b) ∧ wr.cell? ⟨w.heap.size, 5, none⟩ = some (.int .i64 c)) (go_keep) (fail)
    clear y0 y1 y2 y3 y4 y5 y6 f0 f1 f2 f3 f4 f5 f6 x0 x1 x2 x3 x4 x5 x6 r0 r1 r2 r3 r4 r5 r6 g0 g1 g2 g3 g4 g5 g6 lx lq ly
    obtain ⟨W23, hW⟩ : ∃ W2, ((((W).setCell ⟨y, 2, none⟩ (.int .i64 r)).setCell ⟨y, 3, none⟩ (.int .i64 b)).setCell ⟨y, 5, none⟩ (.int .i64 c)).drew = W2 := ⟨_, rfl⟩
    have kX := blk_drew (blk_far (blk_far (blk_far HK.out.1 (p := ⟨y, 2, none⟩) hxy (.int .i64 r)) (p := ⟨y, 3, none⟩) hxy (.int .i64 b)) (p := ⟨y, 5, none⟩) hxy (.int .i64 c))
    have kR := blk_drew (blk_far (blk_far (blk_far HK.out.2.1 (p := ⟨y, 2, none⟩) hqy (.int .i64 r)) (p := ⟨y, 3, none⟩) hqy (.int .i64 b)) (p := ⟨y, 5, none⟩) hqy (.int .i64 c))
    have kY := blk_drew (blk_put (blk_put (blk_put HK.out.2.2.1 2 (.int .i64 r) #[.int .i64 15, .bool wd, .int .i64 r, .int .i64 0, .int .i64 0, .int .i64 0, .int .i64 0] rfl) 3 (.int .i64 b) #[.int .i64 15, .bool wd, .int .i64 r, .int .i64 b, .int .i64 0, .int .i64 0, .int .i64 0] rfl) 5 (.int .i64 c) #[.int .i64 15, .bool wd, .int .i64 r, .int .i64 b, .int .i64 0, .int .i64 c, .int .i64 0] rfl)
    have kB := below_drew (Below.setCell (Below.setCell (Below.setCell HK.out.2.2.2 (p := ⟨y, 2, none⟩) hy0 (.int .i64 r)) (p := ⟨y, 3, none⟩) hy0 (.int .i64 b)) (p := ⟨y, 5, none⟩) hy0 (.int .i64 c))
    rw [hW] at kX kR kY kB ⊢
    have HK23 := Aside0.mk (And.intro kX (And.intro kR (And.intro kY kB)))
    clear hW kX kR kY kB
    obtain ⟨y0, y1, y2, y3, y4, y5, y6⟩ := cell7 HK23.out.2.2.1
    obtain ⟨f0, f1, f2, f3, f4, f5, f6⟩ := froz7 HK23.out.2.2.1
    obtain ⟨x0, x1, x2, x3, x4, x5, x6⟩ := cell7 HK23.out.1
    obtain ⟨r0, r1, r2, r3, r4, r5, r6⟩ := cell7 HK23.out.2.1
    obtain ⟨g0, g1, g2, g3, g4, g5, g6⟩ := froz7 HK23.out.2.1
    have lx := blk_lt HK23.out.1
    have lq := blk_lt HK23.out.2.1
    have ly := blk_lt HK23.out.2.2.1
    cases hcnd : cnd c with
    | false =>
      have HCND := Aside0.mk hcnd
      clear hcnd
      go_wp2_with (first
        | (go_at_call 61; (with_reducible refine (Cond c _ (HT.out.1.below (by with_reducible repeat (first | exact HK23.out.2.2.2 | refine Below.setCell ?_ hy0 _)))).mono ?_); rw [HCND.out]; rintro e w1 ⟨rfl, rfl⟩))
      refine ⟨rfl, ?_⟩
      go_wp2_with fail
      have kF := row7 HK23.out.2.1 (.int .i64 15) (.bool wd) (.int .i64 r) (.int .i64 b) (.int .i64 0) (.int .i64 c) (.int .i64 0)
      have kB5 := below7 hq0 HK23.out.2.2.2 (.int .i64 15) (.bool wd) (.int .i64 r) (.int .i64 b) (.int .i64 0) (.int .i64 c) (.int .i64 0)
      obtain ⟨W5, hW5⟩ : ∃ W5, (((((((W23).setCell ⟨q, 0, none⟩ (.int .i64 15)).setCell ⟨q, 1, none⟩ (.bool wd)).setCell ⟨q, 2, none⟩ (.int .i64 r)).setCell ⟨q, 3, none⟩ (.int .i64 b)).setCell ⟨q, 4, none⟩ (.int .i64 0)).setCell ⟨q, 5, none⟩ (.int .i64 c)).setCell ⟨q, 6, none⟩ (.int .i64 0) = W5 := ⟨_, rfl⟩
      rw [hW5] at kF kB5 ⊢
      clear hW5 y0 y1 y2 y3 y4 y5 y6 f0 f1 f2 f3 f4 f5 f6 x0 x1 x2 x3 x4 x5 x6 r0 r1 r2 r3 r4 r5 r6 g0 g1 g2 g3 g4 g5 g6 lx lq ly
      obtain ⟨z0, z1, z2, z3, z4, z5, z6⟩ := cell7 kF
      exact bodyPost_ret (v := .tuple #[xv ⟨15, wd, r, b, 0, c, 0⟩, .bool false]) (by simp [results, Tryd.results40, go_sem, z0, z1, z2, z3, z4, z5, z6]) rfl ⟨by simp only [HB.out.1, HB.out.2, Bool.true_and, HCND.out] <;> first | rfl | simp, kB5⟩
    | true =>
      have HCND := Aside0.mk hcnd
      clear hcnd
      go_wp2_with (first
        | (go_at_call 61; (with_reducible refine (Cond c _ (HT.out.1.below (by with_reducible repeat (first | exact HK23.out.2.2.2 | refine Below.setCell ?_ hy0 _)))).mono ?_); rw [HCND.out]; rintro e w1 ⟨rfl, rfl⟩))
      refine ⟨rfl, ?_⟩
      go_wp2_with fail
      have kF := row7 HK23.out.2.1 (.int .i64 15) (.bool wd) (.int .i64 r) (.int .i64 b) (.int .i64 0) (.int .i64 c) (.int .i64 0)
      have kB5 := below7 hq0 HK23.out.2.2.2 (.int .i64 15) (.bool wd) (.int .i64 r) (.int .i64 b) (.int .i64 0) (.int .i64 c) (.int .i64 0)
      obtain ⟨W5, hW5⟩ : ∃ W5, (((((((W23).setCell ⟨q, 0, none⟩ (.int .i64 15)).setCell ⟨q, 1, none⟩ (.bool wd)).setCell ⟨q, 2, none⟩ (.int .i64 r)).setCell ⟨q, 3, none⟩ (.int .i64 b)).setCell ⟨q, 4, none⟩ (.int .i64 0)).setCell ⟨q, 5, none⟩ (.int .i64 c)).setCell ⟨q, 6, none⟩ (.int .i64 0) = W5 := ⟨_, rfl⟩
      rw [hW5] at kF kB5 ⊢
      clear hW5 y0 y1 y2 y3 y4 y5 y6 f0 f1 f2 f3 f4 f5 f6 x0 x1 x2 x3 x4 x5 x6 r0 r1 r2 r3 r4 r5 r6 g0 g1 g2 g3 g4 g5 g6 lx lq ly
      obtain ⟨z0, z1, z2, z3, z4, z5, z6⟩ := cell7 kF
      exact bodyPost_ret (v := .tuple #[xv ⟨15, wd, r, b, 0, c, 0⟩, .bool true]) (by simp [results, Tryd.results40, go_sem, z0, z1, z2, z3, z4, z5, z6]) rfl ⟨by simp only [HB.out.1, HB.out.2, Bool.true_and, HCND.out] <;> first | rfl | simp, kB5⟩
end Go.Proofs.YtkfinaongajhmaaDoor.X

/- What an instruction's fields may be: what the program's function computes, kinds 11, 17. No condition but that the table of conditions holds what the program's text lays, and that numbers are those of the language. -/
import Derived.Test.YtkfinaongajhmaaDoorXSmall
import Derived.Deep.DeepCutAuto
import Derived.Deep.CutBlock
import Derived.BigRegion
import Derived.Deep.RegionHeld3
namespace Go.Proofs.YtkfinaongajhmaaDoor.X
open Go.Ob Go.Ob.Xc Go.RowKit Go.Proofs.YtkfinaongajhmaaDoorW.PrintWords Go.Proofs.YtkfinaongajhmaaDoorW.PrintMore
attribute [local go_sem] max2_int min2_int max_two min_two
set_option linter.unusedVariables false
set_option linter.unusedSimpArgs false
set_option maxHeartbeats 16000000 in
set_option maxRecDepth 100000 in
theorem shape_11 (wd : Bool) (r b i c n : Int) (w : World) (ht : Tab w) (hn : -9223372036854775808 ≤ n ∧ n ≤ 9223372036854775807) :
    Calls Tryd.prog 40 #[xv ⟨11, wd, r, b, i, c, n⟩] w fun e w' => e = .returned (.tuple #[xv ⟨11, wd, r, b, i, 0, n⟩, .bool (((reg r && reg b) && idx i) && word n)]) ∧ Below w.heap.size w w' := by
  have HT := Aside0.mk (And.intro ht hn)
  clear ht hn
  have cs : reg r = false ∨ (reg r = true ∧ reg b = false) ∨ (reg r = true ∧ reg b = true) := by cases reg r <;> cases reg b <;> simp
  rcases cs with hr | ⟨hr, hb⟩ | ⟨hr, hb⟩
  · have HB := Aside0.mk hr
    clear hr
    go_enter Tryd.func40, Tryd.ntmps40
    go_upto_block 1 with (first
        | (go_at_call 58; (with_reducible refine (Plain _ _ _ _ _ _ _ _).mono ?_); rintro e w1 ⟨rfl, rfl⟩)
        | (go_at_call 57; (with_reducible refine (Reg _ _).mono ?_); rw [HB.out]; rintro e w1 ⟨rfl, rfl⟩))
    obtain ⟨W, y, q, hW, hy, hq, hxy, hyx, hqy, hyq, hqx, hq0, hy0, HK⟩ := open5 w ⟨11, wd, r, b, i, c, n⟩ ⟨0, false, 0, 0, 0, 0, 0⟩ ⟨11, wd, 0, 0, 0, 0, 0⟩
    rw [hW, hy, hq]
    clear hW hy hq
    apply wp_block
    apply mono0 (k := 9)
    · (intro a w h; (repeat (first | refine then_out ?_ | refine block_out (by decide) ?_)); exact block_in (then_in h))
    go_wp2_with fail
    refine ⟨rfl, ?_⟩
    go_step
    apply mono0 (k := 0)
    · (intro a w h; (repeat (first | refine then_out ?_ | refine block_out (by decide) ?_)); exact block_in (then_in h))
    obtain ⟨y0, y1, y2, y3, y4, y5, y6⟩ := cell7 HK.out.2.2.1
    obtain ⟨f0, f1, f2, f3, f4, f5, f6⟩ := froz7 HK.out.2.2.1
    obtain ⟨x0, x1, x2, x3, x4, x5, x6⟩ := cell7 HK.out.1
    obtain ⟨r0, r1, r2, r3, r4, r5, r6⟩ := cell7 HK.out.2.1
    obtain ⟨g0, g1, g2, g3, g4, g5, g6⟩ := froz7 HK.out.2.1
    have lx := blk_lt HK.out.1
    have lq := blk_lt HK.out.2.1
    have ly := blk_lt HK.out.2.2.1
    go_wp2_with fail
    go_region_held3 (fun wr => wr.cell? ⟨w.heap.size, 2, none⟩ = some (.int .i64 r) ∧ wr.cell? ⟨w.heap.size, 3, none⟩ = some (.int .i64 b) ∧ wr.cell? ⟨w.heap.size, 4, none⟩ = some (.int .i64 i) ∧ wr.cell? ⟨w.heap.size, 6, none⟩ = some (.int .i64 n)) (go_keep) (fail)
    clear y0 y1 y2 y3 y4 y5 y6 f0 f1 f2 f3 f4 f5 f6 x0 x1 x2 x3 x4 x5 x6 r0 r1 r2 r3 r4 r5 r6 g0 g1 g2 g3 g4 g5 g6 lx lq ly
    obtain ⟨W21, hW⟩ : ∃ W2, (((((W).setCell ⟨y, 2, none⟩ (.int .i64 r)).setCell ⟨y, 3, none⟩ (.int .i64 b)).setCell ⟨y, 4, none⟩ (.int .i64 i)).setCell ⟨y, 6, none⟩ (.int .i64 n)).drew = W2 := ⟨_, rfl⟩
    have kX := blk_drew (blk_far (blk_far (blk_far (blk_far HK.out.1 (p := ⟨y, 2, none⟩) hxy (.int .i64 r)) (p := ⟨y, 3, none⟩) hxy (.int .i64 b)) (p := ⟨y, 4, none⟩) hxy (.int .i64 i)) (p := ⟨y, 6, none⟩) hxy (.int .i64 n))
    have kR := blk_drew (blk_far (blk_far (blk_far (blk_far HK.out.2.1 (p := ⟨y, 2, none⟩) hqy (.int .i64 r)) (p := ⟨y, 3, none⟩) hqy (.int .i64 b)) (p := ⟨y, 4, none⟩) hqy (.int .i64 i)) (p := ⟨y, 6, none⟩) hqy (.int .i64 n))
    have kY := blk_drew (blk_put (blk_put (blk_put (blk_put HK.out.2.2.1 2 (.int .i64 r) #[.int .i64 11, .bool wd, .int .i64 r, .int .i64 0, .int .i64 0, .int .i64 0, .int .i64 0] rfl) 3 (.int .i64 b) #[.int .i64 11, .bool wd, .int .i64 r, .int .i64 b, .int .i64 0, .int .i64 0, .int .i64 0] rfl) 4 (.int .i64 i) #[.int .i64 11, .bool wd, .int .i64 r, .int .i64 b, .int .i64 i, .int .i64 0, .int .i64 0] rfl) 6 (.int .i64 n) #[.int .i64 11, .bool wd, .int .i64 r, .int .i64 b, .int .i64 i, .int .i64 0, .int .i64 n] rfl)
    have kB := below_drew (Below.setCell (Below.setCell (Below.setCell (Below.setCell HK.out.2.2.2 (p := ⟨y, 2, none⟩) hy0 (.int .i64 r)) (p := ⟨y, 3, none⟩) hy0 (.int .i64 b)) (p := ⟨y, 4, none⟩) hy0 (.int .i64 i)) (p := ⟨y, 6, none⟩) hy0 (.int .i64 n))
    rw [hW] at kX kR kY kB ⊢
    have HK21 := Aside0.mk (And.intro kX (And.intro kR (And.intro kY kB)))
    clear hW kX kR kY kB
    obtain ⟨y0, y1, y2, y3, y4, y5, y6⟩ := cell7 HK21.out.2.2.1
    obtain ⟨f0, f1, f2, f3, f4, f5, f6⟩ := froz7 HK21.out.2.2.1
    obtain ⟨x0, x1, x2, x3, x4, x5, x6⟩ := cell7 HK21.out.1
    obtain ⟨r0, r1, r2, r3, r4, r5, r6⟩ := cell7 HK21.out.2.1
    obtain ⟨g0, g1, g2, g3, g4, g5, g6⟩ := froz7 HK21.out.2.1
    have lx := blk_lt HK21.out.1
    have lq := blk_lt HK21.out.2.1
    have ly := blk_lt HK21.out.2.2.1
    go_wp2_with fail
    refine ⟨rfl, ?_⟩
    go_wp2_with fail
    have kF := row7 HK21.out.2.1 (.int .i64 11) (.bool wd) (.int .i64 r) (.int .i64 b) (.int .i64 i) (.int .i64 0) (.int .i64 n)
    have kB5 := below7 hq0 HK21.out.2.2.2 (.int .i64 11) (.bool wd) (.int .i64 r) (.int .i64 b) (.int .i64 i) (.int .i64 0) (.int .i64 n)
    obtain ⟨W5, hW5⟩ : ∃ W5, (((((((W21).setCell ⟨q, 0, none⟩ (.int .i64 11)).setCell ⟨q, 1, none⟩ (.bool wd)).setCell ⟨q, 2, none⟩ (.int .i64 r)).setCell ⟨q, 3, none⟩ (.int .i64 b)).setCell ⟨q, 4, none⟩ (.int .i64 i)).setCell ⟨q, 5, none⟩ (.int .i64 0)).setCell ⟨q, 6, none⟩ (.int .i64 n) = W5 := ⟨_, rfl⟩
    rw [hW5] at kF kB5 ⊢
    clear hW5 y0 y1 y2 y3 y4 y5 y6 f0 f1 f2 f3 f4 f5 f6 x0 x1 x2 x3 x4 x5 x6 r0 r1 r2 r3 r4 r5 r6 g0 g1 g2 g3 g4 g5 g6 lx lq ly
    obtain ⟨z0, z1, z2, z3, z4, z5, z6⟩ := cell7 kF
    exact bodyPost_ret (v := .tuple #[xv ⟨11, wd, r, b, i, 0, n⟩, .bool false]) (by simp [results, Tryd.results40, go_sem, z0, z1, z2, z3, z4, z5, z6]) rfl ⟨by simp only [HB.out, Bool.false_and] <;> first | rfl | simp, kB5⟩
  · have HB := Aside0.mk (And.intro hr hb)
    clear hr hb
    go_enter Tryd.func40, Tryd.ntmps40
    go_upto_block 1 with (first
        | (go_at_call 58; (with_reducible refine (Plain _ _ _ _ _ _ _ _).mono ?_); rintro e w1 ⟨rfl, rfl⟩)
        | (go_at_call 57; (with_reducible refine (Reg r _).mono ?_); rw [HB.out.1]; rintro e w1 ⟨rfl, rfl⟩)
        | (go_at_call 57; (with_reducible refine (Reg b _).mono ?_); rw [HB.out.2]; rintro e w1 ⟨rfl, rfl⟩))
    obtain ⟨W, y, q, hW, hy, hq, hxy, hyx, hqy, hyq, hqx, hq0, hy0, HK⟩ := open5 w ⟨11, wd, r, b, i, c, n⟩ ⟨0, false, 0, 0, 0, 0, 0⟩ ⟨11, wd, 0, 0, 0, 0, 0⟩
    rw [hW, hy, hq]
    clear hW hy hq
    apply wp_block
    apply mono0 (k := 9)
    · (intro a w h; (repeat (first | refine then_out ?_ | refine block_out (by decide) ?_)); exact block_in (then_in h))
    go_wp2_with fail
    refine ⟨rfl, ?_⟩
    go_step
    apply mono0 (k := 0)
    · (intro a w h; (repeat (first | refine then_out ?_ | refine block_out (by decide) ?_)); exact block_in (then_in h))
    obtain ⟨y0, y1, y2, y3, y4, y5, y6⟩ := cell7 HK.out.2.2.1
    obtain ⟨f0, f1, f2, f3, f4, f5, f6⟩ := froz7 HK.out.2.2.1
    obtain ⟨x0, x1, x2, x3, x4, x5, x6⟩ := cell7 HK.out.1
    obtain ⟨r0, r1, r2, r3, r4, r5, r6⟩ := cell7 HK.out.2.1
    obtain ⟨g0, g1, g2, g3, g4, g5, g6⟩ := froz7 HK.out.2.1
    have lx := blk_lt HK.out.1
    have lq := blk_lt HK.out.2.1
    have ly := blk_lt HK.out.2.2.1
    go_wp2_with fail
    go_region_held3 (fun wr => wr.cell? ⟨w.heap.size, 2, none⟩ = some (.int .i64 r) ∧ wr.cell? ⟨w.heap.size, 3, none⟩ = some (.int .i64 b) ∧ wr.cell? ⟨w.heap.size, 4, none⟩ = some (.int .i64 i) ∧ wr.cell? ⟨w.heap.size, 6, none⟩ = some (.int .i64 n)) (go_keep) (fail)
    clear y0 y1 y2 y3 y4 y5 y6 f0 f1 f2 f3 f4 f5 f6 x0 x1 x2 x3 x4 x5 x6 r0 r1 r2 r3 r4 r5 r6 g0 g1 g2 g3 g4 g5 g6 lx lq ly
    obtain ⟨W22, hW⟩ : ∃ W2, (((((W).setCell ⟨y, 2, none⟩ (.int .i64 r)).setCell ⟨y, 3, none⟩ (.int .i64 b)).setCell ⟨y, 4, none⟩ (.int .i64 i)).setCell ⟨y, 6, none⟩ (.int .i64 n)).drew = W2 := ⟨_, rfl⟩
    have kX := blk_drew (blk_far (blk_far (blk_far (blk_far HK.out.1 (p := ⟨y, 2, none⟩) hxy (.int .i64 r)) (p := ⟨y, 3, none⟩) hxy (.int .i64 b)) (p := ⟨y, 4, none⟩) hxy (.int .i64 i)) (p := ⟨y, 6, none⟩) hxy (.int .i64 n))
    have kR := blk_drew (blk_far (blk_far (blk_far (blk_far HK.out.2.1 (p := ⟨y, 2, none⟩) hqy (.int .i64 r)) (p := ⟨y, 3, none⟩) hqy (.int .i64 b)) (p := ⟨y, 4, none⟩) hqy (.int .i64 i)) (p := ⟨y, 6, none⟩) hqy (.int .i64 n))
    have kY := blk_drew (blk_put (blk_put (blk_put (blk_put HK.out.2.2.1 2 (.int .i64 r) #[.int .i64 11, .bool wd, .int .i64 r, .int .i64 0, .int .i64 0, .int .i64 0, .int .i64 0] rfl) 3 (.int .i64 b) #[.int .i64 11, .bool wd, .int .i64 r, .int .i64 b, .int .i64 0, .int .i64 0, .int .i64 0] rfl) 4 (.int .i64 i) #[.int .i64 11, .bool wd, .int .i64 r, .int .i64 b, .int .i64 i, .int .i64 0, .int .i64 0] rfl) 6 (.int .i64 n) #[.int .i64 11, .bool wd, .int .i64 r, .int .i64 b, .int .i64 i, .int .i64 0, .int .i64 n] rfl)
    have kB := below_drew (Below.setCell (Below.setCell (Below.setCell (Below.setCell HK.out.2.2.2 (p := ⟨y, 2, none⟩) hy0 (.int .i64 r)) (p := ⟨y, 3, none⟩) hy0 (.int .i64 b)) (p := ⟨y, 4, none⟩) hy0 (.int .i64 i)) (p := ⟨y, 6, none⟩) hy0 (.int .i64 n))
    rw [hW] at kX kR kY kB ⊢
    have HK22 := Aside0.mk (And.intro kX (And.intro kR (And.intro kY kB)))
    clear hW kX kR kY kB
    obtain ⟨y0, y1, y2, y3, y4, y5, y6⟩ := cell7 HK22.out.2.2.1
    obtain ⟨f0, f1, f2, f3, f4, f5, f6⟩ := froz7 HK22.out.2.2.1
    obtain ⟨x0, x1, x2, x3, x4, x5, x6⟩ := cell7 HK22.out.1
    obtain ⟨r0, r1, r2, r3, r4, r5, r6⟩ := cell7 HK22.out.2.1
    obtain ⟨g0, g1, g2, g3, g4, g5, g6⟩ := froz7 HK22.out.2.1
    have lx := blk_lt HK22.out.1
    have lq := blk_lt HK22.out.2.1
    have ly := blk_lt HK22.out.2.2.1
    go_wp2_with fail
    refine ⟨rfl, ?_⟩
    go_wp2_with fail
    have kF := row7 HK22.out.2.1 (.int .i64 11) (.bool wd) (.int .i64 r) (.int .i64 b) (.int .i64 i) (.int .i64 0) (.int .i64 n)
    have kB5 := below7 hq0 HK22.out.2.2.2 (.int .i64 11) (.bool wd) (.int .i64 r) (.int .i64 b) (.int .i64 i) (.int .i64 0) (.int .i64 n)
    obtain ⟨W5, hW5⟩ : ∃ W5, (((((((W22).setCell ⟨q, 0, none⟩ (.int .i64 11)).setCell ⟨q, 1, none⟩ (.bool wd)).setCell ⟨q, 2, none⟩ (.int .i64 r)).setCell ⟨q, 3, none⟩ (.int .i64 b)).setCell ⟨q, 4, none⟩ (.int .i64 i)).setCell ⟨q, 5, none⟩ (.int .i64 0)).setCell ⟨q, 6, none⟩ (.int .i64 n) = W5 := ⟨_, rfl⟩
    rw [hW5] at kF kB5 ⊢
    clear hW5 y0 y1 y2 y3 y4 y5 y6 f0 f1 f2 f3 f4 f5 f6 x0 x1 x2 x3 x4 x5 x6 r0 r1 r2 r3 r4 r5 r6 g0 g1 g2 g3 g4 g5 g6 lx lq ly
    obtain ⟨z0, z1, z2, z3, z4, z5, z6⟩ := cell7 kF
    exact bodyPost_ret (v := .tuple #[xv ⟨11, wd, r, b, i, 0, n⟩, .bool false]) (by simp [results, Tryd.results40, go_sem, z0, z1, z2, z3, z4, z5, z6]) rfl ⟨by simp only [HB.out.1, HB.out.2, Bool.true_and] <;> first | rfl | simp, kB5⟩
  · have HB := Aside0.mk (And.intro hr hb)
    clear hr hb
    go_enter Tryd.func40, Tryd.ntmps40
    go_upto_block 1 with (first
        | (go_at_call 58; (with_reducible refine (Plain _ _ _ _ _ _ _ _).mono ?_); rintro e w1 ⟨rfl, rfl⟩)
        | (go_at_call 57; (with_reducible refine (Reg r _).mono ?_); rw [HB.out.1]; rintro e w1 ⟨rfl, rfl⟩)
        | (go_at_call 57; (with_reducible refine (Reg b _).mono ?_); rw [HB.out.2]; rintro e w1 ⟨rfl, rfl⟩))
    obtain ⟨W, y, q, hW, hy, hq, hxy, hyx, hqy, hyq, hqx, hq0, hy0, HK⟩ := open5 w ⟨11, wd, r, b, i, c, n⟩ ⟨0, false, 0, 0, 0, 0, 0⟩ ⟨11, wd, 0, 0, 0, 0, 0⟩
    rw [hW, hy, hq]
    clear hW hy hq
    apply wp_block
    apply mono0 (k := 9)
    · (intro a w h; (repeat (first | refine then_out ?_ | refine block_out (by decide) ?_)); exact block_in (then_in h))
    go_wp2_with fail
    refine ⟨rfl, ?_⟩
    go_step
    apply mono0 (k := 0)
    · (intro a w h; (repeat (first | refine then_out ?_ | refine block_out (by decide) ?_)); exact block_in (then_in h))
    obtain ⟨y0, y1, y2, y3, y4, y5, y6⟩ := cell7 HK.out.2.2.1
    obtain ⟨f0, f1, f2, f3, f4, f5, f6⟩ := froz7 HK.out.2.2.1
    obtain ⟨x0, x1, x2, x3, x4, x5, x6⟩ := cell7 HK.out.1
    obtain ⟨r0, r1, r2, r3, r4, r5, r6⟩ := cell7 HK.out.2.1
    obtain ⟨g0, g1, g2, g3, g4, g5, g6⟩ := froz7 HK.out.2.1
    have lx := blk_lt HK.out.1
    have lq := blk_lt HK.out.2.1
    have ly := blk_lt HK.out.2.2.1
    go_wp2_with fail
    go_region_held3 (fun wr => wr.cell? ⟨w.heap.size, 2, none⟩ = some (.int .i64 r) ∧ wr.cell? ⟨w.heap.size, 3, none⟩ = some (.int .i64 b) ∧ wr.cell? ⟨w.heap.size, 4, none⟩ = some (.int .i64 i) ∧ wr.cell? ⟨w.heap.size, 6, none⟩ = some (.int .i64 n)) (go_keep) (fail)
    clear y0 y1 y2 y3 y4 y5 y6 f0 f1 f2 f3 f4 f5 f6 x0 x1 x2 x3 x4 x5 x6 r0 r1 r2 r3 r4 r5 r6 g0 g1 g2 g3 g4 g5 g6 lx lq ly
    obtain ⟨W23, hW⟩ : ∃ W2, (((((W).setCell ⟨y, 2, none⟩ (.int .i64 r)).setCell ⟨y, 3, none⟩ (.int .i64 b)).setCell ⟨y, 4, none⟩ (.int .i64 i)).setCell ⟨y, 6, none⟩ (.int .i64 n)).drew = W2 := ⟨_, rfl⟩
    have kX := blk_drew (blk_far (blk_far (blk_far (blk_far HK.out.1 (p := ⟨y, 2, none⟩) hxy (.int .i64 r)) (p := ⟨y, 3, none⟩) hxy (.int .i64 b)) (p := ⟨y, 4, none⟩) hxy (.int .i64 i)) (p := ⟨y, 6, none⟩) hxy (.int .i64 n))
    have kR := blk_drew (blk_far (blk_far (blk_far (blk_far HK.out.2.1 (p := ⟨y, 2, none⟩) hqy (.int .i64 r)) (p := ⟨y, 3, none⟩) hqy (.int .i64 b)) (p := ⟨y, 4, none⟩) hqy (.int .i64 i)) (p := ⟨y, 6, none⟩) hqy (.int .i64 n))
    have kY := blk_drew (blk_put (blk_put (blk_put (blk_put HK.out.2.2.1 2 (.int .i64 r) #[.int .i64 11, .bool wd, .int .i64 r, .int .i64 0, .int .i64 0, .int .i64 0, .int .i64 0] rfl) 3 (.int .i64 b) #[.int .i64 11, .bool wd, .int .i64 r, .int .i64 b, .int .i64 0, .int .i64 0, .int .i64 0] rfl) 4 (.int .i64 i) #[.int .i64 11, .bool wd, .int .i64 r, .int .i64 b, .int .i64 i, .int .i64 0, .int .i64 0] rfl) 6 (.int .i64 n) #[.int .i64 11, .bool wd, .int .i64 r, .int .i64 b, .int .i64 i, .int .i64 0, .int .i64 n] rfl)
    have kB := below_drew (Below.setCell (Below.setCell (Below.setCell (Below.setCell HK.out.2.2.2 (p := ⟨y, 2, none⟩) hy0 (.int .i64 r)) (p := ⟨y, 3, none⟩) hy0 (.int .i64 b)) (p := ⟨y, 4, none⟩) hy0 (.int .i64 i)) (p := ⟨y, 6, none⟩) hy0 (.int .i64 n))
    rw [hW] at kX kR kY kB ⊢
    have HK23 := Aside0.mk (And.intro kX (And.intro kR (And.intro kY kB)))
    clear hW kX kR kY kB
    obtain ⟨y0, y1, y2, y3, y4, y5, y6⟩ := cell7 HK23.out.2.2.1
    obtain ⟨f0, f1, f2, f3, f4, f5, f6⟩ := froz7 HK23.out.2.2.1
    obtain ⟨x0, x1, x2, x3, x4, x5, x6⟩ := cell7 HK23.out.1
    obtain ⟨r0, r1, r2, r3, r4, r5, r6⟩ := cell7 HK23.out.2.1
    obtain ⟨g0, g1, g2, g3, g4, g5, g6⟩ := froz7 HK23.out.2.1
    have lx := blk_lt HK23.out.1
    have lq := blk_lt HK23.out.2.1
    have ly := blk_lt HK23.out.2.2.1
    have cs : i < 0 ∨ 16 < i ∨ i = 5 ∨ (0 ≤ i ∧ i ≤ 16 ∧ ¬ i = 5) := by omega
    rcases cs with hi | hi | rfl | ⟨hi, hi2, hi3⟩
    · have hx : idx i = false := by unfold idx; exact decide_eq_false (by omega)
      have e1 : decide (0 ≤ i) = false := decide_eq_false (by omega)
      go_wp2_with fail
      refine ⟨rfl, ?_⟩
      go_wp2_with fail
      have kF := row7 HK23.out.2.1 (.int .i64 11) (.bool wd) (.int .i64 r) (.int .i64 b) (.int .i64 i) (.int .i64 0) (.int .i64 n)
      have kB5 := below7 hq0 HK23.out.2.2.2 (.int .i64 11) (.bool wd) (.int .i64 r) (.int .i64 b) (.int .i64 i) (.int .i64 0) (.int .i64 n)
      obtain ⟨W5, hW5⟩ : ∃ W5, (((((((W23).setCell ⟨q, 0, none⟩ (.int .i64 11)).setCell ⟨q, 1, none⟩ (.bool wd)).setCell ⟨q, 2, none⟩ (.int .i64 r)).setCell ⟨q, 3, none⟩ (.int .i64 b)).setCell ⟨q, 4, none⟩ (.int .i64 i)).setCell ⟨q, 5, none⟩ (.int .i64 0)).setCell ⟨q, 6, none⟩ (.int .i64 n) = W5 := ⟨_, rfl⟩
      rw [hW5] at kF kB5 ⊢
      clear hW5 y0 y1 y2 y3 y4 y5 y6 f0 f1 f2 f3 f4 f5 f6 x0 x1 x2 x3 x4 x5 x6 r0 r1 r2 r3 r4 r5 r6 g0 g1 g2 g3 g4 g5 g6 lx lq ly
      obtain ⟨z0, z1, z2, z3, z4, z5, z6⟩ := cell7 kF
      exact bodyPost_ret (v := .tuple #[xv ⟨11, wd, r, b, i, 0, n⟩, .bool false]) (by simp [results, Tryd.results40, go_sem, z0, z1, z2, z3, z4, z5, z6]) rfl ⟨by simp only [HB.out.1, HB.out.2, Bool.true_and, hx] <;> first | rfl | simp, kB5⟩
    · have hx : idx i = false := by unfold idx; exact decide_eq_false (by omega)
      have e0 : 0 ≤ i := by omega
      have e1 : decide (i ≤ 16) = false := decide_eq_false (by omega)
      go_wp2_with fail
      refine ⟨rfl, ?_⟩
      go_wp2_with fail
      have kF := row7 HK23.out.2.1 (.int .i64 11) (.bool wd) (.int .i64 r) (.int .i64 b) (.int .i64 i) (.int .i64 0) (.int .i64 n)
      have kB5 := below7 hq0 HK23.out.2.2.2 (.int .i64 11) (.bool wd) (.int .i64 r) (.int .i64 b) (.int .i64 i) (.int .i64 0) (.int .i64 n)
      obtain ⟨W5, hW5⟩ : ∃ W5, (((((((W23).setCell ⟨q, 0, none⟩ (.int .i64 11)).setCell ⟨q, 1, none⟩ (.bool wd)).setCell ⟨q, 2, none⟩ (.int .i64 r)).setCell ⟨q, 3, none⟩ (.int .i64 b)).setCell ⟨q, 4, none⟩ (.int .i64 i)).setCell ⟨q, 5, none⟩ (.int .i64 0)).setCell ⟨q, 6, none⟩ (.int .i64 n) = W5 := ⟨_, rfl⟩
      rw [hW5] at kF kB5 ⊢
      clear hW5 y0 y1 y2 y3 y4 y5 y6 f0 f1 f2 f3 f4 f5 f6 x0 x1 x2 x3 x4 x5 x6 r0 r1 r2 r3 r4 r5 r6 g0 g1 g2 g3 g4 g5 g6 lx lq ly
      obtain ⟨z0, z1, z2, z3, z4, z5, z6⟩ := cell7 kF
      exact bodyPost_ret (v := .tuple #[xv ⟨11, wd, r, b, i, 0, n⟩, .bool false]) (by simp [results, Tryd.results40, go_sem, z0, z1, z2, z3, z4, z5, z6]) rfl ⟨by simp only [HB.out.1, HB.out.2, Bool.true_and, hx] <;> first | rfl | simp, kB5⟩
    · have hx : idx 5 = false := by decide
      go_wp2_with fail
      refine ⟨rfl, ?_⟩
      go_wp2_with fail
      have kF := row7 HK23.out.2.1 (.int .i64 11) (.bool wd) (.int .i64 r) (.int .i64 b) (.int .i64 5) (.int .i64 0) (.int .i64 n)
      have kB5 := below7 hq0 HK23.out.2.2.2 (.int .i64 11) (.bool wd) (.int .i64 r) (.int .i64 b) (.int .i64 5) (.int .i64 0) (.int .i64 n)
      obtain ⟨W5, hW5⟩ : ∃ W5, (((((((W23).setCell ⟨q, 0, none⟩ (.int .i64 11)).setCell ⟨q, 1, none⟩ (.bool wd)).setCell ⟨q, 2, none⟩ (.int .i64 r)).setCell ⟨q, 3, none⟩ (.int .i64 b)).setCell ⟨q, 4, none⟩ (.int .i64 5)).setCell ⟨q, 5, none⟩ (.int .i64 0)).setCell ⟨q, 6, none⟩ (.int .i64 n) = W5 := ⟨_, rfl⟩
      rw [hW5] at kF kB5 ⊢
      clear hW5 y0 y1 y2 y3 y4 y5 y6 f0 f1 f2 f3 f4 f5 f6 x0 x1 x2 x3 x4 x5 x6 r0 r1 r2 r3 r4 r5 r6 g0 g1 g2 g3 g4 g5 g6 lx lq ly
      obtain ⟨z0, z1, z2, z3, z4, z5, z6⟩ := cell7 kF
      exact bodyPost_ret (v := .tuple #[xv ⟨11, wd, r, b, 5, 0, n⟩, .bool false]) (by simp [results, Tryd.results40, go_sem, z0, z1, z2, z3, z4, z5, z6]) rfl ⟨by simp only [HB.out.1, HB.out.2, Bool.true_and, hx] <;> first | rfl | simp, kB5⟩
    · have hx : idx i = true := by unfold idx; exact decide_eq_true (by omega)
      have e1 : decide (i ≤ 16) = true := decide_eq_true (by omega)
      have e2 : (i == 5) = false := beq_eq_false_iff_ne.mpr hi3
      have e3 : (i != 5) = true := bne_iff_ne.mpr hi3
      cases hword : word n with
      | false =>
        have HWORD := Aside0.mk hword
        clear hword
        go_wp2_with (first
          | (go_at_call 59; (with_reducible refine (Word n _ HT.out.2).mono ?_); rw [HWORD.out]; rintro e w1 ⟨rfl, rfl⟩))
        refine ⟨rfl, ?_⟩
        go_wp2_with fail
        have kF := row7 HK23.out.2.1 (.int .i64 11) (.bool wd) (.int .i64 r) (.int .i64 b) (.int .i64 i) (.int .i64 0) (.int .i64 n)
        have kB5 := below7 hq0 HK23.out.2.2.2 (.int .i64 11) (.bool wd) (.int .i64 r) (.int .i64 b) (.int .i64 i) (.int .i64 0) (.int .i64 n)
        obtain ⟨W5, hW5⟩ : ∃ W5, (((((((W23).setCell ⟨q, 0, none⟩ (.int .i64 11)).setCell ⟨q, 1, none⟩ (.bool wd)).setCell ⟨q, 2, none⟩ (.int .i64 r)).setCell ⟨q, 3, none⟩ (.int .i64 b)).setCell ⟨q, 4, none⟩ (.int .i64 i)).setCell ⟨q, 5, none⟩ (.int .i64 0)).setCell ⟨q, 6, none⟩ (.int .i64 n) = W5 := ⟨_, rfl⟩
        rw [hW5] at kF kB5 ⊢
        clear hW5 y0 y1 y2 y3 y4 y5 y6 f0 f1 f2 f3 f4 f5 f6 x0 x1 x2 x3 x4 x5 x6 r0 r1 r2 r3 r4 r5 r6 g0 g1 g2 g3 g4 g5 g6 lx lq ly
        obtain ⟨z0, z1, z2, z3, z4, z5, z6⟩ := cell7 kF
        exact bodyPost_ret (v := .tuple #[xv ⟨11, wd, r, b, i, 0, n⟩, .bool false]) (by simp [results, Tryd.results40, go_sem, z0, z1, z2, z3, z4, z5, z6]) rfl ⟨by simp only [HB.out.1, HB.out.2, Bool.true_and, hx, HWORD.out] <;> first | rfl | simp, kB5⟩
      | true =>
        have HWORD := Aside0.mk hword
        clear hword
        go_wp2_with (first
          | (go_at_call 59; (with_reducible refine (Word n _ HT.out.2).mono ?_); rw [HWORD.out]; rintro e w1 ⟨rfl, rfl⟩))
        refine ⟨rfl, ?_⟩
        go_wp2_with fail
        have kF := row7 HK23.out.2.1 (.int .i64 11) (.bool wd) (.int .i64 r) (.int .i64 b) (.int .i64 i) (.int .i64 0) (.int .i64 n)
        have kB5 := below7 hq0 HK23.out.2.2.2 (.int .i64 11) (.bool wd) (.int .i64 r) (.int .i64 b) (.int .i64 i) (.int .i64 0) (.int .i64 n)
        obtain ⟨W5, hW5⟩ : ∃ W5, (((((((W23).setCell ⟨q, 0, none⟩ (.int .i64 11)).setCell ⟨q, 1, none⟩ (.bool wd)).setCell ⟨q, 2, none⟩ (.int .i64 r)).setCell ⟨q, 3, none⟩ (.int .i64 b)).setCell ⟨q, 4, none⟩ (.int .i64 i)).setCell ⟨q, 5, none⟩ (.int .i64 0)).setCell ⟨q, 6, none⟩ (.int .i64 n) = W5 := ⟨_, rfl⟩
        rw [hW5] at kF kB5 ⊢
        clear hW5 y0 y1 y2 y3 y4 y5 y6 f0 f1 f2 f3 f4 f5 f6 x0 x1 x2 x3 x4 x5 x6 r0 r1 r2 r3 r4 r5 r6 g0 g1 g2 g3 g4 g5 g6 lx lq ly
        obtain ⟨z0, z1, z2, z3, z4, z5, z6⟩ := cell7 kF
        exact bodyPost_ret (v := .tuple #[xv ⟨11, wd, r, b, i, 0, n⟩, .bool true]) (by simp [results, Tryd.results40, go_sem, z0, z1, z2, z3, z4, z5, z6]) rfl ⟨by simp only [HB.out.1, HB.out.2, Bool.true_and, hx, HWORD.out] <;> first | rfl | simp, kB5⟩
set_option maxHeartbeats 16000000 in
set_option maxRecDepth 100000 in
theorem shape_17 (wd : Bool) (r b i c n : Int) (w : World) (ht : Tab w) (hn : -9223372036854775808 ≤ n ∧ n ≤ 9223372036854775807) :
    Calls Tryd.prog 40 #[xv ⟨17, wd, r, b, i, c, n⟩] w fun e w' => e = .returned (.tuple #[xv ⟨17, wd, 0, 0, 0, 0, n⟩, .bool (((reg r && reg b) && word n) && !wd)]) ∧ Below w.heap.size w w' := by
  have HT := Aside0.mk (And.intro ht hn)
  clear ht hn
  have cs : reg r = false ∨ (reg r = true ∧ reg b = false) ∨ (reg r = true ∧ reg b = true) := by cases reg r <;> cases reg b <;> simp
  rcases cs with hr | ⟨hr, hb⟩ | ⟨hr, hb⟩
  · have HB := Aside0.mk hr
    clear hr
    go_enter Tryd.func40, Tryd.ntmps40
    go_upto_block 1 with (first
        | (go_at_call 58; (with_reducible refine (Plain _ _ _ _ _ _ _ _).mono ?_); rintro e w1 ⟨rfl, rfl⟩)
        | (go_at_call 57; (with_reducible refine (Reg _ _).mono ?_); rw [HB.out]; rintro e w1 ⟨rfl, rfl⟩))
    obtain ⟨W, y, q, hW, hy, hq, hxy, hyx, hqy, hyq, hqx, hq0, hy0, HK⟩ := open5 w ⟨17, wd, r, b, i, c, n⟩ ⟨0, false, 0, 0, 0, 0, 0⟩ ⟨17, wd, 0, 0, 0, 0, 0⟩
    rw [hW, hy, hq]
    clear hW hy hq
    apply wp_block
    apply mono0 (k := 13)
    · (intro a w h; (repeat (first | refine then_out ?_ | refine block_out (by decide) ?_)); exact block_in (then_in h))
    go_wp2_with fail
    refine ⟨rfl, ?_⟩
    go_step
    apply mono0 (k := 0)
    · (intro a w h; (repeat (first | refine then_out ?_ | refine block_out (by decide) ?_)); exact block_in (then_in h))
    obtain ⟨y0, y1, y2, y3, y4, y5, y6⟩ := cell7 HK.out.2.2.1
    obtain ⟨f0, f1, f2, f3, f4, f5, f6⟩ := froz7 HK.out.2.2.1
    obtain ⟨x0, x1, x2, x3, x4, x5, x6⟩ := cell7 HK.out.1
    obtain ⟨r0, r1, r2, r3, r4, r5, r6⟩ := cell7 HK.out.2.1
    obtain ⟨g0, g1, g2, g3, g4, g5, g6⟩ := froz7 HK.out.2.1
    have lx := blk_lt HK.out.1
    have lq := blk_lt HK.out.2.1
    have ly := blk_lt HK.out.2.2.1
    go_wp2_with fail
    refine ⟨rfl, ?_⟩
    go_wp2_with fail
    have kF := row7 (blk_far HK.out.2.1 (p := ⟨y, 6, none⟩) hqy (.int .i64 n)) (.int .i64 17) (.bool wd) (.int .i64 0) (.int .i64 0) (.int .i64 0) (.int .i64 0) (.int .i64 n)
    have kB5 := below7 hq0 (Below.setCell HK.out.2.2.2 (p := ⟨y, 6, none⟩) hy0 (.int .i64 n)) (.int .i64 17) (.bool wd) (.int .i64 0) (.int .i64 0) (.int .i64 0) (.int .i64 0) (.int .i64 n)
    obtain ⟨W5, hW5⟩ : ∃ W5, ((((((((W).setCell ⟨y, 6, none⟩ (.int .i64 n)).setCell ⟨q, 0, none⟩ (.int .i64 17)).setCell ⟨q, 1, none⟩ (.bool wd)).setCell ⟨q, 2, none⟩ (.int .i64 0)).setCell ⟨q, 3, none⟩ (.int .i64 0)).setCell ⟨q, 4, none⟩ (.int .i64 0)).setCell ⟨q, 5, none⟩ (.int .i64 0)).setCell ⟨q, 6, none⟩ (.int .i64 n) = W5 := ⟨_, rfl⟩
    rw [hW5] at kF kB5 ⊢
    clear hW5 y0 y1 y2 y3 y4 y5 y6 f0 f1 f2 f3 f4 f5 f6 x0 x1 x2 x3 x4 x5 x6 r0 r1 r2 r3 r4 r5 r6 g0 g1 g2 g3 g4 g5 g6 lx lq ly
    obtain ⟨z0, z1, z2, z3, z4, z5, z6⟩ := cell7 kF
    exact bodyPost_ret (v := .tuple #[xv ⟨17, wd, 0, 0, 0, 0, n⟩, .bool false]) (by simp [results, Tryd.results40, go_sem, z0, z1, z2, z3, z4, z5, z6]) rfl ⟨by simp only [HB.out, Bool.false_and] <;> first | rfl | simp, kB5⟩
  · have HB := Aside0.mk (And.intro hr hb)
    clear hr hb
    go_enter Tryd.func40, Tryd.ntmps40
    go_upto_block 1 with (first
        | (go_at_call 58; (with_reducible refine (Plain _ _ _ _ _ _ _ _).mono ?_); rintro e w1 ⟨rfl, rfl⟩)
        | (go_at_call 57; (with_reducible refine (Reg r _).mono ?_); rw [HB.out.1]; rintro e w1 ⟨rfl, rfl⟩)
        | (go_at_call 57; (with_reducible refine (Reg b _).mono ?_); rw [HB.out.2]; rintro e w1 ⟨rfl, rfl⟩))
    obtain ⟨W, y, q, hW, hy, hq, hxy, hyx, hqy, hyq, hqx, hq0, hy0, HK⟩ := open5 w ⟨17, wd, r, b, i, c, n⟩ ⟨0, false, 0, 0, 0, 0, 0⟩ ⟨17, wd, 0, 0, 0, 0, 0⟩
    rw [hW, hy, hq]
    clear hW hy hq
    apply wp_block
    apply mono0 (k := 13)
    · (intro a w h; (repeat (first | refine then_out ?_ | refine block_out (by decide) ?_)); exact block_in (then_in h))
    go_wp2_with fail
    refine ⟨rfl, ?_⟩
    go_step
    apply mono0 (k := 0)
    · (intro a w h; (repeat (first | refine then_out ?_ | refine block_out (by decide) ?_)); exact block_in (then_in h))
    obtain ⟨y0, y1, y2, y3, y4, y5, y6⟩ := cell7 HK.out.2.2.1
    obtain ⟨f0, f1, f2, f3, f4, f5, f6⟩ := froz7 HK.out.2.2.1
    obtain ⟨x0, x1, x2, x3, x4, x5, x6⟩ := cell7 HK.out.1
    obtain ⟨r0, r1, r2, r3, r4, r5, r6⟩ := cell7 HK.out.2.1
    obtain ⟨g0, g1, g2, g3, g4, g5, g6⟩ := froz7 HK.out.2.1
    have lx := blk_lt HK.out.1
    have lq := blk_lt HK.out.2.1
    have ly := blk_lt HK.out.2.2.1
    go_wp2_with fail
    refine ⟨rfl, ?_⟩
    go_wp2_with fail
    have kF := row7 (blk_far HK.out.2.1 (p := ⟨y, 6, none⟩) hqy (.int .i64 n)) (.int .i64 17) (.bool wd) (.int .i64 0) (.int .i64 0) (.int .i64 0) (.int .i64 0) (.int .i64 n)
    have kB5 := below7 hq0 (Below.setCell HK.out.2.2.2 (p := ⟨y, 6, none⟩) hy0 (.int .i64 n)) (.int .i64 17) (.bool wd) (.int .i64 0) (.int .i64 0) (.int .i64 0) (.int .i64 0) (.int .i64 n)
    obtain ⟨W5, hW5⟩ : ∃ W5, ((((((((W).setCell ⟨y, 6, none⟩ (.int .i64 n)).setCell ⟨q, 0, none⟩ (.int .i64 17)).setCell ⟨q, 1, none⟩ (.bool wd)).setCell ⟨q, 2, none⟩ (.int .i64 0)).setCell ⟨q, 3, none⟩ (.int .i64 0)).setCell ⟨q, 4, none⟩ (.int .i64 0)).setCell ⟨q, 5, none⟩ (.int .i64 0)).setCell ⟨q, 6, none⟩ (.int .i64 n) = W5 := ⟨_, rfl⟩
    rw [hW5] at kF kB5 ⊢
    clear hW5 y0 y1 y2 y3 y4 y5 y6 f0 f1 f2 f3 f4 f5 f6 x0 x1 x2 x3 x4 x5 x6 r0 r1 r2 r3 r4 r5 r6 g0 g1 g2 g3 g4 g5 g6 lx lq ly
    obtain ⟨z0, z1, z2, z3, z4, z5, z6⟩ := cell7 kF
    exact bodyPost_ret (v := .tuple #[xv ⟨17, wd, 0, 0, 0, 0, n⟩, .bool false]) (by simp [results, Tryd.results40, go_sem, z0, z1, z2, z3, z4, z5, z6]) rfl ⟨by simp only [HB.out.1, HB.out.2, Bool.true_and] <;> first | rfl | simp, kB5⟩
  · have HB := Aside0.mk (And.intro hr hb)
    clear hr hb
    go_enter Tryd.func40, Tryd.ntmps40
    go_upto_block 1 with (first
        | (go_at_call 58; (with_reducible refine (Plain _ _ _ _ _ _ _ _).mono ?_); rintro e w1 ⟨rfl, rfl⟩)
        | (go_at_call 57; (with_reducible refine (Reg r _).mono ?_); rw [HB.out.1]; rintro e w1 ⟨rfl, rfl⟩)
        | (go_at_call 57; (with_reducible refine (Reg b _).mono ?_); rw [HB.out.2]; rintro e w1 ⟨rfl, rfl⟩))
    obtain ⟨W, y, q, hW, hy, hq, hxy, hyx, hqy, hyq, hqx, hq0, hy0, HK⟩ := open5 w ⟨17, wd, r, b, i, c, n⟩ ⟨0, false, 0, 0, 0, 0, 0⟩ ⟨17, wd, 0, 0, 0, 0, 0⟩
    rw [hW, hy, hq]
    clear hW hy hq
    apply wp_block
    apply mono0 (k := 13)
    · (intro a w h; (repeat (first | refine then_out ?_ | refine block_out (by decide) ?_)); exact block_in (then_in h))
    go_wp2_with fail
    refine ⟨rfl, ?_⟩
    go_step
    apply mono0 (k := 0)
    · (intro a w h; (repeat (first | refine then_out ?_ | refine block_out (by decide) ?_)); exact block_in (then_in h))
    obtain ⟨y0, y1, y2, y3, y4, y5, y6⟩ := cell7 HK.out.2.2.1
    obtain ⟨f0, f1, f2, f3, f4, f5, f6⟩ := froz7 HK.out.2.2.1
    obtain ⟨x0, x1, x2, x3, x4, x5, x6⟩ := cell7 HK.out.1
    obtain ⟨r0, r1, r2, r3, r4, r5, r6⟩ := cell7 HK.out.2.1
    obtain ⟨g0, g1, g2, g3, g4, g5, g6⟩ := froz7 HK.out.2.1
    have lx := blk_lt HK.out.1
    have lq := blk_lt HK.out.2.1
    have ly := blk_lt HK.out.2.2.1
    cases hword : word n with
    | false =>
      have HWORD := Aside0.mk hword
      clear hword
      go_wp2_with (first
        | (go_at_call 59; (with_reducible refine (Word n _ HT.out.2).mono ?_); rw [HWORD.out]; rintro e w1 ⟨rfl, rfl⟩))
      refine ⟨rfl, ?_⟩
      go_wp2_with fail
      have kF := row7 (blk_far HK.out.2.1 (p := ⟨y, 6, none⟩) hqy (.int .i64 n)) (.int .i64 17) (.bool wd) (.int .i64 0) (.int .i64 0) (.int .i64 0) (.int .i64 0) (.int .i64 n)
      have kB5 := below7 hq0 (Below.setCell HK.out.2.2.2 (p := ⟨y, 6, none⟩) hy0 (.int .i64 n)) (.int .i64 17) (.bool wd) (.int .i64 0) (.int .i64 0) (.int .i64 0) (.int .i64 0) (.int .i64 n)
      obtain ⟨W5, hW5⟩ : ∃ W5, ((((((((W).setCell ⟨y, 6, none⟩ (.int .i64 n)).setCell ⟨q, 0, none⟩ (.int .i64 17)).setCell ⟨q, 1, none⟩ (.bool wd)).setCell ⟨q, 2, none⟩ (.int .i64 0)).setCell ⟨q, 3, none⟩ (.int .i64 0)).setCell ⟨q, 4, none⟩ (.int .i64 0)).setCell ⟨q, 5, none⟩ (.int .i64 0)).setCell ⟨q, 6, none⟩ (.int .i64 n) = W5 := ⟨_, rfl⟩
      rw [hW5] at kF kB5 ⊢
      clear hW5 y0 y1 y2 y3 y4 y5 y6 f0 f1 f2 f3 f4 f5 f6 x0 x1 x2 x3 x4 x5 x6 r0 r1 r2 r3 r4 r5 r6 g0 g1 g2 g3 g4 g5 g6 lx lq ly
      obtain ⟨z0, z1, z2, z3, z4, z5, z6⟩ := cell7 kF
      exact bodyPost_ret (v := .tuple #[xv ⟨17, wd, 0, 0, 0, 0, n⟩, .bool false]) (by simp [results, Tryd.results40, go_sem, z0, z1, z2, z3, z4, z5, z6]) rfl ⟨by simp only [HB.out.1, HB.out.2, Bool.true_and, HWORD.out] <;> first | rfl | simp, kB5⟩
    | true =>
      have HWORD := Aside0.mk hword
      clear hword
      cases wd with
      | true =>
        go_wp2_with (first
          | (go_at_call 59; (with_reducible refine (Word n _ HT.out.2).mono ?_); rw [HWORD.out]; rintro e w1 ⟨rfl, rfl⟩))
        refine ⟨rfl, ?_⟩
        go_wp2_with fail
        have kF := row7 (blk_far HK.out.2.1 (p := ⟨y, 6, none⟩) hqy (.int .i64 n)) (.int .i64 17) (.bool true) (.int .i64 0) (.int .i64 0) (.int .i64 0) (.int .i64 0) (.int .i64 n)
        have kB5 := below7 hq0 (Below.setCell HK.out.2.2.2 (p := ⟨y, 6, none⟩) hy0 (.int .i64 n)) (.int .i64 17) (.bool true) (.int .i64 0) (.int .i64 0) (.int .i64 0) (.int .i64 0) (.int .i64 n)
        obtain ⟨W5, hW5⟩ : ∃ W5, ((((((((W).setCell ⟨y, 6, none⟩ (.int .i64 n)).setCell ⟨q, 0, none⟩ (.int .i64 17)).setCell ⟨q, 1, none⟩ (.bool true)).setCell ⟨q, 2, none⟩ (.int .i64 0)).setCell ⟨q, 3, none⟩ (.int .i64 0)).setCell ⟨q, 4, none⟩ (.int .i64 0)).setCell ⟨q, 5, none⟩ (.int .i64 0)).setCell ⟨q, 6, none⟩ (.int .i64 n) = W5 := ⟨_, rfl⟩
        rw [hW5] at kF kB5 ⊢
        clear hW5 y0 y1 y2 y3 y4 y5 y6 f0 f1 f2 f3 f4 f5 f6 x0 x1 x2 x3 x4 x5 x6 r0 r1 r2 r3 r4 r5 r6 g0 g1 g2 g3 g4 g5 g6 lx lq ly
        obtain ⟨z0, z1, z2, z3, z4, z5, z6⟩ := cell7 kF
        exact bodyPost_ret (v := .tuple #[xv ⟨17, true, 0, 0, 0, 0, n⟩, .bool false]) (by simp [results, Tryd.results40, go_sem, z0, z1, z2, z3, z4, z5, z6]) rfl ⟨by simp only [HB.out.1, HB.out.2, Bool.true_and, HWORD.out] <;> first | rfl | simp, kB5⟩
      | false =>
        go_wp2_with (first
          | (go_at_call 59; (with_reducible refine (Word n _ HT.out.2).mono ?_); rw [HWORD.out]; rintro e w1 ⟨rfl, rfl⟩))
        refine ⟨rfl, ?_⟩
        go_wp2_with fail
        have kF := row7 (blk_far HK.out.2.1 (p := ⟨y, 6, none⟩) hqy (.int .i64 n)) (.int .i64 17) (.bool false) (.int .i64 0) (.int .i64 0) (.int .i64 0) (.int .i64 0) (.int .i64 n)
        have kB5 := below7 hq0 (Below.setCell HK.out.2.2.2 (p := ⟨y, 6, none⟩) hy0 (.int .i64 n)) (.int .i64 17) (.bool false) (.int .i64 0) (.int .i64 0) (.int .i64 0) (.int .i64 0) (.int .i64 n)
        obtain ⟨W5, hW5⟩ : ∃ W5, ((((((((W).setCell ⟨y, 6, none⟩ (.int .i64 n)).setCell ⟨q, 0, none⟩ (.int .i64 17)).setCell ⟨q, 1, none⟩ (.bool false)).setCell ⟨q, 2, none⟩ (.int .i64 0)).setCell ⟨q, 3, none⟩ (.int .i64 0)).setCell ⟨q, 4, none⟩ (.int .i64 0)).setCell ⟨q, 5, none⟩ (.int .i64 0)).setCell ⟨q, 6, none⟩ (.int .i64 n) = W5 := ⟨_, rfl⟩
        rw [hW5] at kF kB5 ⊢
        clear hW5 y0 y1 y2 y3 y4 y5 y6 f0 f1 f2 f3 f4 f5 f6 x0 x1 x2 x3 x4 x5 x6 r0 r1 r2 r3 r4 r5 r6 g0 g1 g2 g3 g4 g5 g6 lx lq ly
        obtain ⟨z0, z1, z2, z3, z4, z5, z6⟩ := cell7 kF
        exact bodyPost_ret (v := .tuple #[xv ⟨17, false, 0, 0, 0, 0, n⟩, .bool true]) (by simp [results, Tryd.results40, go_sem, z0, z1, z2, z3, z4, z5, z6]) rfl ⟨by simp only [HB.out.1, HB.out.2, Bool.true_and, HWORD.out] <;> first | rfl | simp, kB5⟩
end Go.Proofs.YtkfinaongajhmaaDoor.X

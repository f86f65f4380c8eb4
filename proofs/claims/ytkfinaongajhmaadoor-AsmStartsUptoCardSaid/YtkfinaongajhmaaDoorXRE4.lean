/- The reference's bytes of an instruction, chapter 11: kinds 11, 12. No condition but the numbers' bounds. -/
import Derived.Test.YtkfinaongajhmaaDoorXRefBad
import Derived.Test.YtkfinaongajhmaaDoorXEnc
import Derived.Test.YtkfinaongajhmaaDoorXBytes
import Derived.BigQuiet
import Derived.IntWalk
import Derived.Deep.RegionHeld3
namespace Go.Proofs.YtkfinaongajhmaaDoor.X
open Go.Ob Go.Ob.Xc Go.RowKit Go.Proofs.YtkfinaongajhmaaDoorW.PrintWords Go.Proofs.YtkfinaongajhmaaDoorW.PrintMore
attribute [local go_sem] max2_int min2_int max_two min_two
set_option linter.unusedVariables false
set_option linter.unusedSimpArgs false
set_option maxHeartbeats 16000000 in
set_option maxRecDepth 100000 in
theorem re_11a (wd : Bool) (r : Int) (b : Int) (i : Int) (n : Int) (w : World) (h : right ⟨11, wd, r, b, i, 0, n⟩ = true) (hn : -9223372036854775808 ≤ n ∧ n ≤ 9223372036854775807) (ci : i = 0) (hR : ∀ W, Calls Tryd.prog 19 #[xv ⟨11, wd, r, b, i, 0, n⟩] W fun e w' => e = .returned (.bool true) ∧ Below W.heap.size W w') :
    Calls Tryd.prog 17 #[xv ⟨11, wd, r, b, i, 0, n⟩] w fun e w' => e = .returned (.tuple #[.string (strOfNums (enc ⟨11, wd, r, b, i, 0, n⟩)), .bool true]) ∧ Below w.heap.size w w' := by
  obtain ⟨hr, hb⟩ := right_regs h
  dsimp only at hr hb
  have hix : idx i = true := by
    have := right_cases h
    dsimp only at this
    rcases this with ⟨h0, h1⟩ | ⟨h0, h1⟩ | ⟨h0, h1⟩ | ⟨h0, h1⟩ | ⟨h0, h1⟩ | ⟨h0, h1⟩ | ⟨h0, h1⟩ | ⟨h0, h1⟩ | ⟨h0, h1⟩ | ⟨h0, h1⟩ | ⟨h0, h1⟩ | ⟨h0, h1⟩ | ⟨h0, h1⟩ | ⟨h0, h1⟩
    all_goals first | omega | exact h1.2.2.1
  have hi := ix_bd hix
  have hq : ix i = 4 := if_pos ci
  have e0 : (i == 0) = true := beq_iff_eq.mpr ci
  rw [hq] at hi
  have hfin : ((((strOfNums (rexL wd r 4 b) ++ (⟨#[139]⟩ : ByteArray)) ++ strOfNums [mr 2 r 4]) ++ strOfNums [mr 0 4 b]) ++ strOfNums (le4 n)) = strOfNums (enc ⟨11, wd, r, b, i, 0, n⟩) := by
    rw [show (⟨#[139]⟩ : ByteArray) = strOfNums [139] by decide +kernel]
    simp only [cat_nums]
    apply congrArg strOfNums
    simp [enc, hq]
  have z0 : (strOfNums (rexL wd r 4 b)).size ≤ 1 := by rw [strOfNums_size]; exact rexL_len _ _ _ _
  have z1 : (strOfNums [mr 2 r 4]).size = 1 := rfl
  have z2 : (strOfNums [mr 0 4 b]).size = 1 := rfl
  have z3 : (strOfNums (le4 n)).size = 4 := rfl
  have HF := Aside0.mk hfin
  have HR := Aside0.mk hR
  have HN := Aside0.mk h
  clear hfin hR h
  clear ci hq hix
  have kX0 := blk_new w (xo ⟨11, wd, r, b, i, 0, n⟩)
  go_enter Tryd.func17, Tryd.ntmps17
  go_upto_region 35 with (first
    | (go_at_call 19; (with_reducible refine (HR.out _).mono ?_); rintro e w1 ⟨rfl, hb1⟩; have hx := (show BX ⟨11, wd, r, b, i, 0, n⟩ w _ from And.intro (blk_below kX0 hb1) ((below_alloc (Below.refl w.heap.size w) _).trans (hb1.mono (by simp)))); clear hb1 kX0; have HX := Aside0.mk hx; have hs := hx.cells; clear hx; obtain ⟨x0, x1, x2, x3, x4, x5, x6, x7⟩ := hs; clear x7)
    | (go_at_call 36; (with_reducible refine (RRex wd r 0 b _ hr (by decide) hb).mono ?_); rintro e w2 ⟨rfl, hb1⟩; have hx := HX.out.below hb1; clear x0 x1 x2 x3 x4 x5 x6 HX hb1; have HX := Aside0.mk hx; have hs := hx.cells; clear hx; obtain ⟨x0, x1, x2, x3, x4, x5, x6, x7⟩ := hs; clear x7)
    | (go_at_call 36; (with_reducible refine (RRex wd 0 0 b _ (by decide) (by decide) hb).mono ?_); rintro e w2 ⟨rfl, hb1⟩; have hx := HX.out.below hb1; clear x0 x1 x2 x3 x4 x5 x6 HX hb1; have HX := Aside0.mk hx; have hs := hx.cells; clear hx; obtain ⟨x0, x1, x2, x3, x4, x5, x6, x7⟩ := hs; clear x7)
    | (go_at_call 36; (with_reducible refine (RRex wd r 4 b _ hr (by decide) hb).mono ?_); rintro e w2 ⟨rfl, hb1⟩; have hx := HX.out.below hb1; clear x0 x1 x2 x3 x4 x5 x6 HX hb1; have HX := Aside0.mk hx; have hs := hx.cells; clear hx; obtain ⟨x0, x1, x2, x3, x4, x5, x6, x7⟩ := hs; clear x7)
    | (go_at_call 37; (with_reducible refine (RMr 2 r 4 _ (by decide) hr (by decide)).mono ?_); rintro e w2 ⟨rfl, hb1⟩; have hx := HX.out.below hb1; clear x0 x1 x2 x3 x4 x5 x6 HX hb1; have HX := Aside0.mk hx; have hs := hx.cells; clear hx; obtain ⟨x0, x1, x2, x3, x4, x5, x6, x7⟩ := hs; clear x7)
    | (go_at_call 37; (with_reducible refine (RMr 0 4 b _ (by decide) (by decide) hb).mono ?_); rintro e w2 ⟨rfl, hb1⟩; have hx := HX.out.below hb1; clear x0 x1 x2 x3 x4 x5 x6 HX hb1; have HX := Aside0.mk hx; have hs := hx.cells; clear hx; obtain ⟨x0, x1, x2, x3, x4, x5, x6, x7⟩ := hs; clear x7)
    | (go_at_call 39; (with_reducible refine (RNumber4 n _ hn).mono ?_); rintro e w2 ⟨rfl, hb1⟩; have hx := HX.out.below hb1; clear x0 x1 x2 x3 x4 x5 x6 HX hb1; have HX := Aside0.mk hx; have hs := hx.cells; clear hx; obtain ⟨x0, x1, x2, x3, x4, x5, x6, x7⟩ := hs; clear x7))
  have y0 : (⟨#[139]⟩ : ByteArray).size = 1 := rfl
  have s0 := fun W => run_string_add_sum (P := Tryd.prog) W (strOfNums (rexL wd r 4 b)) ((⟨#[139]⟩ : ByteArray)) (by (try simp only [ByteArray.size_append]); omega)
  have s1 := fun W => run_string_add_sum (P := Tryd.prog) W (strOfNums (rexL wd r 4 b) ++ (⟨#[139]⟩ : ByteArray)) (strOfNums [mr 2 r 4]) (by (try simp only [ByteArray.size_append]); omega)
  have s2 := fun W => run_string_add_sum (P := Tryd.prog) W (strOfNums (rexL wd r 4 b) ++ (⟨#[139]⟩ : ByteArray) ++ strOfNums [mr 2 r 4]) (strOfNums [mr 0 4 b]) (by (try simp only [ByteArray.size_append]); omega)
  have s3 := fun W => run_string_add_sum (P := Tryd.prog) W (strOfNums (rexL wd r 4 b) ++ (⟨#[139]⟩ : ByteArray) ++ strOfNums [mr 2 r 4] ++ strOfNums [mr 0 4 b]) (strOfNums (le4 n)) (by (try simp only [ByteArray.size_append]); omega)
  clear y0
  have hx := HX.out
  have hxs := hx.cells
  go_region_held3 (fun wr => SX ⟨11, wd, r, b, i, 0, n⟩ w wr) ((refine BX.cells ?_; (with_reducible repeat (first | assumption | refine BX.drew ?_ | refine BX.alloc ?_ _ | refine BX.below ?_ (by assumption)))))
  (first
    | (go_at_call 36; (with_reducible refine (RRex wd r 4 b _ hr (by decide) hb).mono ?_); rintro e w2 ⟨rfl, hb2⟩)
    | (go_at_call 37; (with_reducible refine (RMr 2 r 4 _ (by decide) hr (by decide)).mono ?_); rintro e w2 ⟨rfl, hb2⟩)
    | (go_at_call 37; (with_reducible refine (RMr 0 4 b _ (by decide) (by decide) hb).mono ?_); rintro e w2 ⟨rfl, hb2⟩)
    | (go_at_call 39; (with_reducible refine (RNumber4 n _ hn).mono ?_); rintro e w2 ⟨rfl, hb2⟩))
  go_wp2
  go_ret2
  exact ⟨by rw [← HF.out]; rfl, SX.all (by assumption)⟩
set_option maxHeartbeats 16000000 in
set_option maxRecDepth 100000 in
theorem re_11b (wd : Bool) (r : Int) (b : Int) (i : Int) (n : Int) (w : World) (h : right ⟨11, wd, r, b, i, 0, n⟩ = true) (hn : -9223372036854775808 ≤ n ∧ n ≤ 9223372036854775807) (ci : ¬ i = 0) (hR : ∀ W, Calls Tryd.prog 19 #[xv ⟨11, wd, r, b, i, 0, n⟩] W fun e w' => e = .returned (.bool true) ∧ Below W.heap.size W w') :
    Calls Tryd.prog 17 #[xv ⟨11, wd, r, b, i, 0, n⟩] w fun e w' => e = .returned (.tuple #[.string (strOfNums (enc ⟨11, wd, r, b, i, 0, n⟩)), .bool true]) ∧ Below w.heap.size w w' := by
  obtain ⟨hr, hb⟩ := right_regs h
  dsimp only at hr hb
  have hix : idx i = true := by
    have := right_cases h
    dsimp only at this
    rcases this with ⟨h0, h1⟩ | ⟨h0, h1⟩ | ⟨h0, h1⟩ | ⟨h0, h1⟩ | ⟨h0, h1⟩ | ⟨h0, h1⟩ | ⟨h0, h1⟩ | ⟨h0, h1⟩ | ⟨h0, h1⟩ | ⟨h0, h1⟩ | ⟨h0, h1⟩ | ⟨h0, h1⟩ | ⟨h0, h1⟩ | ⟨h0, h1⟩
    all_goals first | omega | exact h1.2.2.1
  have hi := ix_bd hix
  have hq : ix i = i - 1 := if_neg ci
  have e0 : (i == 0) = false := beq_eq_false_iff_ne.mpr ci
  have hi3 := idx_iff.mp hix
  have hi1 : 1 ≤ i := by omega
  have hi2 : i ≤ 16 := by omega
  clear hi3
  rw [hq] at hi
  have hfin : ((((strOfNums (rexL wd r (i - 1) b) ++ (⟨#[139]⟩ : ByteArray)) ++ strOfNums [mr 2 r 4]) ++ strOfNums [mr 0 (i - 1) b]) ++ strOfNums (le4 n)) = strOfNums (enc ⟨11, wd, r, b, i, 0, n⟩) := by
    rw [show (⟨#[139]⟩ : ByteArray) = strOfNums [139] by decide +kernel]
    simp only [cat_nums]
    apply congrArg strOfNums
    simp [enc, hq]
  have z0 : (strOfNums (rexL wd r (i - 1) b)).size ≤ 1 := by rw [strOfNums_size]; exact rexL_len _ _ _ _
  have z1 : (strOfNums [mr 2 r 4]).size = 1 := rfl
  have z2 : (strOfNums [mr 0 (i - 1) b]).size = 1 := rfl
  have z3 : (strOfNums (le4 n)).size = 4 := rfl
  have HF := Aside0.mk hfin
  have HR := Aside0.mk hR
  have HN := Aside0.mk h
  clear hfin hR h
  clear ci hq hix
  have kX0 := blk_new w (xo ⟨11, wd, r, b, i, 0, n⟩)
  go_enter Tryd.func17, Tryd.ntmps17
  go_upto_region 35 with (first
    | (go_at_call 19; (with_reducible refine (HR.out _).mono ?_); rintro e w1 ⟨rfl, hb1⟩; have hx := (show BX ⟨11, wd, r, b, i, 0, n⟩ w _ from And.intro (blk_below kX0 hb1) ((below_alloc (Below.refl w.heap.size w) _).trans (hb1.mono (by simp)))); clear hb1 kX0; have HX := Aside0.mk hx; have hs := hx.cells; clear hx; obtain ⟨x0, x1, x2, x3, x4, x5, x6, x7⟩ := hs; clear x7)
    | (go_at_call 36; (with_reducible refine (RRex wd r 0 b _ hr (by decide) hb).mono ?_); rintro e w2 ⟨rfl, hb1⟩; have hx := HX.out.below hb1; clear x0 x1 x2 x3 x4 x5 x6 HX hb1; have HX := Aside0.mk hx; have hs := hx.cells; clear hx; obtain ⟨x0, x1, x2, x3, x4, x5, x6, x7⟩ := hs; clear x7)
    | (go_at_call 36; (with_reducible refine (RRex wd 0 0 b _ (by decide) (by decide) hb).mono ?_); rintro e w2 ⟨rfl, hb1⟩; have hx := HX.out.below hb1; clear x0 x1 x2 x3 x4 x5 x6 HX hb1; have HX := Aside0.mk hx; have hs := hx.cells; clear hx; obtain ⟨x0, x1, x2, x3, x4, x5, x6, x7⟩ := hs; clear x7)
    | (go_at_call 36; (with_reducible refine (RRex wd r (i - 1) b _ hr hi hb).mono ?_); rintro e w2 ⟨rfl, hb1⟩; have hx := HX.out.below hb1; clear x0 x1 x2 x3 x4 x5 x6 HX hb1; have HX := Aside0.mk hx; have hs := hx.cells; clear hx; obtain ⟨x0, x1, x2, x3, x4, x5, x6, x7⟩ := hs; clear x7)
    | (go_at_call 37; (with_reducible refine (RMr 2 r 4 _ (by decide) hr (by decide)).mono ?_); rintro e w2 ⟨rfl, hb1⟩; have hx := HX.out.below hb1; clear x0 x1 x2 x3 x4 x5 x6 HX hb1; have HX := Aside0.mk hx; have hs := hx.cells; clear hx; obtain ⟨x0, x1, x2, x3, x4, x5, x6, x7⟩ := hs; clear x7)
    | (go_at_call 37; (with_reducible refine (RMr 0 (i - 1) b _ (by decide) hi hb).mono ?_); rintro e w2 ⟨rfl, hb1⟩; have hx := HX.out.below hb1; clear x0 x1 x2 x3 x4 x5 x6 HX hb1; have HX := Aside0.mk hx; have hs := hx.cells; clear hx; obtain ⟨x0, x1, x2, x3, x4, x5, x6, x7⟩ := hs; clear x7)
    | (go_at_call 39; (with_reducible refine (RNumber4 n _ hn).mono ?_); rintro e w2 ⟨rfl, hb1⟩; have hx := HX.out.below hb1; clear x0 x1 x2 x3 x4 x5 x6 HX hb1; have HX := Aside0.mk hx; have hs := hx.cells; clear hx; obtain ⟨x0, x1, x2, x3, x4, x5, x6, x7⟩ := hs; clear x7))
  have y0 : (⟨#[139]⟩ : ByteArray).size = 1 := rfl
  have s0 := fun W => run_string_add_sum (P := Tryd.prog) W (strOfNums (rexL wd r (i - 1) b)) ((⟨#[139]⟩ : ByteArray)) (by (try simp only [ByteArray.size_append]); omega)
  have s1 := fun W => run_string_add_sum (P := Tryd.prog) W (strOfNums (rexL wd r (i - 1) b) ++ (⟨#[139]⟩ : ByteArray)) (strOfNums [mr 2 r 4]) (by (try simp only [ByteArray.size_append]); omega)
  have s2 := fun W => run_string_add_sum (P := Tryd.prog) W (strOfNums (rexL wd r (i - 1) b) ++ (⟨#[139]⟩ : ByteArray) ++ strOfNums [mr 2 r 4]) (strOfNums [mr 0 (i - 1) b]) (by (try simp only [ByteArray.size_append]); omega)
  have s3 := fun W => run_string_add_sum (P := Tryd.prog) W (strOfNums (rexL wd r (i - 1) b) ++ (⟨#[139]⟩ : ByteArray) ++ strOfNums [mr 2 r 4] ++ strOfNums [mr 0 (i - 1) b]) (strOfNums (le4 n)) (by (try simp only [ByteArray.size_append]); omega)
  clear y0
  have hx := HX.out
  have hxs := hx.cells
  go_region_held3 (fun wr => SX ⟨11, wd, r, b, i, 0, n⟩ w wr) ((refine BX.cells ?_; (with_reducible repeat (first | assumption | refine BX.drew ?_ | refine BX.alloc ?_ _ | refine BX.below ?_ (by assumption)))))
  (first
    | (go_at_call 36; (with_reducible refine (RRex wd r (i - 1) b _ hr hi hb).mono ?_); rintro e w2 ⟨rfl, hb2⟩)
    | (go_at_call 37; (with_reducible refine (RMr 2 r 4 _ (by decide) hr (by decide)).mono ?_); rintro e w2 ⟨rfl, hb2⟩)
    | (go_at_call 37; (with_reducible refine (RMr 0 (i - 1) b _ (by decide) hi hb).mono ?_); rintro e w2 ⟨rfl, hb2⟩)
    | (go_at_call 39; (with_reducible refine (RNumber4 n _ hn).mono ?_); rintro e w2 ⟨rfl, hb2⟩))
  go_wp2
  go_ret2
  exact ⟨by rw [← HF.out]; rfl, SX.all (by assumption)⟩
set_option maxHeartbeats 16000000 in
set_option maxRecDepth 100000 in
theorem re_12a (wd : Bool) (r : Int) (b : Int) (i : Int) (n : Int) (w : World) (h : right ⟨12, wd, r, b, i, 0, n⟩ = true) (hn : -9223372036854775808 ≤ n ∧ n ≤ 9223372036854775807) (ci : i = 0) (hR : ∀ W, Calls Tryd.prog 19 #[xv ⟨12, wd, r, b, i, 0, n⟩] W fun e w' => e = .returned (.bool true) ∧ Below W.heap.size W w') :
    Calls Tryd.prog 17 #[xv ⟨12, wd, r, b, i, 0, n⟩] w fun e w' => e = .returned (.tuple #[.string (strOfNums (enc ⟨12, wd, r, b, i, 0, n⟩)), .bool true]) ∧ Below w.heap.size w w' := by
  obtain ⟨hr, hb⟩ := right_regs h
  dsimp only at hr hb
  have hix : idx i = true := by
    have := right_cases h
    dsimp only at this
    rcases this with ⟨h0, h1⟩ | ⟨h0, h1⟩ | ⟨h0, h1⟩ | ⟨h0, h1⟩ | ⟨h0, h1⟩ | ⟨h0, h1⟩ | ⟨h0, h1⟩ | ⟨h0, h1⟩ | ⟨h0, h1⟩ | ⟨h0, h1⟩ | ⟨h0, h1⟩ | ⟨h0, h1⟩ | ⟨h0, h1⟩ | ⟨h0, h1⟩
    all_goals first | omega | exact h1.2.2.1
  have hi := ix_bd hix
  have hq : ix i = 4 := if_pos ci
  have e0 : (i == 0) = true := beq_iff_eq.mpr ci
  rw [hq] at hi
  have hfin : ((((strOfNums (rexL wd r 4 b) ++ (⟨#[137]⟩ : ByteArray)) ++ strOfNums [mr 2 r 4]) ++ strOfNums [mr 0 4 b]) ++ strOfNums (le4 n)) = strOfNums (enc ⟨12, wd, r, b, i, 0, n⟩) := by
    rw [show (⟨#[137]⟩ : ByteArray) = strOfNums [137] by decide +kernel]
    simp only [cat_nums]
    apply congrArg strOfNums
    simp [enc, hq]
  have z0 : (strOfNums (rexL wd r 4 b)).size ≤ 1 := by rw [strOfNums_size]; exact rexL_len _ _ _ _
  have z1 : (strOfNums [mr 2 r 4]).size = 1 := rfl
  have z2 : (strOfNums [mr 0 4 b]).size = 1 := rfl
  have z3 : (strOfNums (le4 n)).size = 4 := rfl
  have HF := Aside0.mk hfin
  have HR := Aside0.mk hR
  have HN := Aside0.mk h
  clear hfin hR h
  clear ci hq hix
  have kX0 := blk_new w (xo ⟨12, wd, r, b, i, 0, n⟩)
  go_enter Tryd.func17, Tryd.ntmps17
  go_upto_region 35 with (first
    | (go_at_call 19; (with_reducible refine (HR.out _).mono ?_); rintro e w1 ⟨rfl, hb1⟩; have hx := (show BX ⟨12, wd, r, b, i, 0, n⟩ w _ from And.intro (blk_below kX0 hb1) ((below_alloc (Below.refl w.heap.size w) _).trans (hb1.mono (by simp)))); clear hb1 kX0; have HX := Aside0.mk hx; have hs := hx.cells; clear hx; obtain ⟨x0, x1, x2, x3, x4, x5, x6, x7⟩ := hs; clear x7)
    | (go_at_call 36; (with_reducible refine (RRex wd r 0 b _ hr (by decide) hb).mono ?_); rintro e w2 ⟨rfl, hb1⟩; have hx := HX.out.below hb1; clear x0 x1 x2 x3 x4 x5 x6 HX hb1; have HX := Aside0.mk hx; have hs := hx.cells; clear hx; obtain ⟨x0, x1, x2, x3, x4, x5, x6, x7⟩ := hs; clear x7)
    | (go_at_call 36; (with_reducible refine (RRex wd 0 0 b _ (by decide) (by decide) hb).mono ?_); rintro e w2 ⟨rfl, hb1⟩; have hx := HX.out.below hb1; clear x0 x1 x2 x3 x4 x5 x6 HX hb1; have HX := Aside0.mk hx; have hs := hx.cells; clear hx; obtain ⟨x0, x1, x2, x3, x4, x5, x6, x7⟩ := hs; clear x7)
    | (go_at_call 36; (with_reducible refine (RRex wd r 4 b _ hr (by decide) hb).mono ?_); rintro e w2 ⟨rfl, hb1⟩; have hx := HX.out.below hb1; clear x0 x1 x2 x3 x4 x5 x6 HX hb1; have HX := Aside0.mk hx; have hs := hx.cells; clear hx; obtain ⟨x0, x1, x2, x3, x4, x5, x6, x7⟩ := hs; clear x7)
    | (go_at_call 37; (with_reducible refine (RMr 2 r 4 _ (by decide) hr (by decide)).mono ?_); rintro e w2 ⟨rfl, hb1⟩; have hx := HX.out.below hb1; clear x0 x1 x2 x3 x4 x5 x6 HX hb1; have HX := Aside0.mk hx; have hs := hx.cells; clear hx; obtain ⟨x0, x1, x2, x3, x4, x5, x6, x7⟩ := hs; clear x7)
    | (go_at_call 37; (with_reducible refine (RMr 0 4 b _ (by decide) (by decide) hb).mono ?_); rintro e w2 ⟨rfl, hb1⟩; have hx := HX.out.below hb1; clear x0 x1 x2 x3 x4 x5 x6 HX hb1; have HX := Aside0.mk hx; have hs := hx.cells; clear hx; obtain ⟨x0, x1, x2, x3, x4, x5, x6, x7⟩ := hs; clear x7)
    | (go_at_call 39; (with_reducible refine (RNumber4 n _ hn).mono ?_); rintro e w2 ⟨rfl, hb1⟩; have hx := HX.out.below hb1; clear x0 x1 x2 x3 x4 x5 x6 HX hb1; have HX := Aside0.mk hx; have hs := hx.cells; clear hx; obtain ⟨x0, x1, x2, x3, x4, x5, x6, x7⟩ := hs; clear x7))
  have y0 : (⟨#[137]⟩ : ByteArray).size = 1 := rfl
  have s0 := fun W => run_string_add_sum (P := Tryd.prog) W (strOfNums (rexL wd r 4 b)) ((⟨#[137]⟩ : ByteArray)) (by (try simp only [ByteArray.size_append]); omega)
  have s1 := fun W => run_string_add_sum (P := Tryd.prog) W (strOfNums (rexL wd r 4 b) ++ (⟨#[137]⟩ : ByteArray)) (strOfNums [mr 2 r 4]) (by (try simp only [ByteArray.size_append]); omega)
  have s2 := fun W => run_string_add_sum (P := Tryd.prog) W (strOfNums (rexL wd r 4 b) ++ (⟨#[137]⟩ : ByteArray) ++ strOfNums [mr 2 r 4]) (strOfNums [mr 0 4 b]) (by (try simp only [ByteArray.size_append]); omega)
  have s3 := fun W => run_string_add_sum (P := Tryd.prog) W (strOfNums (rexL wd r 4 b) ++ (⟨#[137]⟩ : ByteArray) ++ strOfNums [mr 2 r 4] ++ strOfNums [mr 0 4 b]) (strOfNums (le4 n)) (by (try simp only [ByteArray.size_append]); omega)
  clear y0
  have hx := HX.out
  have hxs := hx.cells
  go_region_held3 (fun wr => SX ⟨12, wd, r, b, i, 0, n⟩ w wr) ((refine BX.cells ?_; (with_reducible repeat (first | assumption | refine BX.drew ?_ | refine BX.alloc ?_ _ | refine BX.below ?_ (by assumption)))))
  (first
    | (go_at_call 36; (with_reducible refine (RRex wd r 4 b _ hr (by decide) hb).mono ?_); rintro e w2 ⟨rfl, hb2⟩)
    | (go_at_call 37; (with_reducible refine (RMr 2 r 4 _ (by decide) hr (by decide)).mono ?_); rintro e w2 ⟨rfl, hb2⟩)
    | (go_at_call 37; (with_reducible refine (RMr 0 4 b _ (by decide) (by decide) hb).mono ?_); rintro e w2 ⟨rfl, hb2⟩)
    | (go_at_call 39; (with_reducible refine (RNumber4 n _ hn).mono ?_); rintro e w2 ⟨rfl, hb2⟩))
  go_wp2
  go_ret2
  exact ⟨by rw [← HF.out]; rfl, SX.all (by assumption)⟩
set_option maxHeartbeats 16000000 in
set_option maxRecDepth 100000 in
theorem re_12b (wd : Bool) (r : Int) (b : Int) (i : Int) (n : Int) (w : World) (h : right ⟨12, wd, r, b, i, 0, n⟩ = true) (hn : -9223372036854775808 ≤ n ∧ n ≤ 9223372036854775807) (ci : ¬ i = 0) (hR : ∀ W, Calls Tryd.prog 19 #[xv ⟨12, wd, r, b, i, 0, n⟩] W fun e w' => e = .returned (.bool true) ∧ Below W.heap.size W w') :
    Calls Tryd.prog 17 #[xv ⟨12, wd, r, b, i, 0, n⟩] w fun e w' => e = .returned (.tuple #[.string (strOfNums (enc ⟨12, wd, r, b, i, 0, n⟩)), .bool true]) ∧ Below w.heap.size w w' := by
  obtain ⟨hr, hb⟩ := right_regs h
  dsimp only at hr hb
  have hix : idx i = true := by
    have := right_cases h
    dsimp only at this
    rcases this with ⟨h0, h1⟩ | ⟨h0, h1⟩ | ⟨h0, h1⟩ | ⟨h0, h1⟩ | ⟨h0, h1⟩ | ⟨h0, h1⟩ | ⟨h0, h1⟩ | ⟨h0, h1⟩ | ⟨h0, h1⟩ | ⟨h0, h1⟩ | ⟨h0, h1⟩ | ⟨h0, h1⟩ | ⟨h0, h1⟩ | ⟨h0, h1⟩
    all_goals first | omega | exact h1.2.2.1
  have hi := ix_bd hix
  have hq : ix i = i - 1 := if_neg ci
  have e0 : (i == 0) = false := beq_eq_false_iff_ne.mpr ci
  have hi3 := idx_iff.mp hix
  have hi1 : 1 ≤ i := by omega
  have hi2 : i ≤ 16 := by omega
  clear hi3
  rw [hq] at hi
  have hfin : ((((strOfNums (rexL wd r (i - 1) b) ++ (⟨#[137]⟩ : ByteArray)) ++ strOfNums [mr 2 r 4]) ++ strOfNums [mr 0 (i - 1) b]) ++ strOfNums (le4 n)) = strOfNums (enc ⟨12, wd, r, b, i, 0, n⟩) := by
    rw [show (⟨#[137]⟩ : ByteArray) = strOfNums [137] by decide +kernel]
    simp only [cat_nums]
    apply congrArg strOfNums
    simp [enc, hq]
  have z0 : (strOfNums (rexL wd r (i - 1) b)).size ≤ 1 := by rw [strOfNums_size]; exact rexL_len _ _ _ _
  have z1 : (strOfNums [mr 2 r 4]).size = 1 := rfl
  have z2 : (strOfNums [mr 0 (i - 1) b]).size = 1 := rfl
  have z3 : (strOfNums (le4 n)).size = 4 := rfl
  have HF := Aside0.mk hfin
  have HR := Aside0.mk hR
  have HN := Aside0.mk h
  clear hfin hR h
  clear ci hq hix
  have kX0 := blk_new w (xo ⟨12, wd, r, b, i, 0, n⟩)
  go_enter Tryd.func17, Tryd.ntmps17
  go_upto_region 35 with (first
    | (go_at_call 19; (with_reducible refine (HR.out _).mono ?_); rintro e w1 ⟨rfl, hb1⟩; have hx := (show BX ⟨12, wd, r, b, i, 0, n⟩ w _ from And.intro (blk_below kX0 hb1) ((below_alloc (Below.refl w.heap.size w) _).trans (hb1.mono (by simp)))); clear hb1 kX0; have HX := Aside0.mk hx; have hs := hx.cells; clear hx; obtain ⟨x0, x1, x2, x3, x4, x5, x6, x7⟩ := hs; clear x7)
    | (go_at_call 36; (with_reducible refine (RRex wd r 0 b _ hr (by decide) hb).mono ?_); rintro e w2 ⟨rfl, hb1⟩; have hx := HX.out.below hb1; clear x0 x1 x2 x3 x4 x5 x6 HX hb1; have HX := Aside0.mk hx; have hs := hx.cells; clear hx; obtain ⟨x0, x1, x2, x3, x4, x5, x6, x7⟩ := hs; clear x7)
    | (go_at_call 36; (with_reducible refine (RRex wd 0 0 b _ (by decide) (by decide) hb).mono ?_); rintro e w2 ⟨rfl, hb1⟩; have hx := HX.out.below hb1; clear x0 x1 x2 x3 x4 x5 x6 HX hb1; have HX := Aside0.mk hx; have hs := hx.cells; clear hx; obtain ⟨x0, x1, x2, x3, x4, x5, x6, x7⟩ := hs; clear x7)
    | (go_at_call 36; (with_reducible refine (RRex wd r (i - 1) b _ hr hi hb).mono ?_); rintro e w2 ⟨rfl, hb1⟩; have hx := HX.out.below hb1; clear x0 x1 x2 x3 x4 x5 x6 HX hb1; have HX := Aside0.mk hx; have hs := hx.cells; clear hx; obtain ⟨x0, x1, x2, x3, x4, x5, x6, x7⟩ := hs; clear x7)
    | (go_at_call 37; (with_reducible refine (RMr 2 r 4 _ (by decide) hr (by decide)).mono ?_); rintro e w2 ⟨rfl, hb1⟩; have hx := HX.out.below hb1; clear x0 x1 x2 x3 x4 x5 x6 HX hb1; have HX := Aside0.mk hx; have hs := hx.cells; clear hx; obtain ⟨x0, x1, x2, x3, x4, x5, x6, x7⟩ := hs; clear x7)
    | (go_at_call 37; (with_reducible refine (RMr 0 (i - 1) b _ (by decide) hi hb).mono ?_); rintro e w2 ⟨rfl, hb1⟩; have hx := HX.out.below hb1; clear x0 x1 x2 x3 x4 x5 x6 HX hb1; have HX := Aside0.mk hx; have hs := hx.cells; clear hx; obtain ⟨x0, x1, x2, x3, x4, x5, x6, x7⟩ := hs; clear x7)
    | (go_at_call 39; (with_reducible refine (RNumber4 n _ hn).mono ?_); rintro e w2 ⟨rfl, hb1⟩; have hx := HX.out.below hb1; clear x0 x1 x2 x3 x4 x5 x6 HX hb1; have HX := Aside0.mk hx; have hs := hx.cells; clear hx; obtain ⟨x0, x1, x2, x3, x4, x5, x6, x7⟩ := hs; clear x7))
  have y0 : (⟨#[137]⟩ : ByteArray).size = 1 := rfl
  have s0 := fun W => run_string_add_sum (P := Tryd.prog) W (strOfNums (rexL wd r (i - 1) b)) ((⟨#[137]⟩ : ByteArray)) (by (try simp only [ByteArray.size_append]); omega)
  have s1 := fun W => run_string_add_sum (P := Tryd.prog) W (strOfNums (rexL wd r (i - 1) b) ++ (⟨#[137]⟩ : ByteArray)) (strOfNums [mr 2 r 4]) (by (try simp only [ByteArray.size_append]); omega)
  have s2 := fun W => run_string_add_sum (P := Tryd.prog) W (strOfNums (rexL wd r (i - 1) b) ++ (⟨#[137]⟩ : ByteArray) ++ strOfNums [mr 2 r 4]) (strOfNums [mr 0 (i - 1) b]) (by (try simp only [ByteArray.size_append]); omega)
  have s3 := fun W => run_string_add_sum (P := Tryd.prog) W (strOfNums (rexL wd r (i - 1) b) ++ (⟨#[137]⟩ : ByteArray) ++ strOfNums [mr 2 r 4] ++ strOfNums [mr 0 (i - 1) b]) (strOfNums (le4 n)) (by (try simp only [ByteArray.size_append]); omega)
  clear y0
  have hx := HX.out
  have hxs := hx.cells
  go_region_held3 (fun wr => SX ⟨12, wd, r, b, i, 0, n⟩ w wr) ((refine BX.cells ?_; (with_reducible repeat (first | assumption | refine BX.drew ?_ | refine BX.alloc ?_ _ | refine BX.below ?_ (by assumption)))))
  (first
    | (go_at_call 36; (with_reducible refine (RRex wd r (i - 1) b _ hr hi hb).mono ?_); rintro e w2 ⟨rfl, hb2⟩)
    | (go_at_call 37; (with_reducible refine (RMr 2 r 4 _ (by decide) hr (by decide)).mono ?_); rintro e w2 ⟨rfl, hb2⟩)
    | (go_at_call 37; (with_reducible refine (RMr 0 (i - 1) b _ (by decide) hi hb).mono ?_); rintro e w2 ⟨rfl, hb2⟩)
    | (go_at_call 39; (with_reducible refine (RNumber4 n _ hn).mono ?_); rintro e w2 ⟨rfl, hb2⟩))
  go_wp2
  go_ret2
  exact ⟨by rw [← HF.out]; rfl, SX.all (by assumption)⟩
end Go.Proofs.YtkfinaongajhmaaDoor.X

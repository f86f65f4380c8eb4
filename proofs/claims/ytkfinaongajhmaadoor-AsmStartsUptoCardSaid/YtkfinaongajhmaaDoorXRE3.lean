/- The reference's bytes of an instruction, chapter 11: kinds 15, 16, 18. No condition but the numbers' bounds. -/
import Derived.Test.YtkfinaongajhmaaDoorXRefBad
import Derived.Test.YtkfinaongajhmaaDoorXEnc
import Derived.Test.YtkfinaongajhmaaDoorXBytes
import Derived.BigQuiet
import Derived.IntWalk
import Derived.Deep.RegionHeld3
namespace Go.Proofs.YtkfinaongajhmaaDoor.X
open Go.Ob Go.Ob.Xc Go.RowKit Go.Proofs.YtkfinaongajhmaaDoorW.PrintWords Go.Proofs.YtkfinaongajhmaaDoorW.PrintMore
attribute [local go_sem] max2_int min2_int max_two min_two
set_option linter.unusedVariables false
set_option linter.unusedSimpArgs false
set_option maxHeartbeats 16000000 in
set_option maxRecDepth 100000 in
theorem re_15 (wd : Bool) (r : Int) (b : Int) (c : Int) (w : World) (h : right ⟨15, wd, r, b, 0, c, 0⟩ = true) (hR : ∀ W, Calls Tryd.prog 19 #[xv ⟨15, wd, r, b, 0, c, 0⟩] W fun e w' => e = .returned (.bool true) ∧ Below W.heap.size W w') :
    Calls Tryd.prog 17 #[xv ⟨15, wd, r, b, 0, c, 0⟩] w fun e w' => e = .returned (.tuple #[.string (strOfNums (enc ⟨15, wd, r, b, 0, c, 0⟩)), .bool true]) ∧ Below w.heap.size w w' := by
  obtain ⟨hr, hb⟩ := right_regs h
  dsimp only at hr hb
  have hc : 0 ≤ c ∧ c ≤ 15 := by
    have := right_cases h
    dsimp only at this
    rcases this with ⟨h0, h1⟩ | ⟨h0, h1⟩ | ⟨h0, h1⟩ | ⟨h0, h1⟩ | ⟨h0, h1⟩ | ⟨h0, h1⟩ | ⟨h0, h1⟩ | ⟨h0, h1⟩ | ⟨h0, h1⟩ | ⟨h0, h1⟩ | ⟨h0, h1⟩ | ⟨h0, h1⟩ | ⟨h0, h1⟩ | ⟨h0, h1⟩
    all_goals first | omega | (have := alu_of h1.2.1; omega) | (have := alu_of h1.2.2.1; omega) | (have := shf_of h1.2.1; omega) | (have := cnd_of h1.2.2.1; omega) | (have := cnd_of h1.1; omega)
  have hfin : (((strOfNums (rexL wd r 0 b) ++ (⟨#[15]⟩ : ByteArray)) ++ strOfNums [(64 + c) % 256]) ++ strOfNums [mr 3 r b]) = strOfNums (enc ⟨15, wd, r, b, 0, c, 0⟩) := by
    rw [show (⟨#[15]⟩ : ByteArray) = strOfNums [15] by decide +kernel]
    simp only [cat_nums]
    apply congrArg strOfNums
    simp [enc]
    try omega
  have z0 : (strOfNums (rexL wd r 0 b)).size ≤ 1 := by rw [strOfNums_size]; exact rexL_len _ _ _ _
  have z1 : (strOfNums [(64 + c) % 256]).size = 1 := rfl
  have z2 : (strOfNums [mr 3 r b]).size = 1 := rfl
  have HF := Aside0.mk hfin
  have HR := Aside0.mk hR
  have HN := Aside0.mk h
  clear hfin hR h
  have kX0 := blk_new w (xo ⟨15, wd, r, b, 0, c, 0⟩)
  go_enter Tryd.func17, Tryd.ntmps17
  go_upto_region 41 with (first
    | (go_at_call 19; (with_reducible refine (HR.out _).mono ?_); rintro e w1 ⟨rfl, hb1⟩; have hx := (show BX ⟨15, wd, r, b, 0, c, 0⟩ w _ from And.intro (blk_below kX0 hb1) ((below_alloc (Below.refl w.heap.size w) _).trans (hb1.mono (by simp)))); clear hb1 kX0; have HX := Aside0.mk hx; have hs := hx.cells; clear hx; obtain ⟨x0, x1, x2, x3, x4, x5, x6, x7⟩ := hs; clear x7)
    | (go_at_call 36; (with_reducible refine (RRex wd r 0 b _ hr (by decide) hb).mono ?_); rintro e w2 ⟨rfl, hb1⟩; have hx := HX.out.below hb1; clear x0 x1 x2 x3 x4 x5 x6 HX hb1; have HX := Aside0.mk hx; have hs := hx.cells; clear hx; obtain ⟨x0, x1, x2, x3, x4, x5, x6, x7⟩ := hs; clear x7)
    | (go_at_call 36; (with_reducible refine (RRex wd 0 0 b _ (by decide) (by decide) hb).mono ?_); rintro e w2 ⟨rfl, hb1⟩; have hx := HX.out.below hb1; clear x0 x1 x2 x3 x4 x5 x6 HX hb1; have HX := Aside0.mk hx; have hs := hx.cells; clear hx; obtain ⟨x0, x1, x2, x3, x4, x5, x6, x7⟩ := hs; clear x7)
    | (go_at_call 38; (with_reducible refine (ROne _ _).mono ?_); rintro e w2 ⟨rfl, hb1⟩; have hx := HX.out.below hb1; clear x0 x1 x2 x3 x4 x5 x6 HX hb1; have HX := Aside0.mk hx; have hs := hx.cells; clear hx; obtain ⟨x0, x1, x2, x3, x4, x5, x6, x7⟩ := hs; clear x7)
    | (go_at_call 37; (with_reducible refine (RMr 3 r b _ (by decide) hr hb).mono ?_); rintro e w2 ⟨rfl, hb1⟩; have hx := HX.out.below hb1; clear x0 x1 x2 x3 x4 x5 x6 HX hb1; have HX := Aside0.mk hx; have hs := hx.cells; clear hx; obtain ⟨x0, x1, x2, x3, x4, x5, x6, x7⟩ := hs; clear x7))
  have y0 : (⟨#[15]⟩ : ByteArray).size = 1 := rfl
  have s0 := fun W => run_string_add_sum (P := Tryd.prog) W (strOfNums (rexL wd r 0 b)) ((⟨#[15]⟩ : ByteArray)) (by (try simp only [ByteArray.size_append]); omega)
  have s1 := fun W => run_string_add_sum (P := Tryd.prog) W (strOfNums (rexL wd r 0 b) ++ (⟨#[15]⟩ : ByteArray)) (strOfNums [(64 + c) % 256]) (by (try simp only [ByteArray.size_append]); omega)
  have s2 := fun W => run_string_add_sum (P := Tryd.prog) W (strOfNums (rexL wd r 0 b) ++ (⟨#[15]⟩ : ByteArray) ++ strOfNums [(64 + c) % 256]) (strOfNums [mr 3 r b]) (by (try simp only [ByteArray.size_append]); omega)
  clear y0
  have b0 : IntKind.i64.wrap (64 + c) = 64 + c := IntWalk.i64_in _ (by omega)
  have hx := HX.out
  have hxs := hx.cells
  go_region_held3 (fun wr => SX ⟨15, wd, r, b, 0, c, 0⟩ w wr) ((refine BX.cells ?_; (with_reducible repeat (first | assumption | refine BX.drew ?_ | refine BX.alloc ?_ _ | refine BX.below ?_ (by assumption)))))
  (first
    | (go_at_call 36; (with_reducible refine (RRex wd r 0 b _ hr (by decide) hb).mono ?_); rintro e w2 ⟨rfl, hb2⟩)
    | (go_at_call 38; (with_reducible refine (ROne _ _).mono ?_); rintro e w2 ⟨rfl, hb2⟩)
    | (go_at_call 37; (with_reducible refine (RMr 3 r b _ (by decide) hr hb).mono ?_); rintro e w2 ⟨rfl, hb2⟩))
  go_wp2
  go_ret2
  exact ⟨by rw [← HF.out]; rfl, SX.all (by assumption)⟩
set_option maxHeartbeats 16000000 in
set_option maxRecDepth 100000 in
theorem re_16 (r : Int) (b : Int) (w : World) (h : right ⟨16, true, r, b, 0, 0, 0⟩ = true) (hR : ∀ W, Calls Tryd.prog 19 #[xv ⟨16, true, r, b, 0, 0, 0⟩] W fun e w' => e = .returned (.bool true) ∧ Below W.heap.size W w') :
    Calls Tryd.prog 17 #[xv ⟨16, true, r, b, 0, 0, 0⟩] w fun e w' => e = .returned (.tuple #[.string (strOfNums (enc ⟨16, true, r, b, 0, 0, 0⟩)), .bool true]) ∧ Below w.heap.size w w' := by
  obtain ⟨hr, hb⟩ := right_regs h
  dsimp only at hr hb
  have hfin : ((strOfNums (rexL true r 0 b) ++ (⟨#[99]⟩ : ByteArray)) ++ strOfNums [mr 3 r b]) = strOfNums (enc ⟨16, true, r, b, 0, 0, 0⟩) := by
    rw [show (⟨#[99]⟩ : ByteArray) = strOfNums [99] by decide +kernel]
    simp only [cat_nums]
    apply congrArg strOfNums
    simp [enc]
  have z0 : (strOfNums (rexL true r 0 b)).size ≤ 1 := by rw [strOfNums_size]; exact rexL_len _ _ _ _
  have z1 : (strOfNums [mr 3 r b]).size = 1 := rfl
  have HF := Aside0.mk hfin
  have HR := Aside0.mk hR
  have HN := Aside0.mk h
  clear hfin hR h
  have kX0 := blk_new w (xo ⟨16, true, r, b, 0, 0, 0⟩)
  go_enter Tryd.func17, Tryd.ntmps17
  go_upto_region 43 with (first
    | (go_at_call 19; (with_reducible refine (HR.out _).mono ?_); rintro e w1 ⟨rfl, hb1⟩; have hx := (show BX ⟨16, true, r, b, 0, 0, 0⟩ w _ from And.intro (blk_below kX0 hb1) ((below_alloc (Below.refl w.heap.size w) _).trans (hb1.mono (by simp)))); clear hb1 kX0; have HX := Aside0.mk hx; have hs := hx.cells; clear hx; obtain ⟨x0, x1, x2, x3, x4, x5, x6, x7⟩ := hs; clear x7)
    | (go_at_call 36; (with_reducible refine (RRex true r 0 b _ hr (by decide) hb).mono ?_); rintro e w2 ⟨rfl, hb1⟩; have hx := HX.out.below hb1; clear x0 x1 x2 x3 x4 x5 x6 HX hb1; have HX := Aside0.mk hx; have hs := hx.cells; clear hx; obtain ⟨x0, x1, x2, x3, x4, x5, x6, x7⟩ := hs; clear x7)
    | (go_at_call 36; (with_reducible refine (RRex true 0 0 b _ (by decide) (by decide) hb).mono ?_); rintro e w2 ⟨rfl, hb1⟩; have hx := HX.out.below hb1; clear x0 x1 x2 x3 x4 x5 x6 HX hb1; have HX := Aside0.mk hx; have hs := hx.cells; clear hx; obtain ⟨x0, x1, x2, x3, x4, x5, x6, x7⟩ := hs; clear x7)
    | (go_at_call 37; (with_reducible refine (RMr 3 r b _ (by decide) hr hb).mono ?_); rintro e w2 ⟨rfl, hb1⟩; have hx := HX.out.below hb1; clear x0 x1 x2 x3 x4 x5 x6 HX hb1; have HX := Aside0.mk hx; have hs := hx.cells; clear hx; obtain ⟨x0, x1, x2, x3, x4, x5, x6, x7⟩ := hs; clear x7))
  have y0 : (⟨#[99]⟩ : ByteArray).size = 1 := rfl
  have s0 := fun W => run_string_add_sum (P := Tryd.prog) W (strOfNums (rexL true r 0 b)) ((⟨#[99]⟩ : ByteArray)) (by (try simp only [ByteArray.size_append]); omega)
  have s1 := fun W => run_string_add_sum (P := Tryd.prog) W (strOfNums (rexL true r 0 b) ++ (⟨#[99]⟩ : ByteArray)) (strOfNums [mr 3 r b]) (by (try simp only [ByteArray.size_append]); omega)
  clear y0
  have hx := HX.out
  have hxs := hx.cells
  go_region_held3 (fun wr => SX ⟨16, true, r, b, 0, 0, 0⟩ w wr) ((refine BX.cells ?_; (with_reducible repeat (first | assumption | refine BX.drew ?_ | refine BX.alloc ?_ _ | refine BX.below ?_ (by assumption)))))
  (first
    | (go_at_call 36; (with_reducible refine (RRex true r 0 b _ hr (by decide) hb).mono ?_); rintro e w2 ⟨rfl, hb2⟩)
    | (go_at_call 37; (with_reducible refine (RMr 3 r b _ (by decide) hr hb).mono ?_); rintro e w2 ⟨rfl, hb2⟩))
  go_wp2
  go_ret2
  exact ⟨by rw [← HF.out]; rfl, SX.all (by assumption)⟩
set_option maxHeartbeats 16000000 in
set_option maxRecDepth 100000 in
theorem re_18 (c : Int) (n : Int) (w : World) (h : right ⟨18, false, 0, 0, 0, c, n⟩ = true) (hn : -9223372036854775808 ≤ n ∧ n ≤ 9223372036854775807) (hR : ∀ W, Calls Tryd.prog 19 #[xv ⟨18, false, 0, 0, 0, c, n⟩] W fun e w' => e = .returned (.bool true) ∧ Below W.heap.size W w') :
    Calls Tryd.prog 17 #[xv ⟨18, false, 0, 0, 0, c, n⟩] w fun e w' => e = .returned (.tuple #[.string (strOfNums (enc ⟨18, false, 0, 0, 0, c, n⟩)), .bool true]) ∧ Below w.heap.size w w' := by
  obtain ⟨hr, hb⟩ := right_regs h
  dsimp only at hr hb
  have hc : 0 ≤ c ∧ c ≤ 15 := by
    have := right_cases h
    dsimp only at this
    rcases this with ⟨h0, h1⟩ | ⟨h0, h1⟩ | ⟨h0, h1⟩ | ⟨h0, h1⟩ | ⟨h0, h1⟩ | ⟨h0, h1⟩ | ⟨h0, h1⟩ | ⟨h0, h1⟩ | ⟨h0, h1⟩ | ⟨h0, h1⟩ | ⟨h0, h1⟩ | ⟨h0, h1⟩ | ⟨h0, h1⟩ | ⟨h0, h1⟩
    all_goals first | omega | (have := alu_of h1.2.1; omega) | (have := alu_of h1.2.2.1; omega) | (have := shf_of h1.2.1; omega) | (have := cnd_of h1.2.2.1; omega) | (have := cnd_of h1.1; omega)
  have hfin : (((⟨#[15]⟩ : ByteArray) ++ strOfNums [(128 + c) % 256]) ++ strOfNums (le4 n)) = strOfNums (enc ⟨18, false, 0, 0, 0, c, n⟩) := by
    rw [show (⟨#[15]⟩ : ByteArray) = strOfNums [15] by decide +kernel]
    simp only [cat_nums]
    apply congrArg strOfNums
    simp [enc]
    try omega
  have z0 : (strOfNums [(128 + c) % 256]).size = 1 := rfl
  have z1 : (strOfNums (le4 n)).size = 4 := rfl
  have HF := Aside0.mk hfin
  have HR := Aside0.mk hR
  have HN := Aside0.mk h
  clear hfin hR h
  have kX0 := blk_new w (xo ⟨18, false, 0, 0, 0, c, n⟩)
  go_enter Tryd.func17, Tryd.ntmps17
  go_upto_region 49 with (first
    | (go_at_call 19; (with_reducible refine (HR.out _).mono ?_); rintro e w1 ⟨rfl, hb1⟩; have hx := (show BX ⟨18, false, 0, 0, 0, c, n⟩ w _ from And.intro (blk_below kX0 hb1) ((below_alloc (Below.refl w.heap.size w) _).trans (hb1.mono (by simp)))); clear hb1 kX0; have HX := Aside0.mk hx; have hs := hx.cells; clear hx; obtain ⟨x0, x1, x2, x3, x4, x5, x6, x7⟩ := hs; clear x7)
    | (go_at_call 36; (with_reducible refine (RRex false 0 0 0 _ hr (by decide) hb).mono ?_); rintro e w2 ⟨rfl, hb1⟩; have hx := HX.out.below hb1; clear x0 x1 x2 x3 x4 x5 x6 HX hb1; have HX := Aside0.mk hx; have hs := hx.cells; clear hx; obtain ⟨x0, x1, x2, x3, x4, x5, x6, x7⟩ := hs; clear x7)
    | (go_at_call 36; (with_reducible refine (RRex false 0 0 0 _ (by decide) (by decide) hb).mono ?_); rintro e w2 ⟨rfl, hb1⟩; have hx := HX.out.below hb1; clear x0 x1 x2 x3 x4 x5 x6 HX hb1; have HX := Aside0.mk hx; have hs := hx.cells; clear hx; obtain ⟨x0, x1, x2, x3, x4, x5, x6, x7⟩ := hs; clear x7)
    | (go_at_call 38; (with_reducible refine (ROne _ _).mono ?_); rintro e w2 ⟨rfl, hb1⟩; have hx := HX.out.below hb1; clear x0 x1 x2 x3 x4 x5 x6 HX hb1; have HX := Aside0.mk hx; have hs := hx.cells; clear hx; obtain ⟨x0, x1, x2, x3, x4, x5, x6, x7⟩ := hs; clear x7)
    | (go_at_call 39; (with_reducible refine (RNumber4 n _ hn).mono ?_); rintro e w2 ⟨rfl, hb1⟩; have hx := HX.out.below hb1; clear x0 x1 x2 x3 x4 x5 x6 HX hb1; have HX := Aside0.mk hx; have hs := hx.cells; clear hx; obtain ⟨x0, x1, x2, x3, x4, x5, x6, x7⟩ := hs; clear x7))
  have y0 : (⟨#[15]⟩ : ByteArray).size = 1 := rfl
  have s0 := fun W => run_string_add_sum (P := Tryd.prog) W ((⟨#[15]⟩ : ByteArray)) (strOfNums [(128 + c) % 256]) (by (try simp only [ByteArray.size_append]); omega)
  have s1 := fun W => run_string_add_sum (P := Tryd.prog) W ((⟨#[15]⟩ : ByteArray) ++ strOfNums [(128 + c) % 256]) (strOfNums (le4 n)) (by (try simp only [ByteArray.size_append]); omega)
  clear y0
  have b0 : IntKind.i64.wrap (128 + c) = 128 + c := IntWalk.i64_in _ (by omega)
  have hx := HX.out
  have hxs := hx.cells
  go_region_held3 (fun wr => SX ⟨18, false, 0, 0, 0, c, n⟩ w wr) ((refine BX.cells ?_; (with_reducible repeat (first | assumption | refine BX.drew ?_ | refine BX.alloc ?_ _ | refine BX.below ?_ (by assumption)))))
  (first
    | (go_at_call 38; (with_reducible refine (ROne _ _).mono ?_); rintro e w2 ⟨rfl, hb2⟩)
    | (go_at_call 39; (with_reducible refine (RNumber4 n _ hn).mono ?_); rintro e w2 ⟨rfl, hb2⟩))
  go_wp2
  go_ret2
  exact ⟨by rw [← HF.out]; rfl, SX.all (by assumption)⟩
end Go.Proofs.YtkfinaongajhmaaDoor.X

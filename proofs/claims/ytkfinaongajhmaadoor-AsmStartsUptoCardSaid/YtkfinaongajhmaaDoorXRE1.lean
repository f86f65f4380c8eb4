/- The reference's bytes of an instruction, chapter 11: kinds 13, 14, 17, 19, 20, 21, 22, 23. No condition but the numbers' bounds. -/
import Derived.Test.YtkfinaongajhmaaDoorXRefBad
import Derived.Test.YtkfinaongajhmaaDoorXEnc
import Derived.Test.YtkfinaongajhmaaDoorXBytes
import Derived.BigQuiet
import Derived.IntWalk
import Derived.Deep.RegionHeld3
namespace Go.Proofs.YtkfinaongajhmaaDoor.X
open Go.Ob Go.Ob.Xc Go.RowKit Go.Proofs.YtkfinaongajhmaaDoorW.PrintWords Go.Proofs.YtkfinaongajhmaaDoorW.PrintMore
attribute [local go_sem] max2_int min2_int max_two min_two
set_option linter.unusedVariables false
set_option linter.unusedSimpArgs false
set_option maxHeartbeats 16000000 in
set_option maxRecDepth 100000 in
theorem re_13 (c : Int) (w : World) (h : right ⟨13, false, 0, 0, 0, c, 0⟩ = true) (hR : ∀ W, Calls Tryd.prog 19 #[xv ⟨13, false, 0, 0, 0, c, 0⟩] W fun e w' => e = .returned (.bool true) ∧ Below W.heap.size W w') :
    Calls Tryd.prog 17 #[xv ⟨13, false, 0, 0, 0, c, 0⟩] w fun e w' => e = .returned (.tuple #[.string (strOfNums (enc ⟨13, false, 0, 0, 0, c, 0⟩)), .bool true]) ∧ Below w.heap.size w w' := by
  obtain ⟨hr, hb⟩ := right_regs h
  dsimp only at hr hb
  have hc : 0 ≤ c ∧ c ≤ 15 := by
    have := right_cases h
    dsimp only at this
    rcases this with ⟨h0, h1⟩ | ⟨h0, h1⟩ | ⟨h0, h1⟩ | ⟨h0, h1⟩ | ⟨h0, h1⟩ | ⟨h0, h1⟩ | ⟨h0, h1⟩ | ⟨h0, h1⟩ | ⟨h0, h1⟩ | ⟨h0, h1⟩ | ⟨h0, h1⟩ | ⟨h0, h1⟩ | ⟨h0, h1⟩ | ⟨h0, h1⟩
    all_goals first | omega | (have := alu_of h1.2.1; omega) | (have := alu_of h1.2.2.1; omega) | (have := shf_of h1.2.1; omega) | (have := cnd_of h1.2.2.1; omega) | (have := cnd_of h1.1; omega)
  have hfin : (((⟨#[15]⟩ : ByteArray) ++ strOfNums [(144 + c) % 256]) ++ (⟨#[192]⟩ : ByteArray)) = strOfNums (enc ⟨13, false, 0, 0, 0, c, 0⟩) := by
    rw [show (⟨#[15]⟩ : ByteArray) = strOfNums [15] by decide +kernel]
    rw [show (⟨#[192]⟩ : ByteArray) = strOfNums [192] by decide +kernel]
    simp only [cat_nums]
    apply congrArg strOfNums
    simp [enc]
    try omega
  have z0 : (strOfNums [(144 + c) % 256]).size = 1 := rfl
  have HF := Aside0.mk hfin
  have HR := Aside0.mk hR
  have HN := Aside0.mk h
  clear hfin hR h
  have kX0 := blk_new w (xo ⟨13, false, 0, 0, 0, c, 0⟩)
  go_enter Tryd.func17, Tryd.ntmps17
  go_wp2_with (first
    | (go_at_call 19; (with_reducible refine (HR.out _).mono ?_); rintro e w1 ⟨rfl, hb1⟩; have hx := (show BX ⟨13, false, 0, 0, 0, c, 0⟩ w _ from And.intro (blk_below kX0 hb1) ((below_alloc (Below.refl w.heap.size w) _).trans (hb1.mono (by simp)))); clear hb1 kX0; have HX := Aside0.mk hx; have hs := hx.cells; clear hx; obtain ⟨x0, x1, x2, x3, x4, x5, x6, x7⟩ := hs; clear x7)
    | (go_at_call 36; (with_reducible refine (RRex false 0 0 0 _ hr (by decide) hb).mono ?_); rintro e w2 ⟨rfl, hb1⟩; have hx := HX.out.below hb1; clear x0 x1 x2 x3 x4 x5 x6 HX hb1; have HX := Aside0.mk hx; have hs := hx.cells; clear hx; obtain ⟨x0, x1, x2, x3, x4, x5, x6, x7⟩ := hs; clear x7)
    | (go_at_call 36; (with_reducible refine (RRex false 0 0 0 _ (by decide) (by decide) hb).mono ?_); rintro e w2 ⟨rfl, hb1⟩; have hx := HX.out.below hb1; clear x0 x1 x2 x3 x4 x5 x6 HX hb1; have HX := Aside0.mk hx; have hs := hx.cells; clear hx; obtain ⟨x0, x1, x2, x3, x4, x5, x6, x7⟩ := hs; clear x7)
    | (go_at_call 38; (with_reducible refine (ROne _ _).mono ?_); rintro e w2 ⟨rfl, hb1⟩; have hx := HX.out.below hb1; clear x0 x1 x2 x3 x4 x5 x6 HX hb1; have HX := Aside0.mk hx; have hs := hx.cells; clear hx; obtain ⟨x0, x1, x2, x3, x4, x5, x6, x7⟩ := hs; clear x7))
  go_ret2
  exact ⟨by rw [← HF.out]; rfl, HX.out.2⟩
set_option maxHeartbeats 16000000 in
set_option maxRecDepth 100000 in
theorem re_14 (w : World) (h : right ⟨14, false, 0, 0, 0, 0, 0⟩ = true) (hR : ∀ W, Calls Tryd.prog 19 #[xv ⟨14, false, 0, 0, 0, 0, 0⟩] W fun e w' => e = .returned (.bool true) ∧ Below W.heap.size W w') :
    Calls Tryd.prog 17 #[xv ⟨14, false, 0, 0, 0, 0, 0⟩] w fun e w' => e = .returned (.tuple #[.string (strOfNums (enc ⟨14, false, 0, 0, 0, 0, 0⟩)), .bool true]) ∧ Below w.heap.size w w' := by
  obtain ⟨hr, hb⟩ := right_regs h
  dsimp only at hr hb
  have hfin : (⟨#[15, 182, 192]⟩ : ByteArray) = strOfNums (enc ⟨14, false, 0, 0, 0, 0, 0⟩) := by
    rw [show (⟨#[15, 182, 192]⟩ : ByteArray) = strOfNums [15, 182, 192] by decide +kernel]
    apply congrArg strOfNums
    simp [enc]
  have HF := Aside0.mk hfin
  have HR := Aside0.mk hR
  have HN := Aside0.mk h
  clear hfin hR h
  have kX0 := blk_new w (xo ⟨14, false, 0, 0, 0, 0, 0⟩)
  go_enter Tryd.func17, Tryd.ntmps17
  go_wp2_with (first
    | (go_at_call 19; (with_reducible refine (HR.out _).mono ?_); rintro e w1 ⟨rfl, hb1⟩; have hx := (show BX ⟨14, false, 0, 0, 0, 0, 0⟩ w _ from And.intro (blk_below kX0 hb1) ((below_alloc (Below.refl w.heap.size w) _).trans (hb1.mono (by simp)))); clear hb1 kX0; have HX := Aside0.mk hx; have hs := hx.cells; clear hx; obtain ⟨x0, x1, x2, x3, x4, x5, x6, x7⟩ := hs; clear x7)
    | (go_at_call 36; (with_reducible refine (RRex false 0 0 0 _ hr (by decide) hb).mono ?_); rintro e w2 ⟨rfl, hb1⟩; have hx := HX.out.below hb1; clear x0 x1 x2 x3 x4 x5 x6 HX hb1; have HX := Aside0.mk hx; have hs := hx.cells; clear hx; obtain ⟨x0, x1, x2, x3, x4, x5, x6, x7⟩ := hs; clear x7)
    | (go_at_call 36; (with_reducible refine (RRex false 0 0 0 _ (by decide) (by decide) hb).mono ?_); rintro e w2 ⟨rfl, hb1⟩; have hx := HX.out.below hb1; clear x0 x1 x2 x3 x4 x5 x6 HX hb1; have HX := Aside0.mk hx; have hs := hx.cells; clear hx; obtain ⟨x0, x1, x2, x3, x4, x5, x6, x7⟩ := hs; clear x7))
  go_ret2
  exact ⟨by rw [← HF.out]; rfl, HX.out.2⟩
set_option maxHeartbeats 16000000 in
set_option maxRecDepth 100000 in
theorem re_17 (n : Int) (w : World) (h : right ⟨17, false, 0, 0, 0, 0, n⟩ = true) (hn : -9223372036854775808 ≤ n ∧ n ≤ 9223372036854775807) (hR : ∀ W, Calls Tryd.prog 19 #[xv ⟨17, false, 0, 0, 0, 0, n⟩] W fun e w' => e = .returned (.bool true) ∧ Below W.heap.size W w') :
    Calls Tryd.prog 17 #[xv ⟨17, false, 0, 0, 0, 0, n⟩] w fun e w' => e = .returned (.tuple #[.string (strOfNums (enc ⟨17, false, 0, 0, 0, 0, n⟩)), .bool true]) ∧ Below w.heap.size w w' := by
  obtain ⟨hr, hb⟩ := right_regs h
  dsimp only at hr hb
  have hfin : ((⟨#[233]⟩ : ByteArray) ++ strOfNums (le4 n)) = strOfNums (enc ⟨17, false, 0, 0, 0, 0, n⟩) := by
    rw [show (⟨#[233]⟩ : ByteArray) = strOfNums [233] by decide +kernel]
    simp only [cat_nums]
    apply congrArg strOfNums
    simp [enc]
  have z0 : (strOfNums (le4 n)).size = 4 := rfl
  have HF := Aside0.mk hfin
  have HR := Aside0.mk hR
  have HN := Aside0.mk h
  clear hfin hR h
  have kX0 := blk_new w (xo ⟨17, false, 0, 0, 0, 0, n⟩)
  go_enter Tryd.func17, Tryd.ntmps17
  go_wp2_with (first
    | (go_at_call 19; (with_reducible refine (HR.out _).mono ?_); rintro e w1 ⟨rfl, hb1⟩; have hx := (show BX ⟨17, false, 0, 0, 0, 0, n⟩ w _ from And.intro (blk_below kX0 hb1) ((below_alloc (Below.refl w.heap.size w) _).trans (hb1.mono (by simp)))); clear hb1 kX0; have HX := Aside0.mk hx; have hs := hx.cells; clear hx; obtain ⟨x0, x1, x2, x3, x4, x5, x6, x7⟩ := hs; clear x7)
    | (go_at_call 36; (with_reducible refine (RRex false 0 0 0 _ hr (by decide) hb).mono ?_); rintro e w2 ⟨rfl, hb1⟩; have hx := HX.out.below hb1; clear x0 x1 x2 x3 x4 x5 x6 HX hb1; have HX := Aside0.mk hx; have hs := hx.cells; clear hx; obtain ⟨x0, x1, x2, x3, x4, x5, x6, x7⟩ := hs; clear x7)
    | (go_at_call 36; (with_reducible refine (RRex false 0 0 0 _ (by decide) (by decide) hb).mono ?_); rintro e w2 ⟨rfl, hb1⟩; have hx := HX.out.below hb1; clear x0 x1 x2 x3 x4 x5 x6 HX hb1; have HX := Aside0.mk hx; have hs := hx.cells; clear hx; obtain ⟨x0, x1, x2, x3, x4, x5, x6, x7⟩ := hs; clear x7)
    | (go_at_call 39; (with_reducible refine (RNumber4 n _ hn).mono ?_); rintro e w2 ⟨rfl, hb1⟩; have hx := HX.out.below hb1; clear x0 x1 x2 x3 x4 x5 x6 HX hb1; have HX := Aside0.mk hx; have hs := hx.cells; clear hx; obtain ⟨x0, x1, x2, x3, x4, x5, x6, x7⟩ := hs; clear x7))
  go_ret2
  exact ⟨by rw [← HF.out]; rfl, HX.out.2⟩
set_option maxHeartbeats 16000000 in
set_option maxRecDepth 100000 in
theorem re_19 (n : Int) (w : World) (h : right ⟨19, false, 0, 0, 0, 0, n⟩ = true) (hn : -9223372036854775808 ≤ n ∧ n ≤ 9223372036854775807) (hR : ∀ W, Calls Tryd.prog 19 #[xv ⟨19, false, 0, 0, 0, 0, n⟩] W fun e w' => e = .returned (.bool true) ∧ Below W.heap.size W w') :
    Calls Tryd.prog 17 #[xv ⟨19, false, 0, 0, 0, 0, n⟩] w fun e w' => e = .returned (.tuple #[.string (strOfNums (enc ⟨19, false, 0, 0, 0, 0, n⟩)), .bool true]) ∧ Below w.heap.size w w' := by
  obtain ⟨hr, hb⟩ := right_regs h
  dsimp only at hr hb
  have hfin : ((⟨#[232]⟩ : ByteArray) ++ strOfNums (le4 n)) = strOfNums (enc ⟨19, false, 0, 0, 0, 0, n⟩) := by
    rw [show (⟨#[232]⟩ : ByteArray) = strOfNums [232] by decide +kernel]
    simp only [cat_nums]
    apply congrArg strOfNums
    simp [enc]
  have z0 : (strOfNums (le4 n)).size = 4 := rfl
  have HF := Aside0.mk hfin
  have HR := Aside0.mk hR
  have HN := Aside0.mk h
  clear hfin hR h
  have kX0 := blk_new w (xo ⟨19, false, 0, 0, 0, 0, n⟩)
  go_enter Tryd.func17, Tryd.ntmps17
  go_wp2_with (first
    | (go_at_call 19; (with_reducible refine (HR.out _).mono ?_); rintro e w1 ⟨rfl, hb1⟩; have hx := (show BX ⟨19, false, 0, 0, 0, 0, n⟩ w _ from And.intro (blk_below kX0 hb1) ((below_alloc (Below.refl w.heap.size w) _).trans (hb1.mono (by simp)))); clear hb1 kX0; have HX := Aside0.mk hx; have hs := hx.cells; clear hx; obtain ⟨x0, x1, x2, x3, x4, x5, x6, x7⟩ := hs; clear x7)
    | (go_at_call 36; (with_reducible refine (RRex false 0 0 0 _ hr (by decide) hb).mono ?_); rintro e w2 ⟨rfl, hb1⟩; have hx := HX.out.below hb1; clear x0 x1 x2 x3 x4 x5 x6 HX hb1; have HX := Aside0.mk hx; have hs := hx.cells; clear hx; obtain ⟨x0, x1, x2, x3, x4, x5, x6, x7⟩ := hs; clear x7)
    | (go_at_call 36; (with_reducible refine (RRex false 0 0 0 _ (by decide) (by decide) hb).mono ?_); rintro e w2 ⟨rfl, hb1⟩; have hx := HX.out.below hb1; clear x0 x1 x2 x3 x4 x5 x6 HX hb1; have HX := Aside0.mk hx; have hs := hx.cells; clear hx; obtain ⟨x0, x1, x2, x3, x4, x5, x6, x7⟩ := hs; clear x7)
    | (go_at_call 39; (with_reducible refine (RNumber4 n _ hn).mono ?_); rintro e w2 ⟨rfl, hb1⟩; have hx := HX.out.below hb1; clear x0 x1 x2 x3 x4 x5 x6 HX hb1; have HX := Aside0.mk hx; have hs := hx.cells; clear hx; obtain ⟨x0, x1, x2, x3, x4, x5, x6, x7⟩ := hs; clear x7))
  go_ret2
  exact ⟨by rw [← HF.out]; rfl, HX.out.2⟩
set_option maxHeartbeats 16000000 in
set_option maxRecDepth 100000 in
theorem re_20 (w : World) (h : right ⟨20, false, 0, 0, 0, 0, 0⟩ = true) (hR : ∀ W, Calls Tryd.prog 19 #[xv ⟨20, false, 0, 0, 0, 0, 0⟩] W fun e w' => e = .returned (.bool true) ∧ Below W.heap.size W w') :
    Calls Tryd.prog 17 #[xv ⟨20, false, 0, 0, 0, 0, 0⟩] w fun e w' => e = .returned (.tuple #[.string (strOfNums (enc ⟨20, false, 0, 0, 0, 0, 0⟩)), .bool true]) ∧ Below w.heap.size w w' := by
  obtain ⟨hr, hb⟩ := right_regs h
  dsimp only at hr hb
  have hfin : (⟨#[195]⟩ : ByteArray) = strOfNums (enc ⟨20, false, 0, 0, 0, 0, 0⟩) := by
    rw [show (⟨#[195]⟩ : ByteArray) = strOfNums [195] by decide +kernel]
    apply congrArg strOfNums
    simp [enc]
  have HF := Aside0.mk hfin
  have HR := Aside0.mk hR
  have HN := Aside0.mk h
  clear hfin hR h
  have kX0 := blk_new w (xo ⟨20, false, 0, 0, 0, 0, 0⟩)
  go_enter Tryd.func17, Tryd.ntmps17
  go_wp2_with (first
    | (go_at_call 19; (with_reducible refine (HR.out _).mono ?_); rintro e w1 ⟨rfl, hb1⟩; have hx := (show BX ⟨20, false, 0, 0, 0, 0, 0⟩ w _ from And.intro (blk_below kX0 hb1) ((below_alloc (Below.refl w.heap.size w) _).trans (hb1.mono (by simp)))); clear hb1 kX0; have HX := Aside0.mk hx; have hs := hx.cells; clear hx; obtain ⟨x0, x1, x2, x3, x4, x5, x6, x7⟩ := hs; clear x7)
    | (go_at_call 36; (with_reducible refine (RRex false 0 0 0 _ hr (by decide) hb).mono ?_); rintro e w2 ⟨rfl, hb1⟩; have hx := HX.out.below hb1; clear x0 x1 x2 x3 x4 x5 x6 HX hb1; have HX := Aside0.mk hx; have hs := hx.cells; clear hx; obtain ⟨x0, x1, x2, x3, x4, x5, x6, x7⟩ := hs; clear x7)
    | (go_at_call 36; (with_reducible refine (RRex false 0 0 0 _ (by decide) (by decide) hb).mono ?_); rintro e w2 ⟨rfl, hb1⟩; have hx := HX.out.below hb1; clear x0 x1 x2 x3 x4 x5 x6 HX hb1; have HX := Aside0.mk hx; have hs := hx.cells; clear hx; obtain ⟨x0, x1, x2, x3, x4, x5, x6, x7⟩ := hs; clear x7))
  go_ret2
  exact ⟨by rw [← HF.out]; rfl, HX.out.2⟩
set_option maxHeartbeats 16000000 in
set_option maxRecDepth 100000 in
theorem re_21 (w : World) (h : right ⟨21, false, 0, 0, 0, 0, 0⟩ = true) (hR : ∀ W, Calls Tryd.prog 19 #[xv ⟨21, false, 0, 0, 0, 0, 0⟩] W fun e w' => e = .returned (.bool true) ∧ Below W.heap.size W w') :
    Calls Tryd.prog 17 #[xv ⟨21, false, 0, 0, 0, 0, 0⟩] w fun e w' => e = .returned (.tuple #[.string (strOfNums (enc ⟨21, false, 0, 0, 0, 0, 0⟩)), .bool true]) ∧ Below w.heap.size w w' := by
  obtain ⟨hr, hb⟩ := right_regs h
  dsimp only at hr hb
  have hfin : (⟨#[244]⟩ : ByteArray) = strOfNums (enc ⟨21, false, 0, 0, 0, 0, 0⟩) := by
    rw [show (⟨#[244]⟩ : ByteArray) = strOfNums [244] by decide +kernel]
    apply congrArg strOfNums
    simp [enc]
  have HF := Aside0.mk hfin
  have HR := Aside0.mk hR
  have HN := Aside0.mk h
  clear hfin hR h
  have kX0 := blk_new w (xo ⟨21, false, 0, 0, 0, 0, 0⟩)
  go_enter Tryd.func17, Tryd.ntmps17
  go_wp2_with (first
    | (go_at_call 19; (with_reducible refine (HR.out _).mono ?_); rintro e w1 ⟨rfl, hb1⟩; have hx := (show BX ⟨21, false, 0, 0, 0, 0, 0⟩ w _ from And.intro (blk_below kX0 hb1) ((below_alloc (Below.refl w.heap.size w) _).trans (hb1.mono (by simp)))); clear hb1 kX0; have HX := Aside0.mk hx; have hs := hx.cells; clear hx; obtain ⟨x0, x1, x2, x3, x4, x5, x6, x7⟩ := hs; clear x7)
    | (go_at_call 36; (with_reducible refine (RRex false 0 0 0 _ hr (by decide) hb).mono ?_); rintro e w2 ⟨rfl, hb1⟩; have hx := HX.out.below hb1; clear x0 x1 x2 x3 x4 x5 x6 HX hb1; have HX := Aside0.mk hx; have hs := hx.cells; clear hx; obtain ⟨x0, x1, x2, x3, x4, x5, x6, x7⟩ := hs; clear x7)
    | (go_at_call 36; (with_reducible refine (RRex false 0 0 0 _ (by decide) (by decide) hb).mono ?_); rintro e w2 ⟨rfl, hb1⟩; have hx := HX.out.below hb1; clear x0 x1 x2 x3 x4 x5 x6 HX hb1; have HX := Aside0.mk hx; have hs := hx.cells; clear hx; obtain ⟨x0, x1, x2, x3, x4, x5, x6, x7⟩ := hs; clear x7))
  go_ret2
  exact ⟨by rw [← HF.out]; rfl, HX.out.2⟩
set_option maxHeartbeats 16000000 in
set_option maxRecDepth 100000 in
theorem re_22 (w : World) (h : right ⟨22, false, 0, 0, 0, 0, 0⟩ = true) (hR : ∀ W, Calls Tryd.prog 19 #[xv ⟨22, false, 0, 0, 0, 0, 0⟩] W fun e w' => e = .returned (.bool true) ∧ Below W.heap.size W w') :
    Calls Tryd.prog 17 #[xv ⟨22, false, 0, 0, 0, 0, 0⟩] w fun e w' => e = .returned (.tuple #[.string (strOfNums (enc ⟨22, false, 0, 0, 0, 0, 0⟩)), .bool true]) ∧ Below w.heap.size w w' := by
  obtain ⟨hr, hb⟩ := right_regs h
  dsimp only at hr hb
  have hfin : (⟨#[15, 11]⟩ : ByteArray) = strOfNums (enc ⟨22, false, 0, 0, 0, 0, 0⟩) := by
    rw [show (⟨#[15, 11]⟩ : ByteArray) = strOfNums [15, 11] by decide +kernel]
    apply congrArg strOfNums
    simp [enc]
  have HF := Aside0.mk hfin
  have HR := Aside0.mk hR
  have HN := Aside0.mk h
  clear hfin hR h
  have kX0 := blk_new w (xo ⟨22, false, 0, 0, 0, 0, 0⟩)
  go_enter Tryd.func17, Tryd.ntmps17
  go_wp2_with (first
    | (go_at_call 19; (with_reducible refine (HR.out _).mono ?_); rintro e w1 ⟨rfl, hb1⟩; have hx := (show BX ⟨22, false, 0, 0, 0, 0, 0⟩ w _ from And.intro (blk_below kX0 hb1) ((below_alloc (Below.refl w.heap.size w) _).trans (hb1.mono (by simp)))); clear hb1 kX0; have HX := Aside0.mk hx; have hs := hx.cells; clear hx; obtain ⟨x0, x1, x2, x3, x4, x5, x6, x7⟩ := hs; clear x7)
    | (go_at_call 36; (with_reducible refine (RRex false 0 0 0 _ hr (by decide) hb).mono ?_); rintro e w2 ⟨rfl, hb1⟩; have hx := HX.out.below hb1; clear x0 x1 x2 x3 x4 x5 x6 HX hb1; have HX := Aside0.mk hx; have hs := hx.cells; clear hx; obtain ⟨x0, x1, x2, x3, x4, x5, x6, x7⟩ := hs; clear x7)
    | (go_at_call 36; (with_reducible refine (RRex false 0 0 0 _ (by decide) (by decide) hb).mono ?_); rintro e w2 ⟨rfl, hb1⟩; have hx := HX.out.below hb1; clear x0 x1 x2 x3 x4 x5 x6 HX hb1; have HX := Aside0.mk hx; have hs := hx.cells; clear hx; obtain ⟨x0, x1, x2, x3, x4, x5, x6, x7⟩ := hs; clear x7))
  go_ret2
  exact ⟨by rw [← HF.out]; rfl, HX.out.2⟩
set_option maxHeartbeats 16000000 in
set_option maxRecDepth 100000 in
theorem re_23 (w : World) (h : right ⟨23, false, 0, 0, 0, 0, 0⟩ = true) (hR : ∀ W, Calls Tryd.prog 19 #[xv ⟨23, false, 0, 0, 0, 0, 0⟩] W fun e w' => e = .returned (.bool true) ∧ Below W.heap.size W w') :
    Calls Tryd.prog 17 #[xv ⟨23, false, 0, 0, 0, 0, 0⟩] w fun e w' => e = .returned (.tuple #[.string (strOfNums (enc ⟨23, false, 0, 0, 0, 0, 0⟩)), .bool true]) ∧ Below w.heap.size w w' := by
  obtain ⟨hr, hb⟩ := right_regs h
  dsimp only at hr hb
  have hfin : (⟨#[204]⟩ : ByteArray) = strOfNums (enc ⟨23, false, 0, 0, 0, 0, 0⟩) := by
    rw [show (⟨#[204]⟩ : ByteArray) = strOfNums [204] by decide +kernel]
    apply congrArg strOfNums
    simp [enc]
  have HF := Aside0.mk hfin
  have HR := Aside0.mk hR
  have HN := Aside0.mk h
  clear hfin hR h
  have kX0 := blk_new w (xo ⟨23, false, 0, 0, 0, 0, 0⟩)
  go_enter Tryd.func17, Tryd.ntmps17
  go_wp2_with (first
    | (go_at_call 19; (with_reducible refine (HR.out _).mono ?_); rintro e w1 ⟨rfl, hb1⟩; have hx := (show BX ⟨23, false, 0, 0, 0, 0, 0⟩ w _ from And.intro (blk_below kX0 hb1) ((below_alloc (Below.refl w.heap.size w) _).trans (hb1.mono (by simp)))); clear hb1 kX0; have HX := Aside0.mk hx; have hs := hx.cells; clear hx; obtain ⟨x0, x1, x2, x3, x4, x5, x6, x7⟩ := hs; clear x7)
    | (go_at_call 36; (with_reducible refine (RRex false 0 0 0 _ hr (by decide) hb).mono ?_); rintro e w2 ⟨rfl, hb1⟩; have hx := HX.out.below hb1; clear x0 x1 x2 x3 x4 x5 x6 HX hb1; have HX := Aside0.mk hx; have hs := hx.cells; clear hx; obtain ⟨x0, x1, x2, x3, x4, x5, x6, x7⟩ := hs; clear x7)
    | (go_at_call 36; (with_reducible refine (RRex false 0 0 0 _ (by decide) (by decide) hb).mono ?_); rintro e w2 ⟨rfl, hb1⟩; have hx := HX.out.below hb1; clear x0 x1 x2 x3 x4 x5 x6 HX hb1; have HX := Aside0.mk hx; have hs := hx.cells; clear hx; obtain ⟨x0, x1, x2, x3, x4, x5, x6, x7⟩ := hs; clear x7))
  go_ret2
  exact ⟨by rw [← HF.out]; rfl, HX.out.2⟩
end Go.Proofs.YtkfinaongajhmaaDoor.X

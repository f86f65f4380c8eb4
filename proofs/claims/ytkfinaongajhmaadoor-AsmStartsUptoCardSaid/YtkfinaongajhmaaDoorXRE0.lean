/- The reference's bytes of an instruction, chapter 11: kinds 1, 5, 6, 7, 8, 9, 10. No condition but the numbers' bounds. -/
import Derived.Test.YtkfinaongajhmaaDoorXRefBad
import Derived.Test.YtkfinaongajhmaaDoorXEnc
import Derived.Test.YtkfinaongajhmaaDoorXBytes
import Derived.BigQuiet
import Derived.IntWalk
import Derived.Deep.RegionHeld3
namespace Go.Proofs.YtkfinaongajhmaaDoor.X
open Go.Ob Go.Ob.Xc Go.RowKit Go.Proofs.YtkfinaongajhmaaDoorW.PrintWords Go.Proofs.YtkfinaongajhmaaDoorW.PrintMore
attribute [local go_sem] max2_int min2_int max_two min_two
set_option linter.unusedVariables false
set_option linter.unusedSimpArgs false
set_option maxHeartbeats 16000000 in
set_option maxRecDepth 100000 in
theorem re_1 (wd : Bool) (r : Int) (b : Int) (w : World) (h : right ⟨1, wd, r, b, 0, 0, 0⟩ = true) (hR : ∀ W, Calls Tryd.prog 19 #[xv ⟨1, wd, r, b, 0, 0, 0⟩] W fun e w' => e = .returned (.bool true) ∧ Below W.heap.size W w') :
    Calls Tryd.prog 17 #[xv ⟨1, wd, r, b, 0, 0, 0⟩] w fun e w' => e = .returned (.tuple #[.string (strOfNums (enc ⟨1, wd, r, b, 0, 0, 0⟩)), .bool true]) ∧ Below w.heap.size w w' := by
  obtain ⟨hr, hb⟩ := right_regs h
  dsimp only at hr hb
  have hfin : ((strOfNums (rexL wd r 0 b) ++ (⟨#[137]⟩ : ByteArray)) ++ strOfNums [mr 3 r b]) = strOfNums (enc ⟨1, wd, r, b, 0, 0, 0⟩) := by
    rw [show (⟨#[137]⟩ : ByteArray) = strOfNums [137] by decide +kernel]
    simp only [cat_nums]
    apply congrArg strOfNums
    simp [enc]
  have z0 : (strOfNums (rexL wd r 0 b)).size ≤ 1 := by rw [strOfNums_size]; exact rexL_len _ _ _ _
  have z1 : (strOfNums [mr 3 r b]).size = 1 := rfl
  have HF := Aside0.mk hfin
  have HR := Aside0.mk hR
  have HN := Aside0.mk h
  clear hfin hR h
  have kX0 := blk_new w (xo ⟨1, wd, r, b, 0, 0, 0⟩)
  go_enter Tryd.func17, Tryd.ntmps17
  go_wp2_with (first
    | (go_at_call 19; (with_reducible refine (HR.out _).mono ?_); rintro e w1 ⟨rfl, hb1⟩; have hx := (show BX ⟨1, wd, r, b, 0, 0, 0⟩ w _ from And.intro (blk_below kX0 hb1) ((below_alloc (Below.refl w.heap.size w) _).trans (hb1.mono (by simp)))); clear hb1 kX0; have HX := Aside0.mk hx; have hs := hx.cells; clear hx; obtain ⟨x0, x1, x2, x3, x4, x5, x6, x7⟩ := hs; clear x7)
    | (go_at_call 36; (with_reducible refine (RRex wd r 0 b _ hr (by decide) hb).mono ?_); rintro e w2 ⟨rfl, hb1⟩; have hx := HX.out.below hb1; clear x0 x1 x2 x3 x4 x5 x6 HX hb1; have HX := Aside0.mk hx; have hs := hx.cells; clear hx; obtain ⟨x0, x1, x2, x3, x4, x5, x6, x7⟩ := hs; clear x7)
    | (go_at_call 36; (with_reducible refine (RRex wd 0 0 b _ (by decide) (by decide) hb).mono ?_); rintro e w2 ⟨rfl, hb1⟩; have hx := HX.out.below hb1; clear x0 x1 x2 x3 x4 x5 x6 HX hb1; have HX := Aside0.mk hx; have hs := hx.cells; clear hx; obtain ⟨x0, x1, x2, x3, x4, x5, x6, x7⟩ := hs; clear x7)
    | (go_at_call 37; (with_reducible refine (RMr 3 r b _ (by decide) hr hb).mono ?_); rintro e w2 ⟨rfl, hb1⟩; have hx := HX.out.below hb1; clear x0 x1 x2 x3 x4 x5 x6 HX hb1; have HX := Aside0.mk hx; have hs := hx.cells; clear hx; obtain ⟨x0, x1, x2, x3, x4, x5, x6, x7⟩ := hs; clear x7))
  go_ret2
  exact ⟨by rw [← HF.out]; rfl, HX.out.2⟩
set_option maxHeartbeats 16000000 in
set_option maxRecDepth 100000 in
theorem re_5 (wd : Bool) (r : Int) (b : Int) (w : World) (h : right ⟨5, wd, r, b, 0, 0, 0⟩ = true) (hR : ∀ W, Calls Tryd.prog 19 #[xv ⟨5, wd, r, b, 0, 0, 0⟩] W fun e w' => e = .returned (.bool true) ∧ Below W.heap.size W w') :
    Calls Tryd.prog 17 #[xv ⟨5, wd, r, b, 0, 0, 0⟩] w fun e w' => e = .returned (.tuple #[.string (strOfNums (enc ⟨5, wd, r, b, 0, 0, 0⟩)), .bool true]) ∧ Below w.heap.size w w' := by
  obtain ⟨hr, hb⟩ := right_regs h
  dsimp only at hr hb
  have hfin : ((strOfNums (rexL wd r 0 b) ++ (⟨#[133]⟩ : ByteArray)) ++ strOfNums [mr 3 r b]) = strOfNums (enc ⟨5, wd, r, b, 0, 0, 0⟩) := by
    rw [show (⟨#[133]⟩ : ByteArray) = strOfNums [133] by decide +kernel]
    simp only [cat_nums]
    apply congrArg strOfNums
    simp [enc]
  have z0 : (strOfNums (rexL wd r 0 b)).size ≤ 1 := by rw [strOfNums_size]; exact rexL_len _ _ _ _
  have z1 : (strOfNums [mr 3 r b]).size = 1 := rfl
  have HF := Aside0.mk hfin
  have HR := Aside0.mk hR
  have HN := Aside0.mk h
  clear hfin hR h
  have kX0 := blk_new w (xo ⟨5, wd, r, b, 0, 0, 0⟩)
  go_enter Tryd.func17, Tryd.ntmps17
  go_wp2_with (first
    | (go_at_call 19; (with_reducible refine (HR.out _).mono ?_); rintro e w1 ⟨rfl, hb1⟩; have hx := (show BX ⟨5, wd, r, b, 0, 0, 0⟩ w _ from And.intro (blk_below kX0 hb1) ((below_alloc (Below.refl w.heap.size w) _).trans (hb1.mono (by simp)))); clear hb1 kX0; have HX := Aside0.mk hx; have hs := hx.cells; clear hx; obtain ⟨x0, x1, x2, x3, x4, x5, x6, x7⟩ := hs; clear x7)
    | (go_at_call 36; (with_reducible refine (RRex wd r 0 b _ hr (by decide) hb).mono ?_); rintro e w2 ⟨rfl, hb1⟩; have hx := HX.out.below hb1; clear x0 x1 x2 x3 x4 x5 x6 HX hb1; have HX := Aside0.mk hx; have hs := hx.cells; clear hx; obtain ⟨x0, x1, x2, x3, x4, x5, x6, x7⟩ := hs; clear x7)
    | (go_at_call 36; (with_reducible refine (RRex wd 0 0 b _ (by decide) (by decide) hb).mono ?_); rintro e w2 ⟨rfl, hb1⟩; have hx := HX.out.below hb1; clear x0 x1 x2 x3 x4 x5 x6 HX hb1; have HX := Aside0.mk hx; have hs := hx.cells; clear hx; obtain ⟨x0, x1, x2, x3, x4, x5, x6, x7⟩ := hs; clear x7)
    | (go_at_call 37; (with_reducible refine (RMr 3 r b _ (by decide) hr hb).mono ?_); rintro e w2 ⟨rfl, hb1⟩; have hx := HX.out.below hb1; clear x0 x1 x2 x3 x4 x5 x6 HX hb1; have HX := Aside0.mk hx; have hs := hx.cells; clear hx; obtain ⟨x0, x1, x2, x3, x4, x5, x6, x7⟩ := hs; clear x7))
  go_ret2
  exact ⟨by rw [← HF.out]; rfl, HX.out.2⟩
set_option maxHeartbeats 16000000 in
set_option maxRecDepth 100000 in
theorem re_6 (wd : Bool) (r : Int) (b : Int) (w : World) (h : right ⟨6, wd, r, b, 0, 0, 0⟩ = true) (hR : ∀ W, Calls Tryd.prog 19 #[xv ⟨6, wd, r, b, 0, 0, 0⟩] W fun e w' => e = .returned (.bool true) ∧ Below W.heap.size W w') :
    Calls Tryd.prog 17 #[xv ⟨6, wd, r, b, 0, 0, 0⟩] w fun e w' => e = .returned (.tuple #[.string (strOfNums (enc ⟨6, wd, r, b, 0, 0, 0⟩)), .bool true]) ∧ Below w.heap.size w w' := by
  obtain ⟨hr, hb⟩ := right_regs h
  dsimp only at hr hb
  have hfin : ((strOfNums (rexL wd r 0 b) ++ (⟨#[15, 175]⟩ : ByteArray)) ++ strOfNums [mr 3 r b]) = strOfNums (enc ⟨6, wd, r, b, 0, 0, 0⟩) := by
    rw [show (⟨#[15, 175]⟩ : ByteArray) = strOfNums [15, 175] by decide +kernel]
    simp only [cat_nums]
    apply congrArg strOfNums
    simp [enc]
  have z0 : (strOfNums (rexL wd r 0 b)).size ≤ 1 := by rw [strOfNums_size]; exact rexL_len _ _ _ _
  have z1 : (strOfNums [mr 3 r b]).size = 1 := rfl
  have HF := Aside0.mk hfin
  have HR := Aside0.mk hR
  have HN := Aside0.mk h
  clear hfin hR h
  have kX0 := blk_new w (xo ⟨6, wd, r, b, 0, 0, 0⟩)
  go_enter Tryd.func17, Tryd.ntmps17
  go_wp2_with (first
    | (go_at_call 19; (with_reducible refine (HR.out _).mono ?_); rintro e w1 ⟨rfl, hb1⟩; have hx := (show BX ⟨6, wd, r, b, 0, 0, 0⟩ w _ from And.intro (blk_below kX0 hb1) ((below_alloc (Below.refl w.heap.size w) _).trans (hb1.mono (by simp)))); clear hb1 kX0; have HX := Aside0.mk hx; have hs := hx.cells; clear hx; obtain ⟨x0, x1, x2, x3, x4, x5, x6, x7⟩ := hs; clear x7)
    | (go_at_call 36; (with_reducible refine (RRex wd r 0 b _ hr (by decide) hb).mono ?_); rintro e w2 ⟨rfl, hb1⟩; have hx := HX.out.below hb1; clear x0 x1 x2 x3 x4 x5 x6 HX hb1; have HX := Aside0.mk hx; have hs := hx.cells; clear hx; obtain ⟨x0, x1, x2, x3, x4, x5, x6, x7⟩ := hs; clear x7)
    | (go_at_call 36; (with_reducible refine (RRex wd 0 0 b _ (by decide) (by decide) hb).mono ?_); rintro e w2 ⟨rfl, hb1⟩; have hx := HX.out.below hb1; clear x0 x1 x2 x3 x4 x5 x6 HX hb1; have HX := Aside0.mk hx; have hs := hx.cells; clear hx; obtain ⟨x0, x1, x2, x3, x4, x5, x6, x7⟩ := hs; clear x7)
    | (go_at_call 37; (with_reducible refine (RMr 3 r b _ (by decide) hr hb).mono ?_); rintro e w2 ⟨rfl, hb1⟩; have hx := HX.out.below hb1; clear x0 x1 x2 x3 x4 x5 x6 HX hb1; have HX := Aside0.mk hx; have hs := hx.cells; clear hx; obtain ⟨x0, x1, x2, x3, x4, x5, x6, x7⟩ := hs; clear x7))
  go_ret2
  exact ⟨by rw [← HF.out]; rfl, HX.out.2⟩
set_option maxHeartbeats 16000000 in
set_option maxRecDepth 100000 in
theorem re_7 (wd : Bool) (b : Int) (c : Int) (w : World) (h : right ⟨7, wd, 0, b, 0, c, 0⟩ = true) (hR : ∀ W, Calls Tryd.prog 19 #[xv ⟨7, wd, 0, b, 0, c, 0⟩] W fun e w' => e = .returned (.bool true) ∧ Below W.heap.size W w') :
    Calls Tryd.prog 17 #[xv ⟨7, wd, 0, b, 0, c, 0⟩] w fun e w' => e = .returned (.tuple #[.string (strOfNums (enc ⟨7, wd, 0, b, 0, c, 0⟩)), .bool true]) ∧ Below w.heap.size w w' := by
  obtain ⟨hr, hb⟩ := right_regs h
  dsimp only at hr hb
  have hc : 0 ≤ c ∧ c ≤ 15 := by
    have := right_cases h
    dsimp only at this
    rcases this with ⟨h0, h1⟩ | ⟨h0, h1⟩ | ⟨h0, h1⟩ | ⟨h0, h1⟩ | ⟨h0, h1⟩ | ⟨h0, h1⟩ | ⟨h0, h1⟩ | ⟨h0, h1⟩ | ⟨h0, h1⟩ | ⟨h0, h1⟩ | ⟨h0, h1⟩ | ⟨h0, h1⟩ | ⟨h0, h1⟩ | ⟨h0, h1⟩
    all_goals first | omega | (have := alu_of h1.2.1; omega) | (have := alu_of h1.2.2.1; omega) | (have := shf_of h1.2.1; omega) | (have := cnd_of h1.2.2.1; omega) | (have := cnd_of h1.1; omega)
  have hfin : ((strOfNums (rexL wd 0 0 b) ++ (⟨#[211]⟩ : ByteArray)) ++ strOfNums [mr 3 c b]) = strOfNums (enc ⟨7, wd, 0, b, 0, c, 0⟩) := by
    rw [show (⟨#[211]⟩ : ByteArray) = strOfNums [211] by decide +kernel]
    simp only [cat_nums]
    apply congrArg strOfNums
    simp [enc]
  have z0 : (strOfNums (rexL wd 0 0 b)).size ≤ 1 := by rw [strOfNums_size]; exact rexL_len _ _ _ _
  have z1 : (strOfNums [mr 3 c b]).size = 1 := rfl
  have HF := Aside0.mk hfin
  have HR := Aside0.mk hR
  have HN := Aside0.mk h
  clear hfin hR h
  have kX0 := blk_new w (xo ⟨7, wd, 0, b, 0, c, 0⟩)
  go_enter Tryd.func17, Tryd.ntmps17
  go_wp2_with (first
    | (go_at_call 19; (with_reducible refine (HR.out _).mono ?_); rintro e w1 ⟨rfl, hb1⟩; have hx := (show BX ⟨7, wd, 0, b, 0, c, 0⟩ w _ from And.intro (blk_below kX0 hb1) ((below_alloc (Below.refl w.heap.size w) _).trans (hb1.mono (by simp)))); clear hb1 kX0; have HX := Aside0.mk hx; have hs := hx.cells; clear hx; obtain ⟨x0, x1, x2, x3, x4, x5, x6, x7⟩ := hs; clear x7)
    | (go_at_call 36; (with_reducible refine (RRex wd 0 0 b _ hr (by decide) hb).mono ?_); rintro e w2 ⟨rfl, hb1⟩; have hx := HX.out.below hb1; clear x0 x1 x2 x3 x4 x5 x6 HX hb1; have HX := Aside0.mk hx; have hs := hx.cells; clear hx; obtain ⟨x0, x1, x2, x3, x4, x5, x6, x7⟩ := hs; clear x7)
    | (go_at_call 36; (with_reducible refine (RRex wd 0 0 b _ (by decide) (by decide) hb).mono ?_); rintro e w2 ⟨rfl, hb1⟩; have hx := HX.out.below hb1; clear x0 x1 x2 x3 x4 x5 x6 HX hb1; have HX := Aside0.mk hx; have hs := hx.cells; clear hx; obtain ⟨x0, x1, x2, x3, x4, x5, x6, x7⟩ := hs; clear x7)
    | (go_at_call 37; (with_reducible refine (RMr 3 c b _ (by decide) hc hb).mono ?_); rintro e w2 ⟨rfl, hb1⟩; have hx := HX.out.below hb1; clear x0 x1 x2 x3 x4 x5 x6 HX hb1; have HX := Aside0.mk hx; have hs := hx.cells; clear hx; obtain ⟨x0, x1, x2, x3, x4, x5, x6, x7⟩ := hs; clear x7))
  go_ret2
  exact ⟨by rw [← HF.out]; rfl, HX.out.2⟩
set_option maxHeartbeats 16000000 in
set_option maxRecDepth 100000 in
theorem re_8 (wd : Bool) (b : Int) (w : World) (h : right ⟨8, wd, 0, b, 0, 0, 0⟩ = true) (hR : ∀ W, Calls Tryd.prog 19 #[xv ⟨8, wd, 0, b, 0, 0, 0⟩] W fun e w' => e = .returned (.bool true) ∧ Below W.heap.size W w') :
    Calls Tryd.prog 17 #[xv ⟨8, wd, 0, b, 0, 0, 0⟩] w fun e w' => e = .returned (.tuple #[.string (strOfNums (enc ⟨8, wd, 0, b, 0, 0, 0⟩)), .bool true]) ∧ Below w.heap.size w w' := by
  obtain ⟨hr, hb⟩ := right_regs h
  dsimp only at hr hb
  have hfin : ((strOfNums (rexL wd 0 0 b) ++ (⟨#[247]⟩ : ByteArray)) ++ strOfNums [mr 3 6 b]) = strOfNums (enc ⟨8, wd, 0, b, 0, 0, 0⟩) := by
    rw [show (⟨#[247]⟩ : ByteArray) = strOfNums [247] by decide +kernel]
    simp only [cat_nums]
    apply congrArg strOfNums
    simp [enc]
  have z0 : (strOfNums (rexL wd 0 0 b)).size ≤ 1 := by rw [strOfNums_size]; exact rexL_len _ _ _ _
  have z1 : (strOfNums [mr 3 6 b]).size = 1 := rfl
  have HF := Aside0.mk hfin
  have HR := Aside0.mk hR
  have HN := Aside0.mk h
  clear hfin hR h
  have kX0 := blk_new w (xo ⟨8, wd, 0, b, 0, 0, 0⟩)
  go_enter Tryd.func17, Tryd.ntmps17
  go_wp2_with (first
    | (go_at_call 19; (with_reducible refine (HR.out _).mono ?_); rintro e w1 ⟨rfl, hb1⟩; have hx := (show BX ⟨8, wd, 0, b, 0, 0, 0⟩ w _ from And.intro (blk_below kX0 hb1) ((below_alloc (Below.refl w.heap.size w) _).trans (hb1.mono (by simp)))); clear hb1 kX0; have HX := Aside0.mk hx; have hs := hx.cells; clear hx; obtain ⟨x0, x1, x2, x3, x4, x5, x6, x7⟩ := hs; clear x7)
    | (go_at_call 36; (with_reducible refine (RRex wd 0 0 b _ hr (by decide) hb).mono ?_); rintro e w2 ⟨rfl, hb1⟩; have hx := HX.out.below hb1; clear x0 x1 x2 x3 x4 x5 x6 HX hb1; have HX := Aside0.mk hx; have hs := hx.cells; clear hx; obtain ⟨x0, x1, x2, x3, x4, x5, x6, x7⟩ := hs; clear x7)
    | (go_at_call 36; (with_reducible refine (RRex wd 0 0 b _ (by decide) (by decide) hb).mono ?_); rintro e w2 ⟨rfl, hb1⟩; have hx := HX.out.below hb1; clear x0 x1 x2 x3 x4 x5 x6 HX hb1; have HX := Aside0.mk hx; have hs := hx.cells; clear hx; obtain ⟨x0, x1, x2, x3, x4, x5, x6, x7⟩ := hs; clear x7)
    | (go_at_call 37; (with_reducible refine (RMr 3 6 b _ (by decide) (by decide) hb).mono ?_); rintro e w2 ⟨rfl, hb1⟩; have hx := HX.out.below hb1; clear x0 x1 x2 x3 x4 x5 x6 HX hb1; have HX := Aside0.mk hx; have hs := hx.cells; clear hx; obtain ⟨x0, x1, x2, x3, x4, x5, x6, x7⟩ := hs; clear x7))
  go_ret2
  exact ⟨by rw [← HF.out]; rfl, HX.out.2⟩
set_option maxHeartbeats 16000000 in
set_option maxRecDepth 100000 in
theorem re_9 (wd : Bool) (b : Int) (w : World) (h : right ⟨9, wd, 0, b, 0, 0, 0⟩ = true) (hR : ∀ W, Calls Tryd.prog 19 #[xv ⟨9, wd, 0, b, 0, 0, 0⟩] W fun e w' => e = .returned (.bool true) ∧ Below W.heap.size W w') :
    Calls Tryd.prog 17 #[xv ⟨9, wd, 0, b, 0, 0, 0⟩] w fun e w' => e = .returned (.tuple #[.string (strOfNums (enc ⟨9, wd, 0, b, 0, 0, 0⟩)), .bool true]) ∧ Below w.heap.size w w' := by
  obtain ⟨hr, hb⟩ := right_regs h
  dsimp only at hr hb
  have hfin : ((strOfNums (rexL wd 0 0 b) ++ (⟨#[247]⟩ : ByteArray)) ++ strOfNums [mr 3 7 b]) = strOfNums (enc ⟨9, wd, 0, b, 0, 0, 0⟩) := by
    rw [show (⟨#[247]⟩ : ByteArray) = strOfNums [247] by decide +kernel]
    simp only [cat_nums]
    apply congrArg strOfNums
    simp [enc]
  have z0 : (strOfNums (rexL wd 0 0 b)).size ≤ 1 := by rw [strOfNums_size]; exact rexL_len _ _ _ _
  have z1 : (strOfNums [mr 3 7 b]).size = 1 := rfl
  have HF := Aside0.mk hfin
  have HR := Aside0.mk hR
  have HN := Aside0.mk h
  clear hfin hR h
  have kX0 := blk_new w (xo ⟨9, wd, 0, b, 0, 0, 0⟩)
  go_enter Tryd.func17, Tryd.ntmps17
  go_wp2_with (first
    | (go_at_call 19; (with_reducible refine (HR.out _).mono ?_); rintro e w1 ⟨rfl, hb1⟩; have hx := (show BX ⟨9, wd, 0, b, 0, 0, 0⟩ w _ from And.intro (blk_below kX0 hb1) ((below_alloc (Below.refl w.heap.size w) _).trans (hb1.mono (by simp)))); clear hb1 kX0; have HX := Aside0.mk hx; have hs := hx.cells; clear hx; obtain ⟨x0, x1, x2, x3, x4, x5, x6, x7⟩ := hs; clear x7)
    | (go_at_call 36; (with_reducible refine (RRex wd 0 0 b _ hr (by decide) hb).mono ?_); rintro e w2 ⟨rfl, hb1⟩; have hx := HX.out.below hb1; clear x0 x1 x2 x3 x4 x5 x6 HX hb1; have HX := Aside0.mk hx; have hs := hx.cells; clear hx; obtain ⟨x0, x1, x2, x3, x4, x5, x6, x7⟩ := hs; clear x7)
    | (go_at_call 36; (with_reducible refine (RRex wd 0 0 b _ (by decide) (by decide) hb).mono ?_); rintro e w2 ⟨rfl, hb1⟩; have hx := HX.out.below hb1; clear x0 x1 x2 x3 x4 x5 x6 HX hb1; have HX := Aside0.mk hx; have hs := hx.cells; clear hx; obtain ⟨x0, x1, x2, x3, x4, x5, x6, x7⟩ := hs; clear x7)
    | (go_at_call 37; (with_reducible refine (RMr 3 7 b _ (by decide) (by decide) hb).mono ?_); rintro e w2 ⟨rfl, hb1⟩; have hx := HX.out.below hb1; clear x0 x1 x2 x3 x4 x5 x6 HX hb1; have HX := Aside0.mk hx; have hs := hx.cells; clear hx; obtain ⟨x0, x1, x2, x3, x4, x5, x6, x7⟩ := hs; clear x7))
  go_ret2
  exact ⟨by rw [← HF.out]; rfl, HX.out.2⟩
set_option maxHeartbeats 16000000 in
set_option maxRecDepth 100000 in
theorem re_10 (wd : Bool) (w : World) (h : right ⟨10, wd, 0, 0, 0, 0, 0⟩ = true) (hR : ∀ W, Calls Tryd.prog 19 #[xv ⟨10, wd, 0, 0, 0, 0, 0⟩] W fun e w' => e = .returned (.bool true) ∧ Below W.heap.size W w') :
    Calls Tryd.prog 17 #[xv ⟨10, wd, 0, 0, 0, 0, 0⟩] w fun e w' => e = .returned (.tuple #[.string (strOfNums (enc ⟨10, wd, 0, 0, 0, 0, 0⟩)), .bool true]) ∧ Below w.heap.size w w' := by
  obtain ⟨hr, hb⟩ := right_regs h
  dsimp only at hr hb
  have hfin : (strOfNums (rexL wd 0 0 0) ++ (⟨#[153]⟩ : ByteArray)) = strOfNums (enc ⟨10, wd, 0, 0, 0, 0, 0⟩) := by
    rw [show (⟨#[153]⟩ : ByteArray) = strOfNums [153] by decide +kernel]
    simp only [cat_nums]
    apply congrArg strOfNums
    simp [enc]
  have z0 : (strOfNums (rexL wd 0 0 0)).size ≤ 1 := by rw [strOfNums_size]; exact rexL_len _ _ _ _
  have HF := Aside0.mk hfin
  have HR := Aside0.mk hR
  have HN := Aside0.mk h
  clear hfin hR h
  have kX0 := blk_new w (xo ⟨10, wd, 0, 0, 0, 0, 0⟩)
  go_enter Tryd.func17, Tryd.ntmps17
  go_wp2_with (first
    | (go_at_call 19; (with_reducible refine (HR.out _).mono ?_); rintro e w1 ⟨rfl, hb1⟩; have hx := (show BX ⟨10, wd, 0, 0, 0, 0, 0⟩ w _ from And.intro (blk_below kX0 hb1) ((below_alloc (Below.refl w.heap.size w) _).trans (hb1.mono (by simp)))); clear hb1 kX0; have HX := Aside0.mk hx; have hs := hx.cells; clear hx; obtain ⟨x0, x1, x2, x3, x4, x5, x6, x7⟩ := hs; clear x7)
    | (go_at_call 36; (with_reducible refine (RRex wd 0 0 0 _ hr (by decide) hb).mono ?_); rintro e w2 ⟨rfl, hb1⟩; have hx := HX.out.below hb1; clear x0 x1 x2 x3 x4 x5 x6 HX hb1; have HX := Aside0.mk hx; have hs := hx.cells; clear hx; obtain ⟨x0, x1, x2, x3, x4, x5, x6, x7⟩ := hs; clear x7)
    | (go_at_call 36; (with_reducible refine (RRex wd 0 0 0 _ (by decide) (by decide) hb).mono ?_); rintro e w2 ⟨rfl, hb1⟩; have hx := HX.out.below hb1; clear x0 x1 x2 x3 x4 x5 x6 HX hb1; have HX := Aside0.mk hx; have hs := hx.cells; clear hx; obtain ⟨x0, x1, x2, x3, x4, x5, x6, x7⟩ := hs; clear x7)
    | (go_at_call 36; (with_reducible refine (RRex wd 0 0 0 _ (by decide) (by decide) (by decide)).mono ?_); rintro e w2 ⟨rfl, hb1⟩; have hx := HX.out.below hb1; clear x0 x1 x2 x3 x4 x5 x6 HX hb1; have HX := Aside0.mk hx; have hs := hx.cells; clear hx; obtain ⟨x0, x1, x2, x3, x4, x5, x6, x7⟩ := hs; clear x7))
  go_ret2
  exact ⟨by rw [← HF.out]; rfl, HX.out.2⟩
end Go.Proofs.YtkfinaongajhmaaDoor.X

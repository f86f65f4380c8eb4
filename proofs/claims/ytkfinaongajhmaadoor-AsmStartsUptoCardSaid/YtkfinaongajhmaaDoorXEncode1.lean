/- An instruction's bytes: what the program's function computes, kinds 13, 14, 15, 20, 21, 22, 23. No condition but that the table of conditions holds what the program's text lays, and that numbers are those of the language. -/
import Derived.Test.YtkfinaongajhmaaDoorXEnc
import Derived.BigQuiet
import Derived.Deep.RegionHeld3
namespace Go.Proofs.YtkfinaongajhmaaDoor.X
open Go.Ob Go.Ob.Xc Go.RowKit Go.Proofs.YtkfinaongajhmaaDoorW.PrintWords Go.Proofs.YtkfinaongajhmaaDoorW.PrintMore
attribute [local go_sem] max2_int min2_int max_two min_two
set_option linter.unusedVariables false
set_option linter.unusedSimpArgs false
set_option maxHeartbeats 16000000 in
set_option maxRecDepth 100000 in
theorem enc_13 (c : Int) (w : World) (h : right ⟨13, false, 0, 0, 0, c, 0⟩ = true) (ht : Tab w) :
    Calls Tryd.prog 16 #[xv ⟨13, false, 0, 0, 0, c, 0⟩] w fun e w' => e = .returned (.tuple #[.string (strOfNums (enc ⟨13, false, 0, 0, 0, c, 0⟩)), .int .i64 0]) ∧ Below w.heap.size w w' := by
  obtain ⟨hr, hb⟩ := right_regs h
  dsimp only at hr hb
  have hR := Aside0.mk (fun W hW => Right ⟨13, false, 0, 0, 0, c, 0⟩ W hW (show -9223372036854775808 ≤ (0 : Int) ∧ (0 : Int) ≤ 9223372036854775807 by decide))
  have hright := h
  have hc : 0 ≤ c ∧ c ≤ 15 := by
    have := right_cases h
    dsimp only at this
    rcases this with ⟨h0, h1⟩ | ⟨h0, h1⟩ | ⟨h0, h1⟩ | ⟨h0, h1⟩ | ⟨h0, h1⟩ | ⟨h0, h1⟩ | ⟨h0, h1⟩ | ⟨h0, h1⟩ | ⟨h0, h1⟩ | ⟨h0, h1⟩ | ⟨h0, h1⟩ | ⟨h0, h1⟩ | ⟨h0, h1⟩ | ⟨h0, h1⟩
    all_goals first | omega | (have := alu_of h1.2.1; omega) | (have := alu_of h1.2.2.1; omega) | (have := shf_of h1.2.1; omega) | (have := cnd_of h1.2.2.1; omega) | (have := cnd_of h1.1; omega)
  have HF := Aside0.mk (jn_13 c h)
  have q1 : ∀ W, Calls Tryd.prog 32 #[.bool false, .int .i64 0, .int .i64 0, .int .i64 0] W fun e w' => e = .returned (.int .i64 (rexI false 0 0 0)) ∧ w' = W := fun W => (Rex false 0 0 0 W hr (by decide) hb).mono fun e w2 h => ⟨h.1, h.2.symm⟩
  have q2 : ∀ W, Calls Tryd.prog 32 #[.bool false, .int .i64 0, .int .i64 0, .int .i64 0] W fun e w' => e = .returned (.int .i64 (rexI false 0 0 0)) ∧ w' = W := fun W => (Rex false 0 0 0 W (by decide) (by decide) hb).mono fun e w2 h => ⟨h.1, h.2.symm⟩
  have q3 : ∀ W, Calls Tryd.prog 33 #[.int .i64 3, .int .i64 0, .int .i64 0] W fun e w' => e = .returned (.int .i64 (mr 3 0 0)) ∧ w' = W := fun W => (Mr 3 0 0 W (by decide)).mono fun e w2 h => ⟨h.1, h.2.symm⟩
  have HQ := Aside0.mk (And.intro q1 (And.intro q2 q3))
  have HT := Aside0.mk ht
  have b0 : bits .or .i64 144 c = 144 + c := or_hi 144 c (by decide) (by omega) (by omega)
  have HBit := Aside0.mk b0
  clear b0
  have HR1 := Aside0.mk hright
  clear q1 q2 q3 ht h hright
  have kX0 := blk_new w (xo ⟨13, false, 0, 0, 0, c, 0⟩)
  go_enter Tryd.func16, Tryd.ntmps16
  go_wp2_with (first
    | (go_at_call 18; (with_reducible refine (hR.out _ (HT.out.below (below_alloc (Below.refl _ _) _))).mono ?_); rw [HR1.out]; rintro e w1 ⟨rfl, hb1⟩; have HX := Aside0.mk (And.intro (blk_below kX0 hb1) ((below_alloc (Below.refl w.heap.size w) _).trans (hb1.mono (by simp)))); clear hb1))
  clear kX0
  have x0 := blk_cell HX.out.1 0
  have x1 := blk_cell HX.out.1 1
  have x2 := blk_cell HX.out.1 2
  have x3 := blk_cell HX.out.1 3
  have x4 := blk_cell HX.out.1 4
  have x5 := blk_cell HX.out.1 5
  have x6 := blk_cell HX.out.1 6
  simp at x0 x1 x2 x3 x4 x5 x6
  go_quiet ((first
    | (go_at_call 32; with_reducible exact Calls.quiet_of_same (HQ.out.1 _))
    | (go_at_call 32; with_reducible exact Calls.quiet_of_same (HQ.out.2.1 _))
    | (go_at_call 33; with_reducible exact Calls.quiet_of_same (HQ.out.2.2 _))))
  obtain ⟨V, hV⟩ : ∃ V, w1.drewN nq = V := ⟨_, rfl⟩
  have kX := blk_drewN HX.out.1 nq
  have kB := pw_below_drewN HX.out.2 nq
  rw [hV] at kX kB ⊢
  clear hV x0 x1 x2 x3 x4 x5 x6
  have HV := Aside0.mk (And.intro kX kB)
  clear kX kB
  have x0 := blk_cell HV.out.1 0
  have x1 := blk_cell HV.out.1 1
  have x2 := blk_cell HV.out.1 2
  have x3 := blk_cell HV.out.1 3
  have x4 := blk_cell HV.out.1 4
  have x5 := blk_cell HV.out.1 5
  have x6 := blk_cell HV.out.1 6
  simp at x0 x1 x2 x3 x4 x5 x6
  have hbit := HBit.out
  go_wp2_with (first
    | (go_at_call 34; (with_reducible refine (J3 _ _ _ _).mono ?_); rintro e w2 ⟨rfl, hb2⟩; have H2 := Aside0.mk hb2; clear hb2))
  go_ret2
  exact ⟨by rw [← HF.out]; rfl, HV.out.2.trans (H2.out.mono HV.out.2.size)⟩
set_option maxHeartbeats 16000000 in
set_option maxRecDepth 100000 in
theorem enc_14 (w : World) (h : right ⟨14, false, 0, 0, 0, 0, 0⟩ = true) (ht : Tab w) :
    Calls Tryd.prog 16 #[xv ⟨14, false, 0, 0, 0, 0, 0⟩] w fun e w' => e = .returned (.tuple #[.string (strOfNums (enc ⟨14, false, 0, 0, 0, 0, 0⟩)), .int .i64 0]) ∧ Below w.heap.size w w' := by
  obtain ⟨hr, hb⟩ := right_regs h
  dsimp only at hr hb
  have hR := Aside0.mk (fun W hW => Right ⟨14, false, 0, 0, 0, 0, 0⟩ W hW (show -9223372036854775808 ≤ (0 : Int) ∧ (0 : Int) ≤ 9223372036854775807 by decide))
  have hright := h
  have HF := Aside0.mk (jn_14  h)
  have q1 : ∀ W, Calls Tryd.prog 32 #[.bool false, .int .i64 0, .int .i64 0, .int .i64 0] W fun e w' => e = .returned (.int .i64 (rexI false 0 0 0)) ∧ w' = W := fun W => (Rex false 0 0 0 W hr (by decide) hb).mono fun e w2 h => ⟨h.1, h.2.symm⟩
  have q2 : ∀ W, Calls Tryd.prog 32 #[.bool false, .int .i64 0, .int .i64 0, .int .i64 0] W fun e w' => e = .returned (.int .i64 (rexI false 0 0 0)) ∧ w' = W := fun W => (Rex false 0 0 0 W (by decide) (by decide) hb).mono fun e w2 h => ⟨h.1, h.2.symm⟩
  have q3 : ∀ W, Calls Tryd.prog 33 #[.int .i64 3, .int .i64 0, .int .i64 0] W fun e w' => e = .returned (.int .i64 (mr 3 0 0)) ∧ w' = W := fun W => (Mr 3 0 0 W (by decide)).mono fun e w2 h => ⟨h.1, h.2.symm⟩
  have HQ := Aside0.mk (And.intro q1 (And.intro q2 q3))
  have HT := Aside0.mk ht
  have HR1 := Aside0.mk hright
  clear q1 q2 q3 ht h hright
  have kX0 := blk_new w (xo ⟨14, false, 0, 0, 0, 0, 0⟩)
  go_enter Tryd.func16, Tryd.ntmps16
  go_wp2_with (first
    | (go_at_call 18; (with_reducible refine (hR.out _ (HT.out.below (below_alloc (Below.refl _ _) _))).mono ?_); rw [HR1.out]; rintro e w1 ⟨rfl, hb1⟩; have HX := Aside0.mk (And.intro (blk_below kX0 hb1) ((below_alloc (Below.refl w.heap.size w) _).trans (hb1.mono (by simp)))); clear hb1))
  clear kX0
  have x0 := blk_cell HX.out.1 0
  have x1 := blk_cell HX.out.1 1
  have x2 := blk_cell HX.out.1 2
  have x3 := blk_cell HX.out.1 3
  have x4 := blk_cell HX.out.1 4
  have x5 := blk_cell HX.out.1 5
  have x6 := blk_cell HX.out.1 6
  simp at x0 x1 x2 x3 x4 x5 x6
  go_quiet ((first
    | (go_at_call 32; with_reducible exact Calls.quiet_of_same (HQ.out.1 _))
    | (go_at_call 32; with_reducible exact Calls.quiet_of_same (HQ.out.2.1 _))
    | (go_at_call 33; with_reducible exact Calls.quiet_of_same (HQ.out.2.2 _))))
  obtain ⟨V, hV⟩ : ∃ V, w1.drewN nq = V := ⟨_, rfl⟩
  have kX := blk_drewN HX.out.1 nq
  have kB := pw_below_drewN HX.out.2 nq
  rw [hV] at kX kB ⊢
  clear hV x0 x1 x2 x3 x4 x5 x6
  have HV := Aside0.mk (And.intro kX kB)
  clear kX kB
  have x0 := blk_cell HV.out.1 0
  have x1 := blk_cell HV.out.1 1
  have x2 := blk_cell HV.out.1 2
  have x3 := blk_cell HV.out.1 3
  have x4 := blk_cell HV.out.1 4
  have x5 := blk_cell HV.out.1 5
  have x6 := blk_cell HV.out.1 6
  simp at x0 x1 x2 x3 x4 x5 x6
  go_wp2_with (first
    | (go_at_call 34; (with_reducible refine (J3 _ _ _ _).mono ?_); rintro e w2 ⟨rfl, hb2⟩; have H2 := Aside0.mk hb2; clear hb2))
  go_ret2
  exact ⟨by rw [← HF.out]; rfl, HV.out.2.trans (H2.out.mono HV.out.2.size)⟩
set_option maxHeartbeats 16000000 in
set_option maxRecDepth 100000 in
theorem enc_15 (wd : Bool) (r : Int) (b : Int) (c : Int) (w : World) (h : right ⟨15, wd, r, b, 0, c, 0⟩ = true) (ht : Tab w) :
    Calls Tryd.prog 16 #[xv ⟨15, wd, r, b, 0, c, 0⟩] w fun e w' => e = .returned (.tuple #[.string (strOfNums (enc ⟨15, wd, r, b, 0, c, 0⟩)), .int .i64 0]) ∧ Below w.heap.size w w' := by
  obtain ⟨hr, hb⟩ := right_regs h
  dsimp only at hr hb
  have hR := Aside0.mk (fun W hW => Right ⟨15, wd, r, b, 0, c, 0⟩ W hW (show -9223372036854775808 ≤ (0 : Int) ∧ (0 : Int) ≤ 9223372036854775807 by decide))
  have hright := h
  have hc : 0 ≤ c ∧ c ≤ 15 := by
    have := right_cases h
    dsimp only at this
    rcases this with ⟨h0, h1⟩ | ⟨h0, h1⟩ | ⟨h0, h1⟩ | ⟨h0, h1⟩ | ⟨h0, h1⟩ | ⟨h0, h1⟩ | ⟨h0, h1⟩ | ⟨h0, h1⟩ | ⟨h0, h1⟩ | ⟨h0, h1⟩ | ⟨h0, h1⟩ | ⟨h0, h1⟩ | ⟨h0, h1⟩ | ⟨h0, h1⟩
    all_goals first | omega | (have := alu_of h1.2.1; omega) | (have := alu_of h1.2.2.1; omega) | (have := shf_of h1.2.1; omega) | (have := cnd_of h1.2.2.1; omega) | (have := cnd_of h1.1; omega)
  have HF := Aside0.mk (jn_15 wd r b c h)
  have q1 : ∀ W, Calls Tryd.prog 32 #[.bool wd, .int .i64 r, .int .i64 0, .int .i64 b] W fun e w' => e = .returned (.int .i64 (rexI wd r 0 b)) ∧ w' = W := fun W => (Rex wd r 0 b W hr (by decide) hb).mono fun e w2 h => ⟨h.1, h.2.symm⟩
  have q2 : ∀ W, Calls Tryd.prog 32 #[.bool wd, .int .i64 0, .int .i64 0, .int .i64 b] W fun e w' => e = .returned (.int .i64 (rexI wd 0 0 b)) ∧ w' = W := fun W => (Rex wd 0 0 b W (by decide) (by decide) hb).mono fun e w2 h => ⟨h.1, h.2.symm⟩
  have q3 : ∀ W, Calls Tryd.prog 33 #[.int .i64 3, .int .i64 r, .int .i64 b] W fun e w' => e = .returned (.int .i64 (mr 3 r b)) ∧ w' = W := fun W => (Mr 3 r b W (by decide)).mono fun e w2 h => ⟨h.1, h.2.symm⟩
  have HQ := Aside0.mk (And.intro q1 (And.intro q2 q3))
  have HT := Aside0.mk ht
  have b0 : bits .or .i64 64 c = 64 + c := or_hi 64 c (by decide) (by omega) (by omega)
  have HBit := Aside0.mk b0
  clear b0
  have HR1 := Aside0.mk hright
  clear q1 q2 q3 ht h hright
  have kX0 := blk_new w (xo ⟨15, wd, r, b, 0, c, 0⟩)
  go_enter Tryd.func16, Tryd.ntmps16
  go_wp2_with (first
    | (go_at_call 18; (with_reducible refine (hR.out _ (HT.out.below (below_alloc (Below.refl _ _) _))).mono ?_); rw [HR1.out]; rintro e w1 ⟨rfl, hb1⟩; have HX := Aside0.mk (And.intro (blk_below kX0 hb1) ((below_alloc (Below.refl w.heap.size w) _).trans (hb1.mono (by simp)))); clear hb1))
  clear kX0
  have x0 := blk_cell HX.out.1 0
  have x1 := blk_cell HX.out.1 1
  have x2 := blk_cell HX.out.1 2
  have x3 := blk_cell HX.out.1 3
  have x4 := blk_cell HX.out.1 4
  have x5 := blk_cell HX.out.1 5
  have x6 := blk_cell HX.out.1 6
  simp at x0 x1 x2 x3 x4 x5 x6
  go_quiet ((first
    | (go_at_call 32; with_reducible exact Calls.quiet_of_same (HQ.out.1 _))
    | (go_at_call 32; with_reducible exact Calls.quiet_of_same (HQ.out.2.1 _))
    | (go_at_call 33; with_reducible exact Calls.quiet_of_same (HQ.out.2.2 _))))
  obtain ⟨V, hV⟩ : ∃ V, w1.drewN nq = V := ⟨_, rfl⟩
  have kX := blk_drewN HX.out.1 nq
  have kB := pw_below_drewN HX.out.2 nq
  rw [hV] at kX kB ⊢
  clear hV x0 x1 x2 x3 x4 x5 x6
  have HV := Aside0.mk (And.intro kX kB)
  clear kX kB
  have x0 := blk_cell HV.out.1 0
  have x1 := blk_cell HV.out.1 1
  have x2 := blk_cell HV.out.1 2
  have x3 := blk_cell HV.out.1 3
  have x4 := blk_cell HV.out.1 4
  have x5 := blk_cell HV.out.1 5
  have x6 := blk_cell HV.out.1 6
  simp at x0 x1 x2 x3 x4 x5 x6
  have hbit := HBit.out
  go_wp2_with (first
    | (go_at_call 34; (with_reducible refine (J4 _ _ _ _ _).mono ?_); rintro e w2 ⟨rfl, hb2⟩; have H2 := Aside0.mk hb2; clear hb2))
  go_ret2
  exact ⟨by rw [← HF.out]; rfl, HV.out.2.trans (H2.out.mono HV.out.2.size)⟩
set_option maxHeartbeats 16000000 in
set_option maxRecDepth 100000 in
theorem enc_20 (w : World) (h : right ⟨20, false, 0, 0, 0, 0, 0⟩ = true) (ht : Tab w) :
    Calls Tryd.prog 16 #[xv ⟨20, false, 0, 0, 0, 0, 0⟩] w fun e w' => e = .returned (.tuple #[.string (strOfNums (enc ⟨20, false, 0, 0, 0, 0, 0⟩)), .int .i64 0]) ∧ Below w.heap.size w w' := by
  obtain ⟨hr, hb⟩ := right_regs h
  dsimp only at hr hb
  have hR := Aside0.mk (fun W hW => Right ⟨20, false, 0, 0, 0, 0, 0⟩ W hW (show -9223372036854775808 ≤ (0 : Int) ∧ (0 : Int) ≤ 9223372036854775807 by decide))
  have hright := h
  have HF := Aside0.mk (jn_20  h)
  have q1 : ∀ W, Calls Tryd.prog 32 #[.bool false, .int .i64 0, .int .i64 0, .int .i64 0] W fun e w' => e = .returned (.int .i64 (rexI false 0 0 0)) ∧ w' = W := fun W => (Rex false 0 0 0 W hr (by decide) hb).mono fun e w2 h => ⟨h.1, h.2.symm⟩
  have q2 : ∀ W, Calls Tryd.prog 32 #[.bool false, .int .i64 0, .int .i64 0, .int .i64 0] W fun e w' => e = .returned (.int .i64 (rexI false 0 0 0)) ∧ w' = W := fun W => (Rex false 0 0 0 W (by decide) (by decide) hb).mono fun e w2 h => ⟨h.1, h.2.symm⟩
  have q3 : ∀ W, Calls Tryd.prog 33 #[.int .i64 3, .int .i64 0, .int .i64 0] W fun e w' => e = .returned (.int .i64 (mr 3 0 0)) ∧ w' = W := fun W => (Mr 3 0 0 W (by decide)).mono fun e w2 h => ⟨h.1, h.2.symm⟩
  have HQ := Aside0.mk (And.intro q1 (And.intro q2 q3))
  have HT := Aside0.mk ht
  have HR1 := Aside0.mk hright
  clear q1 q2 q3 ht h hright
  have kX0 := blk_new w (xo ⟨20, false, 0, 0, 0, 0, 0⟩)
  go_enter Tryd.func16, Tryd.ntmps16
  go_wp2_with (first
    | (go_at_call 18; (with_reducible refine (hR.out _ (HT.out.below (below_alloc (Below.refl _ _) _))).mono ?_); rw [HR1.out]; rintro e w1 ⟨rfl, hb1⟩; have HX := Aside0.mk (And.intro (blk_below kX0 hb1) ((below_alloc (Below.refl w.heap.size w) _).trans (hb1.mono (by simp)))); clear hb1))
  clear kX0
  have x0 := blk_cell HX.out.1 0
  have x1 := blk_cell HX.out.1 1
  have x2 := blk_cell HX.out.1 2
  have x3 := blk_cell HX.out.1 3
  have x4 := blk_cell HX.out.1 4
  have x5 := blk_cell HX.out.1 5
  have x6 := blk_cell HX.out.1 6
  simp at x0 x1 x2 x3 x4 x5 x6
  go_quiet ((first
    | (go_at_call 32; with_reducible exact Calls.quiet_of_same (HQ.out.1 _))
    | (go_at_call 32; with_reducible exact Calls.quiet_of_same (HQ.out.2.1 _))
    | (go_at_call 33; with_reducible exact Calls.quiet_of_same (HQ.out.2.2 _))))
  obtain ⟨V, hV⟩ : ∃ V, w1.drewN nq = V := ⟨_, rfl⟩
  have kX := blk_drewN HX.out.1 nq
  have kB := pw_below_drewN HX.out.2 nq
  rw [hV] at kX kB ⊢
  clear hV x0 x1 x2 x3 x4 x5 x6
  have HV := Aside0.mk (And.intro kX kB)
  clear kX kB
  have x0 := blk_cell HV.out.1 0
  have x1 := blk_cell HV.out.1 1
  have x2 := blk_cell HV.out.1 2
  have x3 := blk_cell HV.out.1 3
  have x4 := blk_cell HV.out.1 4
  have x5 := blk_cell HV.out.1 5
  have x6 := blk_cell HV.out.1 6
  simp at x0 x1 x2 x3 x4 x5 x6
  go_wp2_with (first
    | (go_at_call 34; (with_reducible refine (J1 _ _).mono ?_); rintro e w2 ⟨rfl, hb2⟩; have H2 := Aside0.mk hb2; clear hb2))
  go_ret2
  exact ⟨by rw [← HF.out]; rfl, HV.out.2.trans (H2.out.mono HV.out.2.size)⟩
set_option maxHeartbeats 16000000 in
set_option maxRecDepth 100000 in
theorem enc_21 (w : World) (h : right ⟨21, false, 0, 0, 0, 0, 0⟩ = true) (ht : Tab w) :
    Calls Tryd.prog 16 #[xv ⟨21, false, 0, 0, 0, 0, 0⟩] w fun e w' => e = .returned (.tuple #[.string (strOfNums (enc ⟨21, false, 0, 0, 0, 0, 0⟩)), .int .i64 0]) ∧ Below w.heap.size w w' := by
  obtain ⟨hr, hb⟩ := right_regs h
  dsimp only at hr hb
  have hR := Aside0.mk (fun W hW => Right ⟨21, false, 0, 0, 0, 0, 0⟩ W hW (show -9223372036854775808 ≤ (0 : Int) ∧ (0 : Int) ≤ 9223372036854775807 by decide))
  have hright := h
  have HF := Aside0.mk (jn_21  h)
  have q1 : ∀ W, Calls Tryd.prog 32 #[.bool false, .int .i64 0, .int .i64 0, .int .i64 0] W fun e w' => e = .returned (.int .i64 (rexI false 0 0 0)) ∧ w' = W := fun W => (Rex false 0 0 0 W hr (by decide) hb).mono fun e w2 h => ⟨h.1, h.2.symm⟩
  have q2 : ∀ W, Calls Tryd.prog 32 #[.bool false, .int .i64 0, .int .i64 0, .int .i64 0] W fun e w' => e = .returned (.int .i64 (rexI false 0 0 0)) ∧ w' = W := fun W => (Rex false 0 0 0 W (by decide) (by decide) hb).mono fun e w2 h => ⟨h.1, h.2.symm⟩
  have q3 : ∀ W, Calls Tryd.prog 33 #[.int .i64 3, .int .i64 0, .int .i64 0] W fun e w' => e = .returned (.int .i64 (mr 3 0 0)) ∧ w' = W := fun W => (Mr 3 0 0 W (by decide)).mono fun e w2 h => ⟨h.1, h.2.symm⟩
  have HQ := Aside0.mk (And.intro q1 (And.intro q2 q3))
  have HT := Aside0.mk ht
  have HR1 := Aside0.mk hright
  clear q1 q2 q3 ht h hright
  have kX0 := blk_new w (xo ⟨21, false, 0, 0, 0, 0, 0⟩)
  go_enter Tryd.func16, Tryd.ntmps16
  go_wp2_with (first
    | (go_at_call 18; (with_reducible refine (hR.out _ (HT.out.below (below_alloc (Below.refl _ _) _))).mono ?_); rw [HR1.out]; rintro e w1 ⟨rfl, hb1⟩; have HX := Aside0.mk (And.intro (blk_below kX0 hb1) ((below_alloc (Below.refl w.heap.size w) _).trans (hb1.mono (by simp)))); clear hb1))
  clear kX0
  have x0 := blk_cell HX.out.1 0
  have x1 := blk_cell HX.out.1 1
  have x2 := blk_cell HX.out.1 2
  have x3 := blk_cell HX.out.1 3
  have x4 := blk_cell HX.out.1 4
  have x5 := blk_cell HX.out.1 5
  have x6 := blk_cell HX.out.1 6
  simp at x0 x1 x2 x3 x4 x5 x6
  go_quiet ((first
    | (go_at_call 32; with_reducible exact Calls.quiet_of_same (HQ.out.1 _))
    | (go_at_call 32; with_reducible exact Calls.quiet_of_same (HQ.out.2.1 _))
    | (go_at_call 33; with_reducible exact Calls.quiet_of_same (HQ.out.2.2 _))))
  obtain ⟨V, hV⟩ : ∃ V, w1.drewN nq = V := ⟨_, rfl⟩
  have kX := blk_drewN HX.out.1 nq
  have kB := pw_below_drewN HX.out.2 nq
  rw [hV] at kX kB ⊢
  clear hV x0 x1 x2 x3 x4 x5 x6
  have HV := Aside0.mk (And.intro kX kB)
  clear kX kB
  have x0 := blk_cell HV.out.1 0
  have x1 := blk_cell HV.out.1 1
  have x2 := blk_cell HV.out.1 2
  have x3 := blk_cell HV.out.1 3
  have x4 := blk_cell HV.out.1 4
  have x5 := blk_cell HV.out.1 5
  have x6 := blk_cell HV.out.1 6
  simp at x0 x1 x2 x3 x4 x5 x6
  go_wp2_with (first
    | (go_at_call 34; (with_reducible refine (J1 _ _).mono ?_); rintro e w2 ⟨rfl, hb2⟩; have H2 := Aside0.mk hb2; clear hb2))
  go_ret2
  exact ⟨by rw [← HF.out]; rfl, HV.out.2.trans (H2.out.mono HV.out.2.size)⟩
set_option maxHeartbeats 16000000 in
set_option maxRecDepth 100000 in
theorem enc_22 (w : World) (h : right ⟨22, false, 0, 0, 0, 0, 0⟩ = true) (ht : Tab w) :
    Calls Tryd.prog 16 #[xv ⟨22, false, 0, 0, 0, 0, 0⟩] w fun e w' => e = .returned (.tuple #[.string (strOfNums (enc ⟨22, false, 0, 0, 0, 0, 0⟩)), .int .i64 0]) ∧ Below w.heap.size w w' := by
  obtain ⟨hr, hb⟩ := right_regs h
  dsimp only at hr hb
  have hR := Aside0.mk (fun W hW => Right ⟨22, false, 0, 0, 0, 0, 0⟩ W hW (show -9223372036854775808 ≤ (0 : Int) ∧ (0 : Int) ≤ 9223372036854775807 by decide))
  have hright := h
  have HF := Aside0.mk (jn_22  h)
  have q1 : ∀ W, Calls Tryd.prog 32 #[.bool false, .int .i64 0, .int .i64 0, .int .i64 0] W fun e w' => e = .returned (.int .i64 (rexI false 0 0 0)) ∧ w' = W := fun W => (Rex false 0 0 0 W hr (by decide) hb).mono fun e w2 h => ⟨h.1, h.2.symm⟩
  have q2 : ∀ W, Calls Tryd.prog 32 #[.bool false, .int .i64 0, .int .i64 0, .int .i64 0] W fun e w' => e = .returned (.int .i64 (rexI false 0 0 0)) ∧ w' = W := fun W => (Rex false 0 0 0 W (by decide) (by decide) hb).mono fun e w2 h => ⟨h.1, h.2.symm⟩
  have q3 : ∀ W, Calls Tryd.prog 33 #[.int .i64 3, .int .i64 0, .int .i64 0] W fun e w' => e = .returned (.int .i64 (mr 3 0 0)) ∧ w' = W := fun W => (Mr 3 0 0 W (by decide)).mono fun e w2 h => ⟨h.1, h.2.symm⟩
  have HQ := Aside0.mk (And.intro q1 (And.intro q2 q3))
  have HT := Aside0.mk ht
  have HR1 := Aside0.mk hright
  clear q1 q2 q3 ht h hright
  have kX0 := blk_new w (xo ⟨22, false, 0, 0, 0, 0, 0⟩)
  go_enter Tryd.func16, Tryd.ntmps16
  go_wp2_with (first
    | (go_at_call 18; (with_reducible refine (hR.out _ (HT.out.below (below_alloc (Below.refl _ _) _))).mono ?_); rw [HR1.out]; rintro e w1 ⟨rfl, hb1⟩; have HX := Aside0.mk (And.intro (blk_below kX0 hb1) ((below_alloc (Below.refl w.heap.size w) _).trans (hb1.mono (by simp)))); clear hb1))
  clear kX0
  have x0 := blk_cell HX.out.1 0
  have x1 := blk_cell HX.out.1 1
  have x2 := blk_cell HX.out.1 2
  have x3 := blk_cell HX.out.1 3
  have x4 := blk_cell HX.out.1 4
  have x5 := blk_cell HX.out.1 5
  have x6 := blk_cell HX.out.1 6
  simp at x0 x1 x2 x3 x4 x5 x6
  go_quiet ((first
    | (go_at_call 32; with_reducible exact Calls.quiet_of_same (HQ.out.1 _))
    | (go_at_call 32; with_reducible exact Calls.quiet_of_same (HQ.out.2.1 _))
    | (go_at_call 33; with_reducible exact Calls.quiet_of_same (HQ.out.2.2 _))))
  obtain ⟨V, hV⟩ : ∃ V, w1.drewN nq = V := ⟨_, rfl⟩
  have kX := blk_drewN HX.out.1 nq
  have kB := pw_below_drewN HX.out.2 nq
  rw [hV] at kX kB ⊢
  clear hV x0 x1 x2 x3 x4 x5 x6
  have HV := Aside0.mk (And.intro kX kB)
  clear kX kB
  have x0 := blk_cell HV.out.1 0
  have x1 := blk_cell HV.out.1 1
  have x2 := blk_cell HV.out.1 2
  have x3 := blk_cell HV.out.1 3
  have x4 := blk_cell HV.out.1 4
  have x5 := blk_cell HV.out.1 5
  have x6 := blk_cell HV.out.1 6
  simp at x0 x1 x2 x3 x4 x5 x6
  go_wp2_with (first
    | (go_at_call 34; (with_reducible refine (J2 _ _ _).mono ?_); rintro e w2 ⟨rfl, hb2⟩; have H2 := Aside0.mk hb2; clear hb2))
  go_ret2
  exact ⟨by rw [← HF.out]; rfl, HV.out.2.trans (H2.out.mono HV.out.2.size)⟩
set_option maxHeartbeats 16000000 in
set_option maxRecDepth 100000 in
theorem enc_23 (w : World) (h : right ⟨23, false, 0, 0, 0, 0, 0⟩ = true) (ht : Tab w) :
    Calls Tryd.prog 16 #[xv ⟨23, false, 0, 0, 0, 0, 0⟩] w fun e w' => e = .returned (.tuple #[.string (strOfNums (enc ⟨23, false, 0, 0, 0, 0, 0⟩)), .int .i64 0]) ∧ Below w.heap.size w w' := by
  obtain ⟨hr, hb⟩ := right_regs h
  dsimp only at hr hb
  have hR := Aside0.mk (fun W hW => Right ⟨23, false, 0, 0, 0, 0, 0⟩ W hW (show -9223372036854775808 ≤ (0 : Int) ∧ (0 : Int) ≤ 9223372036854775807 by decide))
  have hright := h
  have HF := Aside0.mk (jn_23  h)
  have q1 : ∀ W, Calls Tryd.prog 32 #[.bool false, .int .i64 0, .int .i64 0, .int .i64 0] W fun e w' => e = .returned (.int .i64 (rexI false 0 0 0)) ∧ w' = W := fun W => (Rex false 0 0 0 W hr (by decide) hb).mono fun e w2 h => ⟨h.1, h.2.symm⟩
  have q2 : ∀ W, Calls Tryd.prog 32 #[.bool false, .int .i64 0, .int .i64 0, .int .i64 0] W fun e w' => e = .returned (.int .i64 (rexI false 0 0 0)) ∧ w' = W := fun W => (Rex false 0 0 0 W (by decide) (by decide) hb).mono fun e w2 h => ⟨h.1, h.2.symm⟩
  have q3 : ∀ W, Calls Tryd.prog 33 #[.int .i64 3, .int .i64 0, .int .i64 0] W fun e w' => e = .returned (.int .i64 (mr 3 0 0)) ∧ w' = W := fun W => (Mr 3 0 0 W (by decide)).mono fun e w2 h => ⟨h.1, h.2.symm⟩
  have HQ := Aside0.mk (And.intro q1 (And.intro q2 q3))
  have HT := Aside0.mk ht
  have HR1 := Aside0.mk hright
  clear q1 q2 q3 ht h hright
  have kX0 := blk_new w (xo ⟨23, false, 0, 0, 0, 0, 0⟩)
  go_enter Tryd.func16, Tryd.ntmps16
  go_wp2_with (first
    | (go_at_call 18; (with_reducible refine (hR.out _ (HT.out.below (below_alloc (Below.refl _ _) _))).mono ?_); rw [HR1.out]; rintro e w1 ⟨rfl, hb1⟩; have HX := Aside0.mk (And.intro (blk_below kX0 hb1) ((below_alloc (Below.refl w.heap.size w) _).trans (hb1.mono (by simp)))); clear hb1))
  clear kX0
  have x0 := blk_cell HX.out.1 0
  have x1 := blk_cell HX.out.1 1
  have x2 := blk_cell HX.out.1 2
  have x3 := blk_cell HX.out.1 3
  have x4 := blk_cell HX.out.1 4
  have x5 := blk_cell HX.out.1 5
  have x6 := blk_cell HX.out.1 6
  simp at x0 x1 x2 x3 x4 x5 x6
  go_quiet ((first
    | (go_at_call 32; with_reducible exact Calls.quiet_of_same (HQ.out.1 _))
    | (go_at_call 32; with_reducible exact Calls.quiet_of_same (HQ.out.2.1 _))
    | (go_at_call 33; with_reducible exact Calls.quiet_of_same (HQ.out.2.2 _))))
  obtain ⟨V, hV⟩ : ∃ V, w1.drewN nq = V := ⟨_, rfl⟩
  have kX := blk_drewN HX.out.1 nq
  have kB := pw_below_drewN HX.out.2 nq
  rw [hV] at kX kB ⊢
  clear hV x0 x1 x2 x3 x4 x5 x6
  have HV := Aside0.mk (And.intro kX kB)
  clear kX kB
  have x0 := blk_cell HV.out.1 0
  have x1 := blk_cell HV.out.1 1
  have x2 := blk_cell HV.out.1 2
  have x3 := blk_cell HV.out.1 3
  have x4 := blk_cell HV.out.1 4
  have x5 := blk_cell HV.out.1 5
  have x6 := blk_cell HV.out.1 6
  simp at x0 x1 x2 x3 x4 x5 x6
  go_wp2_with (first
    | (go_at_call 34; (with_reducible refine (J1 _ _).mono ?_); rintro e w2 ⟨rfl, hb2⟩; have H2 := Aside0.mk hb2; clear hb2))
  go_ret2
  exact ⟨by rw [← HF.out]; rfl, HV.out.2.trans (H2.out.mono HV.out.2.size)⟩
end Go.Proofs.YtkfinaongajhmaaDoor.X

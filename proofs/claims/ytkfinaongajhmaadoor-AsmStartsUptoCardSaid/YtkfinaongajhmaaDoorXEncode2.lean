/- An instruction's bytes: what the program's function computes, kinds 2, 4, 17, 18, 19. No condition but that the table of conditions holds what the program's text lays, and that numbers are those of the language. -/
import Derived.Test.YtkfinaongajhmaaDoorXEnc
import Derived.BigQuiet
import Derived.Deep.RegionHeld3
namespace Go.Proofs.YtkfinaongajhmaaDoor.X
open Go.Ob Go.Ob.Xc Go.RowKit Go.Proofs.YtkfinaongajhmaaDoorW.PrintWords Go.Proofs.YtkfinaongajhmaaDoorW.PrintMore
attribute [local go_sem] max2_int min2_int max_two min_two
set_option linter.unusedVariables false
set_option linter.unusedSimpArgs false
set_option maxHeartbeats 16000000 in
set_option maxRecDepth 100000 in
theorem enc_2 (r : Int) (n : Int) (w : World) (h : right ⟨2, true, r, 0, 0, 0, n⟩ = true) (ht : Tab w) (hn : -9223372036854775808 ≤ n ∧ n ≤ 9223372036854775807) :
    Calls Tryd.prog 16 #[xv ⟨2, true, r, 0, 0, 0, n⟩] w fun e w' => e = .returned (.tuple #[.string (strOfNums (enc ⟨2, true, r, 0, 0, 0, n⟩)), .int .i64 0]) ∧ Below w.heap.size w w' := by
  obtain ⟨hr, hb⟩ := right_regs h
  dsimp only at hr hb
  have hR := Aside0.mk (fun W hW => Right ⟨2, true, r, 0, 0, 0, n⟩ W hW hn)
  have hright := h
  have HF := Aside0.mk (jn_2 r n h)
  have q1 : ∀ W, Calls Tryd.prog 32 #[.bool true, .int .i64 r, .int .i64 0, .int .i64 0] W fun e w' => e = .returned (.int .i64 (rexI true r 0 0)) ∧ w' = W := fun W => (Rex true r 0 0 W hr (by decide) hb).mono fun e w2 h => ⟨h.1, h.2.symm⟩
  have q2 : ∀ W, Calls Tryd.prog 32 #[.bool true, .int .i64 0, .int .i64 0, .int .i64 0] W fun e w' => e = .returned (.int .i64 (rexI true 0 0 0)) ∧ w' = W := fun W => (Rex true 0 0 0 W (by decide) (by decide) hb).mono fun e w2 h => ⟨h.1, h.2.symm⟩
  have q3 : ∀ W, Calls Tryd.prog 33 #[.int .i64 3, .int .i64 r, .int .i64 0] W fun e w' => e = .returned (.int .i64 (mr 3 r 0)) ∧ w' = W := fun W => (Mr 3 r 0 W (by decide)).mono fun e w2 h => ⟨h.1, h.2.symm⟩
  have HQ := Aside0.mk (And.intro q1 (And.intro q2 q3))
  have HT := Aside0.mk ht
  have b0 : bits .or .i64 184 (bits .and .i64 r 7) = 184 + r % 8 := or_184 r
  have HBit := Aside0.mk b0
  clear b0
  have HR1 := Aside0.mk hright
  clear q1 q2 q3 ht h hright
  have kX0 := blk_new w (xo ⟨2, true, r, 0, 0, 0, n⟩)
  go_enter Tryd.func16, Tryd.ntmps16
  go_wp2_with (first
    | (go_at_call 18; (with_reducible refine (hR.out _ (HT.out.below (below_alloc (Below.refl _ _) _))).mono ?_); rw [HR1.out]; rintro e w1 ⟨rfl, hb1⟩; have HX := Aside0.mk (And.intro (blk_below kX0 hb1) ((below_alloc (Below.refl w.heap.size w) _).trans (hb1.mono (by simp)))); clear hb1))
  clear kX0
  have x0 := blk_cell HX.out.1 0
  have x1 := blk_cell HX.out.1 1
  have x2 := blk_cell HX.out.1 2
  have x3 := blk_cell HX.out.1 3
  have x4 := blk_cell HX.out.1 4
  have x5 := blk_cell HX.out.1 5
  have x6 := blk_cell HX.out.1 6
  simp at x0 x1 x2 x3 x4 x5 x6
  go_quiet ((first
    | (go_at_call 32; with_reducible exact Calls.quiet_of_same (HQ.out.1 _))
    | (go_at_call 32; with_reducible exact Calls.quiet_of_same (HQ.out.2.1 _))
    | (go_at_call 33; with_reducible exact Calls.quiet_of_same (HQ.out.2.2 _))))
  obtain ⟨V, hV⟩ : ∃ V, w1.drewN nq = V := ⟨_, rfl⟩
  have kX := blk_drewN HX.out.1 nq
  have kB := pw_below_drewN HX.out.2 nq
  rw [hV] at kX kB ⊢
  clear hV x0 x1 x2 x3 x4 x5 x6
  have HV := Aside0.mk (And.intro kX kB)
  clear kX kB
  have x0 := blk_cell HV.out.1 0
  have x1 := blk_cell HV.out.1 1
  have x2 := blk_cell HV.out.1 2
  have x3 := blk_cell HV.out.1 3
  have x4 := blk_cell HV.out.1 4
  have x5 := blk_cell HV.out.1 5
  have x6 := blk_cell HV.out.1 6
  simp at x0 x1 x2 x3 x4 x5 x6
  have hbit := HBit.out
  have hsum := fun W => run_string_add_sum (P := Tryd.prog) W (strOfNums (jn [rexI true 0 0 r, 184 + r % 8])) (strOfNums (le8 n)) (by rw [strOfNums_size, strOfNums_size]; have := jn_length [rexI true 0 0 r, 184 + r % 8]; simp [le4, le8] at this ⊢; omega)
  have hfin : strOfNums (jn [rexI true 0 0 r, 184 + r % 8]) ++ strOfNums (le8 n) = strOfNums (enc ⟨2, true, r, 0, 0, 0, n⟩) := by rw [← str_append, HF.out]
  rw [hfin] at hsum
  have HS := Aside0.mk hsum
  clear hsum hfin
  go_wp2_with fail
  have hs := HS.out
  have hx : BX ⟨2, true, r, 0, 0, 0, n⟩ w V := HV.out
  have hxs := hx.cells
  go_region_held3 (fun wr => SX ⟨2, true, r, 0, 0, 0, n⟩ w wr) ((refine BX.cells ?_; (with_reducible repeat (first | assumption | refine BX.drew ?_ | refine BX.alloc ?_ _ | refine BX.below ?_ (by assumption)))))
    (first
      | (go_at_call 32; (with_reducible refine (Rex true 0 0 r _ (by decide) (by decide) (by omega)).mono ?_); rintro e w3 ⟨rfl, rfl⟩)
      | (go_at_call 34; refine (J2d _ _ _).mono ?_; rintro e w2 ⟨rfl, hb2⟩)
      | (go_at_call 35; refine (Number8 n _ hn).mono ?_; rintro e w4 ⟨rfl, hb4⟩))
  go_wp2
  go_ret2
  exact ⟨rfl, SX.all (by assumption)⟩
set_option maxHeartbeats 16000000 in
set_option maxRecDepth 100000 in
theorem enc_4 (wd : Bool) (b : Int) (c : Int) (n : Int) (w : World) (h : right ⟨4, wd, 0, b, 0, c, n⟩ = true) (ht : Tab w) (hn : -9223372036854775808 ≤ n ∧ n ≤ 9223372036854775807) :
    Calls Tryd.prog 16 #[xv ⟨4, wd, 0, b, 0, c, n⟩] w fun e w' => e = .returned (.tuple #[.string (strOfNums (enc ⟨4, wd, 0, b, 0, c, n⟩)), .int .i64 0]) ∧ Below w.heap.size w w' := by
  obtain ⟨hr, hb⟩ := right_regs h
  dsimp only at hr hb
  have hR := Aside0.mk (fun W hW => Right ⟨4, wd, 0, b, 0, c, n⟩ W hW hn)
  have hright := h
  have hc : 0 ≤ c ∧ c ≤ 15 := by
    have := right_cases h
    dsimp only at this
    rcases this with ⟨h0, h1⟩ | ⟨h0, h1⟩ | ⟨h0, h1⟩ | ⟨h0, h1⟩ | ⟨h0, h1⟩ | ⟨h0, h1⟩ | ⟨h0, h1⟩ | ⟨h0, h1⟩ | ⟨h0, h1⟩ | ⟨h0, h1⟩ | ⟨h0, h1⟩ | ⟨h0, h1⟩ | ⟨h0, h1⟩ | ⟨h0, h1⟩
    all_goals first | omega | (have := alu_of h1.2.1; omega) | (have := alu_of h1.2.2.1; omega) | (have := shf_of h1.2.1; omega) | (have := cnd_of h1.2.2.1; omega) | (have := cnd_of h1.1; omega)
  have HF := Aside0.mk (jn_4 wd b c n h)
  have q1 : ∀ W, Calls Tryd.prog 32 #[.bool wd, .int .i64 0, .int .i64 0, .int .i64 b] W fun e w' => e = .returned (.int .i64 (rexI wd 0 0 b)) ∧ w' = W := fun W => (Rex wd 0 0 b W hr (by decide) hb).mono fun e w2 h => ⟨h.1, h.2.symm⟩
  have q2 : ∀ W, Calls Tryd.prog 32 #[.bool wd, .int .i64 0, .int .i64 0, .int .i64 b] W fun e w' => e = .returned (.int .i64 (rexI wd 0 0 b)) ∧ w' = W := fun W => (Rex wd 0 0 b W (by decide) (by decide) hb).mono fun e w2 h => ⟨h.1, h.2.symm⟩
  have q3 : ∀ W, Calls Tryd.prog 33 #[.int .i64 3, .int .i64 0, .int .i64 b] W fun e w' => e = .returned (.int .i64 (mr 3 0 b)) ∧ w' = W := fun W => (Mr 3 0 b W (by decide)).mono fun e w2 h => ⟨h.1, h.2.symm⟩
  have HQ := Aside0.mk (And.intro q1 (And.intro q2 q3))
  have HT := Aside0.mk ht
  have HR1 := Aside0.mk hright
  clear q1 q2 q3 ht h hright
  have kX0 := blk_new w (xo ⟨4, wd, 0, b, 0, c, n⟩)
  go_enter Tryd.func16, Tryd.ntmps16
  go_wp2_with (first
    | (go_at_call 18; (with_reducible refine (hR.out _ (HT.out.below (below_alloc (Below.refl _ _) _))).mono ?_); rw [HR1.out]; rintro e w1 ⟨rfl, hb1⟩; have HX := Aside0.mk (And.intro (blk_below kX0 hb1) ((below_alloc (Below.refl w.heap.size w) _).trans (hb1.mono (by simp)))); clear hb1))
  clear kX0
  have x0 := blk_cell HX.out.1 0
  have x1 := blk_cell HX.out.1 1
  have x2 := blk_cell HX.out.1 2
  have x3 := blk_cell HX.out.1 3
  have x4 := blk_cell HX.out.1 4
  have x5 := blk_cell HX.out.1 5
  have x6 := blk_cell HX.out.1 6
  simp at x0 x1 x2 x3 x4 x5 x6
  go_quiet ((first
    | (go_at_call 32; with_reducible exact Calls.quiet_of_same (HQ.out.1 _))
    | (go_at_call 32; with_reducible exact Calls.quiet_of_same (HQ.out.2.1 _))
    | (go_at_call 33; with_reducible exact Calls.quiet_of_same (HQ.out.2.2 _))))
  obtain ⟨V, hV⟩ : ∃ V, w1.drewN nq = V := ⟨_, rfl⟩
  have kX := blk_drewN HX.out.1 nq
  have kB := pw_below_drewN HX.out.2 nq
  rw [hV] at kX kB ⊢
  clear hV x0 x1 x2 x3 x4 x5 x6
  have HV := Aside0.mk (And.intro kX kB)
  clear kX kB
  have x0 := blk_cell HV.out.1 0
  have x1 := blk_cell HV.out.1 1
  have x2 := blk_cell HV.out.1 2
  have x3 := blk_cell HV.out.1 3
  have x4 := blk_cell HV.out.1 4
  have x5 := blk_cell HV.out.1 5
  have x6 := blk_cell HV.out.1 6
  simp at x0 x1 x2 x3 x4 x5 x6
  have hsum := fun W => run_string_add_sum (P := Tryd.prog) W (strOfNums (jn [rexI wd 0 0 b, 129, mr 3 c b])) (strOfNums (le4 n)) (by rw [strOfNums_size, strOfNums_size]; have := jn_length [rexI wd 0 0 b, 129, mr 3 c b]; simp [le4, le8] at this ⊢; omega)
  have hfin : strOfNums (jn [rexI wd 0 0 b, 129, mr 3 c b]) ++ strOfNums (le4 n) = strOfNums (enc ⟨4, wd, 0, b, 0, c, n⟩) := by rw [← str_append, HF.out]
  rw [hfin] at hsum
  have HS := Aside0.mk hsum
  clear hsum hfin
  go_wp2_with fail
  have hs := HS.out
  have hx : BX ⟨4, wd, 0, b, 0, c, n⟩ w V := HV.out
  have hxs := hx.cells
  go_region_held3 (fun wr => SX ⟨4, wd, 0, b, 0, c, n⟩ w wr) ((refine BX.cells ?_; (with_reducible repeat (first | assumption | refine BX.drew ?_ | refine BX.alloc ?_ _ | refine BX.below ?_ (by assumption)))))
    (first
      | (go_at_call 33; (with_reducible refine (Mr 3 c b _ (by decide)).mono ?_); rintro e w3 ⟨rfl, rfl⟩)
      | (go_at_call 34; refine (J3d _ _ _ _).mono ?_; rintro e w2 ⟨rfl, hb2⟩)
      | (go_at_call 35; refine (Number4 n _ hn).mono ?_; rintro e w4 ⟨rfl, hb4⟩))
  go_wp2
  go_ret2
  exact ⟨rfl, SX.all (by assumption)⟩
set_option maxHeartbeats 16000000 in
set_option maxRecDepth 100000 in
theorem enc_17 (n : Int) (w : World) (h : right ⟨17, false, 0, 0, 0, 0, n⟩ = true) (ht : Tab w) (hn : -9223372036854775808 ≤ n ∧ n ≤ 9223372036854775807) :
    Calls Tryd.prog 16 #[xv ⟨17, false, 0, 0, 0, 0, n⟩] w fun e w' => e = .returned (.tuple #[.string (strOfNums (enc ⟨17, false, 0, 0, 0, 0, n⟩)), .int .i64 0]) ∧ Below w.heap.size w w' := by
  obtain ⟨hr, hb⟩ := right_regs h
  dsimp only at hr hb
  have hR := Aside0.mk (fun W hW => Right ⟨17, false, 0, 0, 0, 0, n⟩ W hW hn)
  have hright := h
  have HF := Aside0.mk (jn_17 n h)
  have q1 : ∀ W, Calls Tryd.prog 32 #[.bool false, .int .i64 0, .int .i64 0, .int .i64 0] W fun e w' => e = .returned (.int .i64 (rexI false 0 0 0)) ∧ w' = W := fun W => (Rex false 0 0 0 W hr (by decide) hb).mono fun e w2 h => ⟨h.1, h.2.symm⟩
  have q2 : ∀ W, Calls Tryd.prog 32 #[.bool false, .int .i64 0, .int .i64 0, .int .i64 0] W fun e w' => e = .returned (.int .i64 (rexI false 0 0 0)) ∧ w' = W := fun W => (Rex false 0 0 0 W (by decide) (by decide) hb).mono fun e w2 h => ⟨h.1, h.2.symm⟩
  have q3 : ∀ W, Calls Tryd.prog 33 #[.int .i64 3, .int .i64 0, .int .i64 0] W fun e w' => e = .returned (.int .i64 (mr 3 0 0)) ∧ w' = W := fun W => (Mr 3 0 0 W (by decide)).mono fun e w2 h => ⟨h.1, h.2.symm⟩
  have HQ := Aside0.mk (And.intro q1 (And.intro q2 q3))
  have HT := Aside0.mk ht
  have HR1 := Aside0.mk hright
  clear q1 q2 q3 ht h hright
  have kX0 := blk_new w (xo ⟨17, false, 0, 0, 0, 0, n⟩)
  go_enter Tryd.func16, Tryd.ntmps16
  go_wp2_with (first
    | (go_at_call 18; (with_reducible refine (hR.out _ (HT.out.below (below_alloc (Below.refl _ _) _))).mono ?_); rw [HR1.out]; rintro e w1 ⟨rfl, hb1⟩; have HX := Aside0.mk (And.intro (blk_below kX0 hb1) ((below_alloc (Below.refl w.heap.size w) _).trans (hb1.mono (by simp)))); clear hb1))
  clear kX0
  have x0 := blk_cell HX.out.1 0
  have x1 := blk_cell HX.out.1 1
  have x2 := blk_cell HX.out.1 2
  have x3 := blk_cell HX.out.1 3
  have x4 := blk_cell HX.out.1 4
  have x5 := blk_cell HX.out.1 5
  have x6 := blk_cell HX.out.1 6
  simp at x0 x1 x2 x3 x4 x5 x6
  go_quiet ((first
    | (go_at_call 32; with_reducible exact Calls.quiet_of_same (HQ.out.1 _))
    | (go_at_call 32; with_reducible exact Calls.quiet_of_same (HQ.out.2.1 _))
    | (go_at_call 33; with_reducible exact Calls.quiet_of_same (HQ.out.2.2 _))))
  obtain ⟨V, hV⟩ : ∃ V, w1.drewN nq = V := ⟨_, rfl⟩
  have kX := blk_drewN HX.out.1 nq
  have kB := pw_below_drewN HX.out.2 nq
  rw [hV] at kX kB ⊢
  clear hV x0 x1 x2 x3 x4 x5 x6
  have HV := Aside0.mk (And.intro kX kB)
  clear kX kB
  have x0 := blk_cell HV.out.1 0
  have x1 := blk_cell HV.out.1 1
  have x2 := blk_cell HV.out.1 2
  have x3 := blk_cell HV.out.1 3
  have x4 := blk_cell HV.out.1 4
  have x5 := blk_cell HV.out.1 5
  have x6 := blk_cell HV.out.1 6
  simp at x0 x1 x2 x3 x4 x5 x6
  have hsum := fun W => run_string_add_sum (P := Tryd.prog) W (strOfNums (jn [233])) (strOfNums (le4 n)) (by rw [strOfNums_size, strOfNums_size]; have := jn_length [233]; simp [le4, le8] at this ⊢; omega)
  have hfin : strOfNums (jn [233]) ++ strOfNums (le4 n) = strOfNums (enc ⟨17, false, 0, 0, 0, 0, n⟩) := by rw [← str_append, HF.out]
  rw [hfin] at hsum
  have HS := Aside0.mk hsum
  clear hsum hfin
  go_wp2_with fail
  have hs := HS.out
  have hx : BX ⟨17, false, 0, 0, 0, 0, n⟩ w V := HV.out
  have hxs := hx.cells
  go_region_held3 (fun wr => SX ⟨17, false, 0, 0, 0, 0, n⟩ w wr) ((refine BX.cells ?_; (with_reducible repeat (first | assumption | refine BX.drew ?_ | refine BX.alloc ?_ _ | refine BX.below ?_ (by assumption)))))
    (first
      | (go_at_call 34; refine (J1d _ _).mono ?_; rintro e w2 ⟨rfl, hb2⟩)
      | (go_at_call 35; refine (Number4 n _ hn).mono ?_; rintro e w4 ⟨rfl, hb4⟩))
  go_wp2
  go_ret2
  exact ⟨rfl, SX.all (by assumption)⟩
set_option maxHeartbeats 16000000 in
set_option maxRecDepth 100000 in
theorem enc_18 (c : Int) (n : Int) (w : World) (h : right ⟨18, false, 0, 0, 0, c, n⟩ = true) (ht : Tab w) (hn : -9223372036854775808 ≤ n ∧ n ≤ 9223372036854775807) :
    Calls Tryd.prog 16 #[xv ⟨18, false, 0, 0, 0, c, n⟩] w fun e w' => e = .returned (.tuple #[.string (strOfNums (enc ⟨18, false, 0, 0, 0, c, n⟩)), .int .i64 0]) ∧ Below w.heap.size w w' := by
  obtain ⟨hr, hb⟩ := right_regs h
  dsimp only at hr hb
  have hR := Aside0.mk (fun W hW => Right ⟨18, false, 0, 0, 0, c, n⟩ W hW hn)
  have hright := h
  have hc : 0 ≤ c ∧ c ≤ 15 := by
    have := right_cases h
    dsimp only at this
    rcases this with ⟨h0, h1⟩ | ⟨h0, h1⟩ | ⟨h0, h1⟩ | ⟨h0, h1⟩ | ⟨h0, h1⟩ | ⟨h0, h1⟩ | ⟨h0, h1⟩ | ⟨h0, h1⟩ | ⟨h0, h1⟩ | ⟨h0, h1⟩ | ⟨h0, h1⟩ | ⟨h0, h1⟩ | ⟨h0, h1⟩ | ⟨h0, h1⟩
    all_goals first | omega | (have := alu_of h1.2.1; omega) | (have := alu_of h1.2.2.1; omega) | (have := shf_of h1.2.1; omega) | (have := cnd_of h1.2.2.1; omega) | (have := cnd_of h1.1; omega)
  have HF := Aside0.mk (jn_18 c n h)
  have q1 : ∀ W, Calls Tryd.prog 32 #[.bool false, .int .i64 0, .int .i64 0, .int .i64 0] W fun e w' => e = .returned (.int .i64 (rexI false 0 0 0)) ∧ w' = W := fun W => (Rex false 0 0 0 W hr (by decide) hb).mono fun e w2 h => ⟨h.1, h.2.symm⟩
  have q2 : ∀ W, Calls Tryd.prog 32 #[.bool false, .int .i64 0, .int .i64 0, .int .i64 0] W fun e w' => e = .returned (.int .i64 (rexI false 0 0 0)) ∧ w' = W := fun W => (Rex false 0 0 0 W (by decide) (by decide) hb).mono fun e w2 h => ⟨h.1, h.2.symm⟩
  have q3 : ∀ W, Calls Tryd.prog 33 #[.int .i64 3, .int .i64 0, .int .i64 0] W fun e w' => e = .returned (.int .i64 (mr 3 0 0)) ∧ w' = W := fun W => (Mr 3 0 0 W (by decide)).mono fun e w2 h => ⟨h.1, h.2.symm⟩
  have HQ := Aside0.mk (And.intro q1 (And.intro q2 q3))
  have HT := Aside0.mk ht
  have b0 : bits .or .i64 128 c = 128 + c := or_hi 128 c (by decide) (by omega) (by omega)
  have HBit := Aside0.mk b0
  clear b0
  have HR1 := Aside0.mk hright
  clear q1 q2 q3 ht h hright
  have kX0 := blk_new w (xo ⟨18, false, 0, 0, 0, c, n⟩)
  go_enter Tryd.func16, Tryd.ntmps16
  go_wp2_with (first
    | (go_at_call 18; (with_reducible refine (hR.out _ (HT.out.below (below_alloc (Below.refl _ _) _))).mono ?_); rw [HR1.out]; rintro e w1 ⟨rfl, hb1⟩; have HX := Aside0.mk (And.intro (blk_below kX0 hb1) ((below_alloc (Below.refl w.heap.size w) _).trans (hb1.mono (by simp)))); clear hb1))
  clear kX0
  have x0 := blk_cell HX.out.1 0
  have x1 := blk_cell HX.out.1 1
  have x2 := blk_cell HX.out.1 2
  have x3 := blk_cell HX.out.1 3
  have x4 := blk_cell HX.out.1 4
  have x5 := blk_cell HX.out.1 5
  have x6 := blk_cell HX.out.1 6
  simp at x0 x1 x2 x3 x4 x5 x6
  go_quiet ((first
    | (go_at_call 32; with_reducible exact Calls.quiet_of_same (HQ.out.1 _))
    | (go_at_call 32; with_reducible exact Calls.quiet_of_same (HQ.out.2.1 _))
    | (go_at_call 33; with_reducible exact Calls.quiet_of_same (HQ.out.2.2 _))))
  obtain ⟨V, hV⟩ : ∃ V, w1.drewN nq = V := ⟨_, rfl⟩
  have kX := blk_drewN HX.out.1 nq
  have kB := pw_below_drewN HX.out.2 nq
  rw [hV] at kX kB ⊢
  clear hV x0 x1 x2 x3 x4 x5 x6
  have HV := Aside0.mk (And.intro kX kB)
  clear kX kB
  have x0 := blk_cell HV.out.1 0
  have x1 := blk_cell HV.out.1 1
  have x2 := blk_cell HV.out.1 2
  have x3 := blk_cell HV.out.1 3
  have x4 := blk_cell HV.out.1 4
  have x5 := blk_cell HV.out.1 5
  have x6 := blk_cell HV.out.1 6
  simp at x0 x1 x2 x3 x4 x5 x6
  have hbit := HBit.out
  have hsum := fun W => run_string_add_sum (P := Tryd.prog) W (strOfNums (jn [15, 128 + c])) (strOfNums (le4 n)) (by rw [strOfNums_size, strOfNums_size]; have := jn_length [15, 128 + c]; simp [le4, le8] at this ⊢; omega)
  have hfin : strOfNums (jn [15, 128 + c]) ++ strOfNums (le4 n) = strOfNums (enc ⟨18, false, 0, 0, 0, c, n⟩) := by rw [← str_append, HF.out]
  rw [hfin] at hsum
  have HS := Aside0.mk hsum
  clear hsum hfin
  go_wp2_with fail
  have hs := HS.out
  have hx : BX ⟨18, false, 0, 0, 0, c, n⟩ w V := HV.out
  have hxs := hx.cells
  go_region_held3 (fun wr => SX ⟨18, false, 0, 0, 0, c, n⟩ w wr) ((refine BX.cells ?_; (with_reducible repeat (first | assumption | refine BX.drew ?_ | refine BX.alloc ?_ _ | refine BX.below ?_ (by assumption)))))
    (first
      | (go_at_call 34; refine (J2d _ _ _).mono ?_; rintro e w2 ⟨rfl, hb2⟩)
      | (go_at_call 35; refine (Number4 n _ hn).mono ?_; rintro e w4 ⟨rfl, hb4⟩))
  go_wp2
  go_ret2
  exact ⟨rfl, SX.all (by assumption)⟩
set_option maxHeartbeats 16000000 in
set_option maxRecDepth 100000 in
theorem enc_19 (n : Int) (w : World) (h : right ⟨19, false, 0, 0, 0, 0, n⟩ = true) (ht : Tab w) (hn : -9223372036854775808 ≤ n ∧ n ≤ 9223372036854775807) :
    Calls Tryd.prog 16 #[xv ⟨19, false, 0, 0, 0, 0, n⟩] w fun e w' => e = .returned (.tuple #[.string (strOfNums (enc ⟨19, false, 0, 0, 0, 0, n⟩)), .int .i64 0]) ∧ Below w.heap.size w w' := by
  obtain ⟨hr, hb⟩ := right_regs h
  dsimp only at hr hb
  have hR := Aside0.mk (fun W hW => Right ⟨19, false, 0, 0, 0, 0, n⟩ W hW hn)
  have hright := h
  have HF := Aside0.mk (jn_19 n h)
  have q1 : ∀ W, Calls Tryd.prog 32 #[.bool false, .int .i64 0, .int .i64 0, .int .i64 0] W fun e w' => e = .returned (.int .i64 (rexI false 0 0 0)) ∧ w' = W := fun W => (Rex false 0 0 0 W hr (by decide) hb).mono fun e w2 h => ⟨h.1, h.2.symm⟩
  have q2 : ∀ W, Calls Tryd.prog 32 #[.bool false, .int .i64 0, .int .i64 0, .int .i64 0] W fun e w' => e = .returned (.int .i64 (rexI false 0 0 0)) ∧ w' = W := fun W => (Rex false 0 0 0 W (by decide) (by decide) hb).mono fun e w2 h => ⟨h.1, h.2.symm⟩
  have q3 : ∀ W, Calls Tryd.prog 33 #[.int .i64 3, .int .i64 0, .int .i64 0] W fun e w' => e = .returned (.int .i64 (mr 3 0 0)) ∧ w' = W := fun W => (Mr 3 0 0 W (by decide)).mono fun e w2 h => ⟨h.1, h.2.symm⟩
  have HQ := Aside0.mk (And.intro q1 (And.intro q2 q3))
  have HT := Aside0.mk ht
  have HR1 := Aside0.mk hright
  clear q1 q2 q3 ht h hright
  have kX0 := blk_new w (xo ⟨19, false, 0, 0, 0, 0, n⟩)
  go_enter Tryd.func16, Tryd.ntmps16
  go_wp2_with (first
    | (go_at_call 18; (with_reducible refine (hR.out _ (HT.out.below (below_alloc (Below.refl _ _) _))).mono ?_); rw [HR1.out]; rintro e w1 ⟨rfl, hb1⟩; have HX := Aside0.mk (And.intro (blk_below kX0 hb1) ((below_alloc (Below.refl w.heap.size w) _).trans (hb1.mono (by simp)))); clear hb1))
  clear kX0
  have x0 := blk_cell HX.out.1 0
  have x1 := blk_cell HX.out.1 1
  have x2 := blk_cell HX.out.1 2
  have x3 := blk_cell HX.out.1 3
  have x4 := blk_cell HX.out.1 4
  have x5 := blk_cell HX.out.1 5
  have x6 := blk_cell HX.out.1 6
  simp at x0 x1 x2 x3 x4 x5 x6
  go_quiet ((first
    | (go_at_call 32; with_reducible exact Calls.quiet_of_same (HQ.out.1 _))
    | (go_at_call 32; with_reducible exact Calls.quiet_of_same (HQ.out.2.1 _))
    | (go_at_call 33; with_reducible exact Calls.quiet_of_same (HQ.out.2.2 _))))
  obtain ⟨V, hV⟩ : ∃ V, w1.drewN nq = V := ⟨_, rfl⟩
  have kX := blk_drewN HX.out.1 nq
  have kB := pw_below_drewN HX.out.2 nq
  rw [hV] at kX kB ⊢
  clear hV x0 x1 x2 x3 x4 x5 x6
  have HV := Aside0.mk (And.intro kX kB)
  clear kX kB
  have x0 := blk_cell HV.out.1 0
  have x1 := blk_cell HV.out.1 1
  have x2 := blk_cell HV.out.1 2
  have x3 := blk_cell HV.out.1 3
  have x4 := blk_cell HV.out.1 4
  have x5 := blk_cell HV.out.1 5
  have x6 := blk_cell HV.out.1 6
  simp at x0 x1 x2 x3 x4 x5 x6
  have hsum := fun W => run_string_add_sum (P := Tryd.prog) W (strOfNums (jn [232])) (strOfNums (le4 n)) (by rw [strOfNums_size, strOfNums_size]; have := jn_length [232]; simp [le4, le8] at this ⊢; omega)
  have hfin : strOfNums (jn [232]) ++ strOfNums (le4 n) = strOfNums (enc ⟨19, false, 0, 0, 0, 0, n⟩) := by rw [← str_append, HF.out]
  rw [hfin] at hsum
  have HS := Aside0.mk hsum
  clear hsum hfin
  go_wp2_with fail
  have hs := HS.out
  have hx : BX ⟨19, false, 0, 0, 0, 0, n⟩ w V := HV.out
  have hxs := hx.cells
  go_region_held3 (fun wr => SX ⟨19, false, 0, 0, 0, 0, n⟩ w wr) ((refine BX.cells ?_; (with_reducible repeat (first | assumption | refine BX.drew ?_ | refine BX.alloc ?_ _ | refine BX.below ?_ (by assumption)))))
    (first
      | (go_at_call 34; refine (J1d _ _).mono ?_; rintro e w2 ⟨rfl, hb2⟩)
      | (go_at_call 35; refine (Number4 n _ hn).mono ?_; rintro e w4 ⟨rfl, hb4⟩))
  go_wp2
  go_ret2
  exact ⟨rfl, SX.all (by assumption)⟩
end Go.Proofs.YtkfinaongajhmaaDoor.X

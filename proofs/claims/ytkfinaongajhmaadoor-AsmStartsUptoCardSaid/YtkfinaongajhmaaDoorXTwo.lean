/- The instructions behind 0F, and those of one byte: what the program's readers compute. No condition but lengths. -/
import Derived.Test.YtkfinaongajhmaaDoorXDec
namespace Go.Proofs.YtkfinaongajhmaaDoor.X
open Go.Ob Go.Ob.Xc Go.RowKit Go.Proofs.YtkfinaongajhmaaDoorW.PrintWords Go.Proofs.YtkfinaongajhmaaDoorW.PrintMore
attribute [local go_sem] max2_int min2_int max_two min_two
set_option linter.unusedVariables false
set_option linter.unusedSimpArgs false
theorem and15 (a : Int) : Go.bits .and .i64 a 15 = a % 16 := by
  have hm := and_mask a 4 (by decide)
  rwa [show ((2 : Int) ^ 4 - 1) = 15 by decide, show ((2 : Int) ^ 4) = 16 by decide] at hm
theorem and7 (a : Int) : Go.bits .and .i64 a 7 = a % 8 := by
  have hm := and_mask a 3 (by decide)
  rwa [show ((2 : Int) ^ 3 - 1) = 7 by decide, show ((2 : Int) ^ 3) = 8 by decide] at hm
theorem below_own {w W : World} (h : Below w.heap.size w W) (j : Nat) (u : Value) : Below w.heap.size w (W.setCell ⟨w.heap.size, j, none⟩ u) := h.setCell (Nat.le_refl _) u
set_option maxHeartbeats 16000000 in
set_option maxRecDepth 100000 in
theorem Two (s : ByteArray) (r i m : Int) (g : Nat) (wd : Bool) (w : World) (hs : s.size ≤ 281474976710656) (hr : r = 0 ∨ r = 8) (hm : m = 0 ∨ m = 8) (hg : w.heap[g]? = some (co s r i m)) :
    Calls Tryd.prog 47 #[.pointer (some ⟨g, 0, none⟩), .bool wd] w fun e w' => e = .returned (xv (two (bl s) wd r m)) ∧ Below w.heap.size w w' := by
  have A1 : ∀ W, W.heap[g]? = some (co s r i m) → Calls Tryd.prog 46 #[.pointer (some ⟨g, 0, none⟩), .int .i64 1] W fun e w' => e = .returned (.int .i64 (at0 (bl s) 1)) ∧ W = w' := fun W h => At s r i m g 1 W (by decide) hs h
  have R2 : ∀ W, W.heap[g]? = some (co s r i m) → Calls Tryd.prog 62 #[.pointer (some ⟨g, 0, none⟩), .int .i64 2] W fun e w' => e = .returned (.int .i64 (rg (bl s) 2 r)) ∧ ∃ n, w' = W.drewN n := fun W h => RegAt s r i m g 2 W (by decide) hs hr h
  have L2 : ∀ W, W.heap[g]? = some (co s r i m) → Calls Tryd.prog 63 #[.pointer (some ⟨g, 0, none⟩), .int .i64 2] W fun e w' => e = .returned (.int .i64 (lw (bl s) 2 m)) ∧ ∃ n, w' = W.drewN n := fun W h => LowAt s r i m g 2 W (by decide) hs hm h
  have S2 : ∀ W, W.heap[g]? = some (co s r i m) → Calls Tryd.prog 64 #[.pointer (some ⟨g, 0, none⟩), .int .i64 2, .int .i64 4] W fun e w' => e = .returned (.int .i64 (sg4 (bl s) 2)) ∧ W = w' := fun W h => Signed4 s r i m g 2 W (by decide) hs h
  have hb := at0_bd s 1
  have HC := Aside0.mk (And.intro A1 (And.intro R2 (And.intro L2 S2)))
  have HG := Aside0.mk hg
  have q15 := and15 (at0 (bl s) 1)
  clear A1 R2 L2 S2 hg hr hm
  unfold two
  generalize at0 (bl s) 1 = a at *
  generalize rg (bl s) 2 r = x at *
  generalize lw (bl s) 2 m = y at *
  generalize sg4 (bl s) 2 = v at *
  have HQ := Aside0.mk q15
  clear q15
  obtain ⟨hb0, hb1⟩ := hb
  have cs : a = 175 ∨ a = 182 ∨ a = 11 ∨ (a / 16 = 9) ∨ (a / 16 = 8) ∨ (a / 16 = 4) ∨ (¬ a = 175 ∧ ¬ a = 182 ∧ ¬ a = 11 ∧ ¬ a / 16 = 9 ∧ ¬ a / 16 = 8 ∧ ¬ a / 16 = 4) := by omega
  rcases cs with rfl | rfl | rfl | h | h | h | ⟨h1, h2, h3, h4, h5, h6⟩
  · rw [if_pos rfl]
    go_enter Tryd.func47, Tryd.ntmps47
    go_wp2_with (first
      | (go_at_call 46; (with_reducible refine (HC.out.1 _ (blk_alloc HG.out _)).mono ?_); rintro e w1 ⟨rfl, rfl⟩)
      | (go_at_call 62; (with_reducible refine (HC.out.2.1 _ (blk_alloc HG.out _)).mono ?_); rintro e w1 ⟨rfl, n1, rfl⟩)
      | (go_at_call 63; (with_reducible refine (HC.out.2.2.1 _ (blk_drewN (blk_alloc HG.out _) _)).mono ?_); rintro e w1 ⟨rfl, n2, rfl⟩))
    exact bodyPost_ret (v := xv ⟨6, wd, x, y, 0, 0, 0⟩) (by simp [results, Tryd.results47, go_sem]) rfl ⟨rfl, by repeat (first | with_reducible exact Below.refl _ _ | with_reducible refine below_own ?_ _ _ | with_reducible refine below_alloc ?_ _ | with_reducible refine pw_below_drewN ?_ _)⟩
  · rw [if_neg (by decide), if_pos rfl]
    go_enter Tryd.func47, Tryd.ntmps47
    go_wp2_with (first
      | (go_at_call 46; (with_reducible refine (HC.out.1 _ (blk_alloc HG.out _)).mono ?_); rintro e w1 ⟨rfl, rfl⟩))
    exact bodyPost_ret (v := xv ⟨14, wd, 0, 0, 0, 0, 0⟩) (by simp [results, Tryd.results47, go_sem]) rfl ⟨rfl, by repeat (first | with_reducible exact Below.refl _ _ | with_reducible refine below_own ?_ _ _ | with_reducible refine below_alloc ?_ _ | with_reducible refine pw_below_drewN ?_ _)⟩
  · rw [if_neg (by decide), if_neg (by decide), if_pos rfl]
    go_enter Tryd.func47, Tryd.ntmps47
    go_wp2_with (first
      | (go_at_call 46; (with_reducible refine (HC.out.1 _ (blk_alloc HG.out _)).mono ?_); rintro e w1 ⟨rfl, rfl⟩))
    exact bodyPost_ret (v := xv ⟨22, wd, 0, 0, 0, 0, 0⟩) (by simp [results, Tryd.results47, go_sem]) rfl ⟨rfl, by repeat (first | with_reducible exact Below.refl _ _ | with_reducible refine below_own ?_ _ _ | with_reducible refine below_alloc ?_ _ | with_reducible refine pw_below_drewN ?_ _)⟩
  · rw [if_neg (by omega), if_neg (by omega), if_neg (by omega), if_pos (by omega)]
    have e175 : (a == 175) = false := beq_eq_false_iff_ne.mpr (by omega)
    have e182 : (a == 182) = false := beq_eq_false_iff_ne.mpr (by omega)
    have e11 : (a == 11) = false := beq_eq_false_iff_ne.mpr (by omega)
    have d9 : (a / 16 == 9) = true := beq_iff_eq.mpr (by omega)
    have q := HQ.out
    clear h
    go_enter Tryd.func47, Tryd.ntmps47
    go_wp2_with (first
      | (go_at_call 46; (with_reducible refine (HC.out.1 _ (blk_alloc HG.out _)).mono ?_); rintro e w1 ⟨rfl, rfl⟩))
    exact bodyPost_ret (v := xv ⟨13, wd, 0, 0, 0, a % 16, 0⟩) (by simp [results, Tryd.results47, go_sem]) rfl ⟨rfl, by repeat (first | with_reducible exact Below.refl _ _ | with_reducible refine below_own ?_ _ _ | with_reducible refine below_alloc ?_ _ | with_reducible refine pw_below_drewN ?_ _)⟩
  · rw [if_neg (by omega), if_neg (by omega), if_neg (by omega), if_neg (by omega), if_pos (by omega)]
    have e175 : (a == 175) = false := beq_eq_false_iff_ne.mpr (by omega)
    have e182 : (a == 182) = false := beq_eq_false_iff_ne.mpr (by omega)
    have e11 : (a == 11) = false := beq_eq_false_iff_ne.mpr (by omega)
    have d9 : (a / 16 == 9) = false := beq_eq_false_iff_ne.mpr (by omega)
    have d8 : (a / 16 == 8) = true := beq_iff_eq.mpr (by omega)
    have q := HQ.out
    clear h
    go_enter Tryd.func47, Tryd.ntmps47
    go_wp2_with (first
      | (go_at_call 46; (with_reducible refine (HC.out.1 _ (blk_alloc HG.out _)).mono ?_); rintro e w1 ⟨rfl, rfl⟩)
      | (go_at_call 64; (with_reducible refine (HC.out.2.2.2 _ (blk_alloc HG.out _)).mono ?_); rintro e w1 ⟨rfl, rfl⟩))
    exact bodyPost_ret (v := xv ⟨18, wd, 0, 0, 0, a % 16, v⟩) (by simp [results, Tryd.results47, go_sem]) rfl ⟨rfl, by repeat (first | with_reducible exact Below.refl _ _ | with_reducible refine below_own ?_ _ _ | with_reducible refine below_alloc ?_ _ | with_reducible refine pw_below_drewN ?_ _)⟩
  · rw [if_neg (by omega), if_neg (by omega), if_neg (by omega), if_neg (by omega), if_neg (by omega), if_pos (by omega)]
    have e175 : (a == 175) = false := beq_eq_false_iff_ne.mpr (by omega)
    have e182 : (a == 182) = false := beq_eq_false_iff_ne.mpr (by omega)
    have e11 : (a == 11) = false := beq_eq_false_iff_ne.mpr (by omega)
    have d9 : (a / 16 == 9) = false := beq_eq_false_iff_ne.mpr (by omega)
    have d8 : (a / 16 == 8) = false := beq_eq_false_iff_ne.mpr (by omega)
    have d4 : (a / 16 == 4) = true := beq_iff_eq.mpr (by omega)
    have q := HQ.out
    clear h
    go_enter Tryd.func47, Tryd.ntmps47
    go_wp2_with (first
      | (go_at_call 46; (with_reducible refine (HC.out.1 _ (blk_alloc HG.out _)).mono ?_); rintro e w1 ⟨rfl, rfl⟩)
      | (go_at_call 62; (with_reducible refine (HC.out.2.1 _ (blk_alloc HG.out _)).mono ?_); rintro e w1 ⟨rfl, n1, rfl⟩)
      | (go_at_call 63; (with_reducible refine (HC.out.2.2.1 _ (blk_drewN (blk_alloc HG.out _) _)).mono ?_); rintro e w1 ⟨rfl, n2, rfl⟩))
    exact bodyPost_ret (v := xv ⟨15, wd, x, y, 0, a % 16, 0⟩) (by simp [results, Tryd.results47, go_sem]) rfl ⟨rfl, by repeat (first | with_reducible exact Below.refl _ _ | with_reducible refine below_own ?_ _ _ | with_reducible refine below_alloc ?_ _ | with_reducible refine pw_below_drewN ?_ _)⟩
  · rw [if_neg h1, if_neg h2, if_neg h3, if_neg h4, if_neg h5, if_neg h6]
    have e175 : (a == 175) = false := beq_eq_false_iff_ne.mpr (by omega)
    have e182 : (a == 182) = false := beq_eq_false_iff_ne.mpr (by omega)
    have e11 : (a == 11) = false := beq_eq_false_iff_ne.mpr (by omega)
    have d9 : (a / 16 == 9) = false := beq_eq_false_iff_ne.mpr (by omega)
    have d8 : (a / 16 == 8) = false := beq_eq_false_iff_ne.mpr (by omega)
    have d4 : (a / 16 == 4) = false := beq_eq_false_iff_ne.mpr (by omega)
    clear h1 h2 h3 h4 h5 h6
    go_enter Tryd.func47, Tryd.ntmps47
    go_wp2_with (first
      | (go_at_call 46; (with_reducible refine (HC.out.1 _ (blk_alloc HG.out _)).mono ?_); rintro e w1 ⟨rfl, rfl⟩))
    exact bodyPost_ret (v := xv ⟨0, false, 0, 0, 0, 0, 0⟩) (by simp [results, Tryd.results47, go_sem]) rfl ⟨rfl, by repeat (first | with_reducible exact Below.refl _ _ | with_reducible refine below_own ?_ _ _ | with_reducible refine below_alloc ?_ _ | with_reducible refine pw_below_drewN ?_ _)⟩
end Go.Proofs.YtkfinaongajhmaaDoor.X

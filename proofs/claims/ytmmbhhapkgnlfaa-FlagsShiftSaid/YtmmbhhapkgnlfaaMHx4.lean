-- printed for this claim by a program of this session, after the form of the printed texts
import Derived.Test.YtmmbhhapkgnlfaaMHx0
import Derived.Test.YtmmbhhapkgnlfaaMHx1
import Derived.Test.YtmmbhhapkgnlfaaMHx2
import Derived.Test.YtmmbhhapkgnlfaaMHx3
namespace Go.Proofs.Ytmmbhhapkgnlfaa.MH
open Go.RowKit Go.Proofs.YtmmbhhapkgnlfaaW.PrintWords Go.Proofs.YtmmbhhapkgnlfaaW.PrintLast Go.Proofs.YtmmbhhapkgnlfaaW.PrintMore
attribute [local go_sem] max2_int min2_int max_two min_two max_three min_three max_four min_four   -- for this text's walks alone
set_option linter.unusedVariables false
set_option linter.unusedSimpArgs false

attribute [local go_sem high] eqA24
/-! ### flags_Idiv: function 19 -/
def flags_Idiv.j0 : Nat → Bool → Int → Int → Bool → Option (Int × Int × Bool)
  | 0, _, _, _, _ => none
  | k + 1, x0, x11, x12, x33 => if x33 = true then (some (0, 0, false)) else (if x12 = (-1) then (if x11 = 0 then ((flags_Trim.f x0 (wrap64 (-x11))).bind fun t123 => (some (t123, 0, true))) else ((flags_sign.f x0 (wrap64 (-x11))).bind fun t122 => (if t122 = x11 then (some (0, 0, false)) else ((flags_Trim.f x0 (wrap64 (-x11))).bind fun t124 => (some (t124, 0, true)))))) else (if x12 = 0 then (none) else ((flags_Trim.f x0 (wrap64 (Int.tdiv x11 x12))).bind fun t125 => ((flags_Trim.f x0 (Int.tmod x11 x12)).bind fun t126 => (some (t125, t126, true))))))
def flags_Idiv.f (k : Nat) (a0 : Bool) (a1 : Int) (a2 : Int) (a3 : Int) : Option (Int × Int × Bool) := (flags_sign.f a0 a2).bind fun t118 => ((flags_sign.f a0 a3).bind fun t119 => (if t119 = 0 then (flags_Idiv.j0 k a0 t118 t119 true) else ((flags_Trim.f a0 a1).bind fun t120 => ((flags_Trim.f a0 (t118 / 9223372036854775808)).bind fun t121 => (flags_Idiv.j0 k a0 t118 t119 (t120 != t121))))))
theorem flags_Idiv.mono_l : ∀ k, (∀ y0 y1 y2 y3, LeO (flags_Idiv.j0 k y0 y1 y2 y3) (flags_Idiv.j0 (k + 1) y0 y1 y2 y3))
  | 0 => fun _ _ _ _ r h => by simp [flags_Idiv.j0] at h
  | k + 1 => by
    have ih0 := flags_Idiv.mono_l k
    · intro y0 y1 y2 y3
      unfold flags_Idiv.j0
      repeat' first
      | (with_reducible exact ih0 _ _ _ _)
      | (with_reducible exact LeO.refl _)
      | (with_reducible exact LeO.none _)
      | (with_reducible refine LeO.ite ?_ ?_)
      | (with_reducible refine LeO.bind ?_ (fun _ => ?_))
      | exact ih0 _ _ _ _
      | exact LeO.none _
      | refine LeO.ite ?_ ?_
      | refine LeO.bind ?_ (fun _ => ?_)
theorem flags_Idiv.mono : ∀ a0 a1 a2 a3 k, LeO (flags_Idiv.f k a0 a1 a2 a3) (flags_Idiv.f (k + 1) a0 a1 a2 a3) := by
  intro a0 a1 a2 a3 k
  have ih0 := flags_Idiv.mono_l k
  unfold flags_Idiv.f
  repeat' first
      | (with_reducible exact ih0 _ _ _ _)
      | (with_reducible exact LeO.refl _)
      | (with_reducible exact LeO.none _)
      | (with_reducible refine LeO.ite ?_ ?_)
      | (with_reducible refine LeO.bind ?_ (fun _ => ?_))
      | exact ih0 _ _ _ _
      | exact LeO.none _
      | refine LeO.ite ?_ ?_
      | refine LeO.bind ?_ (fun _ => ?_)
set_option maxHeartbeats 60000000 in
set_option maxRecDepth 100000 in
theorem flags_Idiv.calls (k : Nat) (a0 : Bool) (a1 : Int) (a2 : Int) (a3 : Int) (r1 : Int) (r2 : Int) (r3 : Bool) (w : World) (h : flags_Idiv.f k a0 a1 a2 a3 = some (r1, r2, r3)) :
    Calls Try.prog 19 #[.bool a0, .int .i64 a1, .int .i64 a2, .int .i64 a3] w fun e w' => e = .returned (.tuple #[.int .i64 r1, .int .i64 r2, .bool r3]) ∧ Drawn0 w w' := by
  have H : ((flags_sign.f a0 a2).bind fun t118 => ((flags_sign.f a0 a3).bind fun t119 => (if t119 = 0 then (flags_Idiv.j0 k a0 t118 t119 true) else ((flags_Trim.f a0 a1).bind fun t120 => ((flags_Trim.f a0 (t118 / 9223372036854775808)).bind fun t121 => (flags_Idiv.j0 k a0 t118 t119 (t120 != t121))))))) = some (r1, r2, r3) := h
  clear h
  replace H := Option.bind_eq_some_iff.mp H
  obtain ⟨t118, A50, H⟩ := H
  replace H : ((flags_sign.f a0 a3).bind fun t119 => (if t119 = 0 then (flags_Idiv.j0 k a0 t118 t119 true) else ((flags_Trim.f a0 a1).bind fun t120 => ((flags_Trim.f a0 (t118 / 9223372036854775808)).bind fun t121 => (flags_Idiv.j0 k a0 t118 t119 (t120 != t121)))))) = some (r1, r2, r3) := H
  have A5 := Aside0.mk A50
  clear A50
  replace H := Option.bind_eq_some_iff.mp H
  obtain ⟨t119, A60, H⟩ := H
  replace H : (if t119 = 0 then (flags_Idiv.j0 k a0 t118 t119 true) else ((flags_Trim.f a0 a1).bind fun t120 => ((flags_Trim.f a0 (t118 / 9223372036854775808)).bind fun t121 => (flags_Idiv.j0 k a0 t118 t119 (t120 != t121))))) = some (r1, r2, r3) := H
  have A6 := Aside0.mk A60
  clear A60
  have HC7 := Aside0.mk H
  clear H
  go_enter Try.func19, Try.ntmps19
  go_upto_region 3 with (first | (go_at_call 25; (with_reducible refine (flags_sign.calls a0 a2 t118 _ A5.out).mono ?_); rintro e w' ⟨rfl, ⟨nd, rfl⟩⟩; (try first | exact ⟨rfl, _, World.drewN_drewN _ _ _⟩ | exact ⟨rfl, _, Eq.trans (World.drewN_drewN _ _ _) (congrArg (World.drewN _) (Nat.add_assoc _ _ _))⟩)) | (go_at_call 25; (with_reducible refine (flags_sign.calls a0 a3 t119 _ A6.out).mono ?_); rintro e w' ⟨rfl, ⟨nd, rfl⟩⟩; (try first | exact ⟨rfl, _, World.drewN_drewN _ _ _⟩ | exact ⟨rfl, _, Eq.trans (World.drewN_drewN _ _ _) (congrArg (World.drewN _) (Nat.add_assoc _ _ _))⟩)))
  repeat (go_quiet (first | (go_at_call 25; (with_reducible refine (flags_sign.calls a0 a2 t118 _ A5.out).mono ?_); rintro e w' ⟨rfl, ⟨nd, rfl⟩⟩; (try first | exact ⟨rfl, _, World.drewN_drewN _ _ _⟩ | exact ⟨rfl, _, Eq.trans (World.drewN_drewN _ _ _) (congrArg (World.drewN _) (Nat.add_assoc _ _ _))⟩)) | (go_at_call 25; (with_reducible refine (flags_sign.calls a0 a3 t119 _ A6.out).mono ?_); rintro e w' ⟨rfl, ⟨nd, rfl⟩⟩; (try first | exact ⟨rfl, _, World.drewN_drewN _ _ _⟩ | exact ⟨rfl, _, Eq.trans (World.drewN_drewN _ _ _) (congrArg (World.drewN _) (Nat.add_assoc _ _ _))⟩))); go_upto_region 3 with (first | (go_at_call 25; (with_reducible refine (flags_sign.calls a0 a2 t118 _ A5.out).mono ?_); rintro e w' ⟨rfl, ⟨nd, rfl⟩⟩; (try first | exact ⟨rfl, _, World.drewN_drewN _ _ _⟩ | exact ⟨rfl, _, Eq.trans (World.drewN_drewN _ _ _) (congrArg (World.drewN _) (Nat.add_assoc _ _ _))⟩)) | (go_at_call 25; (with_reducible refine (flags_sign.calls a0 a3 t119 _ A6.out).mono ?_); rintro e w' ⟨rfl, ⟨nd, rfl⟩⟩; (try first | exact ⟨rfl, _, World.drewN_drewN _ _ _⟩ | exact ⟨rfl, _, Eq.trans (World.drewN_drewN _ _ _) (congrArg (World.drewN _) (Nat.add_assoc _ _ _))⟩))))
  (try simp only [Act.put, List.setIfInBounds_toArray, List.set_cons_zero, List.set_cons_succ])
  go_cut [33] (fun v33 wc => ∃ (kq : Nat) (x33_6 : Bool), v33 = .bool x33_6 ∧ Aside0 (flags_Idiv.j0 kq a0 t118 t119 x33_6 = some (r1, r2, r3)) ∧ Aside0 (kq ≤ k) ∧ Drawn0 w wc)
  case first =>
    have H := HC7.out
    clear HC7
    by_cases c8 : t119 = 0
    · rw [if_pos c8] at H
      have c8b0 : (t119 == 0) = true := beq_iff_eq.mpr c8
      have c8b1 : (t119 != 0) = false := bne_eq_false_iff_eq.mpr c8
      clear c8
      (first | rw [c8b0] | (simp only [i64_w, i32_w]; rw [c8b0]) | skip)
      have H' := Aside0.mk H
      clear H
      go_wp2
      repeat (go_quiet (fail); try go_wp2)
      go_meet
      case rel => exact ⟨_, (true), (by first | rfl | (simp; done) | (simp [*]; done)), H', ⟨by first | omega | exact Nat.le_refl _⟩, by repeat (first | exact Drawn0.refl _ | apply Drawn0.step)⟩
    · rw [if_neg c8] at H
      have c8b0 : (t119 == 0) = false := beq_eq_false_iff_ne.mpr c8
      have c8b1 : (t119 != 0) = true := bne_iff_ne.mpr c8
      (first | rw [c8b0] | (simp only [i64_w, i32_w]; rw [c8b0]) | skip)
      replace H := Option.bind_eq_some_iff.mp H
      obtain ⟨t120, A90, H⟩ := H
      replace H : ((flags_Trim.f a0 (t118 / 9223372036854775808)).bind fun t121 => (flags_Idiv.j0 k a0 t118 t119 (t120 != t121))) = some (r1, r2, r3) := H
      have A9 := Aside0.mk A90
      clear A90
      replace H := Option.bind_eq_some_iff.mp H
      obtain ⟨t121, A100, H⟩ := H
      replace H : (flags_Idiv.j0 k a0 t118 t119 (t120 != t121)) = some (r1, r2, r3) := H
      have A10 := Aside0.mk A100
      clear A100
      have H' := Aside0.mk H
      clear H
      go_wp2_with (first | (go_at_call 15; (with_reducible refine (flags_Trim.calls a0 a1 t120 _ A9.out).mono ?_); rintro e w' ⟨rfl, ⟨nd, rfl⟩⟩; (try first | exact ⟨rfl, _, World.drewN_drewN _ _ _⟩ | exact ⟨rfl, _, Eq.trans (World.drewN_drewN _ _ _) (congrArg (World.drewN _) (Nat.add_assoc _ _ _))⟩)) | (go_at_call 15; (with_reducible refine (flags_Trim.calls a0 (t118 / 9223372036854775808) t121 _ A10.out).mono ?_); rintro e w' ⟨rfl, ⟨nd, rfl⟩⟩; (try first | exact ⟨rfl, _, World.drewN_drewN _ _ _⟩ | exact ⟨rfl, _, Eq.trans (World.drewN_drewN _ _ _) (congrArg (World.drewN _) (Nat.add_assoc _ _ _))⟩)))
      repeat (go_quiet (first | (go_at_call 15; (with_reducible refine (flags_Trim.calls a0 a1 t120 _ A9.out).mono ?_); rintro e w' ⟨rfl, ⟨nd, rfl⟩⟩; (try first | exact ⟨rfl, _, World.drewN_drewN _ _ _⟩ | exact ⟨rfl, _, Eq.trans (World.drewN_drewN _ _ _) (congrArg (World.drewN _) (Nat.add_assoc _ _ _))⟩)) | (go_at_call 15; (with_reducible refine (flags_Trim.calls a0 (t118 / 9223372036854775808) t121 _ A10.out).mono ?_); rintro e w' ⟨rfl, ⟨nd, rfl⟩⟩; (try first | exact ⟨rfl, _, World.drewN_drewN _ _ _⟩ | exact ⟨rfl, _, Eq.trans (World.drewN_drewN _ _ _) (congrArg (World.drewN _) (Nat.add_assoc _ _ _))⟩))); try go_wp2_with (first | (go_at_call 15; (with_reducible refine (flags_Trim.calls a0 a1 t120 _ A9.out).mono ?_); rintro e w' ⟨rfl, ⟨nd, rfl⟩⟩; (try first | exact ⟨rfl, _, World.drewN_drewN _ _ _⟩ | exact ⟨rfl, _, Eq.trans (World.drewN_drewN _ _ _) (congrArg (World.drewN _) (Nat.add_assoc _ _ _))⟩)) | (go_at_call 15; (with_reducible refine (flags_Trim.calls a0 (t118 / 9223372036854775808) t121 _ A10.out).mono ?_); rintro e w' ⟨rfl, ⟨nd, rfl⟩⟩; (try first | exact ⟨rfl, _, World.drewN_drewN _ _ _⟩ | exact ⟨rfl, _, Eq.trans (World.drewN_drewN _ _ _) (congrArg (World.drewN _) (Nat.add_assoc _ _ _))⟩))))
      go_meet
      case rel => exact ⟨_, ((t120 != t121)), (by first | rfl | (simp; done) | (simp [*]; done)), H', ⟨by first | omega | exact Nat.le_refl _⟩, by repeat (first | exact Drawn0.refl _ | apply Drawn0.step)⟩
  case rest =>
    clear HC7
    try clear c1
    try clear p2
    try clear c8
    try clear c8b0
    try clear c8b1
    obtain ⟨kq, x33_6, rfl, HA, HJ6, ⟨mc6, rfl⟩⟩ := hcut
    cases kq with
    | zero => exact absurd HA.out (by simp [flags_Idiv.j0])
    | succ kj6 =>
      have H := HA.out
      clear HA
      simp only [flags_Idiv.j0] at H
      by_cases c11 : x33_6 = true
      · subst c11
        have H1 : (some (0, 0, false)) = some (r1, r2, r3) := by rw [if_pos rfl] at H; exact H
        clear H
        have H := H1
        clear H1
        simp only [Option.some.injEq, Prod.mk.injEq] at H
        obtain ⟨rfl, rfl, rfl⟩ := H
        go_wp2
        repeat (go_quiet (fail); try go_wp2)
        go_ret3
        exact ⟨by first | rfl | (simp; done) | (simp [*]; done), by repeat (first | exact Drawn0.refl _ | apply Drawn0.step)⟩
      · replace c11 := Bool.eq_false_iff.mpr c11
        subst c11
        (try simp only [Bool.false_beq, Bool.true_beq] at *)
        have H1 : (if t119 = (-1) then (if t118 = 0 then ((flags_Trim.f a0 (wrap64 (-t118))).bind fun t123 => (some (t123, 0, true))) else ((flags_sign.f a0 (wrap64 (-t118))).bind fun t122 => (if t122 = t118 then (some (0, 0, false)) else ((flags_Trim.f a0 (wrap64 (-t118))).bind fun t124 => (some (t124, 0, true)))))) else (if t119 = 0 then (none) else ((flags_Trim.f a0 (wrap64 (Int.tdiv t118 t119))).bind fun t125 => ((flags_Trim.f a0 (Int.tmod t118 t119)).bind fun t126 => (some (t125, t126, true)))))) = some (r1, r2, r3) := by rw [if_neg (show ¬ (false = true) by decide)] at H; exact H
        clear H
        have H := H1
        clear H1
        by_cases c12 : t119 = (-1)
        · rw [if_pos c12] at H
          have c12b0 : (t119 == (-1)) = true := beq_iff_eq.mpr c12
          have c12b1 : (t119 != (-1)) = false := bne_eq_false_iff_eq.mpr c12
          clear c12
          by_cases c13 : t118 = 0
          · rw [if_pos c13] at H
            have c13b0 : (t118 == 0) = true := beq_iff_eq.mpr c13
            have c13b1 : (t118 != 0) = false := bne_eq_false_iff_eq.mpr c13
            clear c13
            replace H := Option.bind_eq_some_iff.mp H
            obtain ⟨t123, A140, H⟩ := H
            replace H : (some (t123, 0, true)) = some (r1, r2, r3) := H
            have A14 := Aside0.mk A140
            clear A140
            simp only [Option.some.injEq, Prod.mk.injEq] at H
            obtain ⟨rfl, rfl, rfl⟩ := H
            go_wp2_with (first | (go_at_call 15; (with_reducible refine (flags_Trim.calls a0 (wrap64 (-t118)) t123 _ A14.out).mono ?_); rintro e w' ⟨rfl, ⟨nd, rfl⟩⟩; (try first | exact ⟨rfl, _, World.drewN_drewN _ _ _⟩ | exact ⟨rfl, _, Eq.trans (World.drewN_drewN _ _ _) (congrArg (World.drewN _) (Nat.add_assoc _ _ _))⟩)))
            repeat (go_quiet (first | (go_at_call 15; (with_reducible refine (flags_Trim.calls a0 (wrap64 (-t118)) t123 _ A14.out).mono ?_); rintro e w' ⟨rfl, ⟨nd, rfl⟩⟩; (try first | exact ⟨rfl, _, World.drewN_drewN _ _ _⟩ | exact ⟨rfl, _, Eq.trans (World.drewN_drewN _ _ _) (congrArg (World.drewN _) (Nat.add_assoc _ _ _))⟩))); try go_wp2_with (first | (go_at_call 15; (with_reducible refine (flags_Trim.calls a0 (wrap64 (-t118)) t123 _ A14.out).mono ?_); rintro e w' ⟨rfl, ⟨nd, rfl⟩⟩; (try first | exact ⟨rfl, _, World.drewN_drewN _ _ _⟩ | exact ⟨rfl, _, Eq.trans (World.drewN_drewN _ _ _) (congrArg (World.drewN _) (Nat.add_assoc _ _ _))⟩))))
            go_ret3
            exact ⟨by first | rfl | (simp; done) | (simp [*]; done), by repeat (first | exact Drawn0.refl _ | apply Drawn0.step)⟩
          · rw [if_neg c13] at H
            have c13b0 : (t118 == 0) = false := beq_eq_false_iff_ne.mpr c13
            have c13b1 : (t118 != 0) = true := bne_iff_ne.mpr c13
            replace H := Option.bind_eq_some_iff.mp H
            obtain ⟨t122, A150, H⟩ := H
            replace H : (if t122 = t118 then (some (0, 0, false)) else ((flags_Trim.f a0 (wrap64 (-t118))).bind fun t124 => (some (t124, 0, true)))) = some (r1, r2, r3) := H
            have A15 := Aside0.mk A150
            clear A150
            by_cases c16 : t122 = t118
            · rw [if_pos c16] at H
              have c16b0 : (t122 == t118) = true := beq_iff_eq.mpr c16
              have c16b1 : (t122 != t118) = false := bne_eq_false_iff_eq.mpr c16
              clear c16
              simp only [Option.some.injEq, Prod.mk.injEq] at H
              obtain ⟨rfl, rfl, rfl⟩ := H
              go_wp2_with (first | (go_at_call 25; (with_reducible refine (flags_sign.calls a0 (wrap64 (-t118)) t122 _ A15.out).mono ?_); rintro e w' ⟨rfl, ⟨nd, rfl⟩⟩; (try first | exact ⟨rfl, _, World.drewN_drewN _ _ _⟩ | exact ⟨rfl, _, Eq.trans (World.drewN_drewN _ _ _) (congrArg (World.drewN _) (Nat.add_assoc _ _ _))⟩)))
              repeat (go_quiet (first | (go_at_call 25; (with_reducible refine (flags_sign.calls a0 (wrap64 (-t118)) t122 _ A15.out).mono ?_); rintro e w' ⟨rfl, ⟨nd, rfl⟩⟩; (try first | exact ⟨rfl, _, World.drewN_drewN _ _ _⟩ | exact ⟨rfl, _, Eq.trans (World.drewN_drewN _ _ _) (congrArg (World.drewN _) (Nat.add_assoc _ _ _))⟩))); try go_wp2_with (first | (go_at_call 25; (with_reducible refine (flags_sign.calls a0 (wrap64 (-t118)) t122 _ A15.out).mono ?_); rintro e w' ⟨rfl, ⟨nd, rfl⟩⟩; (try first | exact ⟨rfl, _, World.drewN_drewN _ _ _⟩ | exact ⟨rfl, _, Eq.trans (World.drewN_drewN _ _ _) (congrArg (World.drewN _) (Nat.add_assoc _ _ _))⟩))))
              go_ret3
              exact ⟨by first | rfl | (simp; done) | (simp [*]; done), by repeat (first | exact Drawn0.refl _ | apply Drawn0.step)⟩
            · rw [if_neg c16] at H
              have c16b0 : (t122 == t118) = false := beq_eq_false_iff_ne.mpr c16
              have c16b1 : (t122 != t118) = true := bne_iff_ne.mpr c16
              replace H := Option.bind_eq_some_iff.mp H
              obtain ⟨t124, A170, H⟩ := H
              replace H : (some (t124, 0, true)) = some (r1, r2, r3) := H
              have A17 := Aside0.mk A170
              clear A170
              simp only [Option.some.injEq, Prod.mk.injEq] at H
              obtain ⟨rfl, rfl, rfl⟩ := H
              go_wp2_with (first | (go_at_call 25; (with_reducible refine (flags_sign.calls a0 (wrap64 (-t118)) t122 _ A15.out).mono ?_); rintro e w' ⟨rfl, ⟨nd, rfl⟩⟩; (try first | exact ⟨rfl, _, World.drewN_drewN _ _ _⟩ | exact ⟨rfl, _, Eq.trans (World.drewN_drewN _ _ _) (congrArg (World.drewN _) (Nat.add_assoc _ _ _))⟩)) | (go_at_call 15; (with_reducible refine (flags_Trim.calls a0 (wrap64 (-t118)) t124 _ A17.out).mono ?_); rintro e w' ⟨rfl, ⟨nd, rfl⟩⟩; (try first | exact ⟨rfl, _, World.drewN_drewN _ _ _⟩ | exact ⟨rfl, _, Eq.trans (World.drewN_drewN _ _ _) (congrArg (World.drewN _) (Nat.add_assoc _ _ _))⟩)))
              repeat (go_quiet (first | (go_at_call 25; (with_reducible refine (flags_sign.calls a0 (wrap64 (-t118)) t122 _ A15.out).mono ?_); rintro e w' ⟨rfl, ⟨nd, rfl⟩⟩; (try first | exact ⟨rfl, _, World.drewN_drewN _ _ _⟩ | exact ⟨rfl, _, Eq.trans (World.drewN_drewN _ _ _) (congrArg (World.drewN _) (Nat.add_assoc _ _ _))⟩)) | (go_at_call 15; (with_reducible refine (flags_Trim.calls a0 (wrap64 (-t118)) t124 _ A17.out).mono ?_); rintro e w' ⟨rfl, ⟨nd, rfl⟩⟩; (try first | exact ⟨rfl, _, World.drewN_drewN _ _ _⟩ | exact ⟨rfl, _, Eq.trans (World.drewN_drewN _ _ _) (congrArg (World.drewN _) (Nat.add_assoc _ _ _))⟩))); try go_wp2_with (first | (go_at_call 25; (with_reducible refine (flags_sign.calls a0 (wrap64 (-t118)) t122 _ A15.out).mono ?_); rintro e w' ⟨rfl, ⟨nd, rfl⟩⟩; (try first | exact ⟨rfl, _, World.drewN_drewN _ _ _⟩ | exact ⟨rfl, _, Eq.trans (World.drewN_drewN _ _ _) (congrArg (World.drewN _) (Nat.add_assoc _ _ _))⟩)) | (go_at_call 15; (with_reducible refine (flags_Trim.calls a0 (wrap64 (-t118)) t124 _ A17.out).mono ?_); rintro e w' ⟨rfl, ⟨nd, rfl⟩⟩; (try first | exact ⟨rfl, _, World.drewN_drewN _ _ _⟩ | exact ⟨rfl, _, Eq.trans (World.drewN_drewN _ _ _) (congrArg (World.drewN _) (Nat.add_assoc _ _ _))⟩))))
              go_ret3
              exact ⟨by first | rfl | (simp; done) | (simp [*]; done), by repeat (first | exact Drawn0.refl _ | apply Drawn0.step)⟩
        · rw [if_neg c12] at H
          have c12b0 : (t119 == (-1)) = false := beq_eq_false_iff_ne.mpr c12
          have c12b1 : (t119 != (-1)) = true := bne_iff_ne.mpr c12
          by_cases c18 : t119 = 0
          · rw [if_pos c18] at H
            exact absurd H (by simp)
          · rw [if_neg c18] at H
            have c18b0 : (t119 == 0) = false := beq_eq_false_iff_ne.mpr c18
            have c18b1 : (t119 != 0) = true := bne_iff_ne.mpr c18
            replace H := Option.bind_eq_some_iff.mp H
            obtain ⟨t125, A190, H⟩ := H
            replace H : ((flags_Trim.f a0 (Int.tmod t118 t119)).bind fun t126 => (some (t125, t126, true))) = some (r1, r2, r3) := H
            have A19 := Aside0.mk A190
            clear A190
            replace H := Option.bind_eq_some_iff.mp H
            obtain ⟨t126, A200, H⟩ := H
            replace H : (some (t125, t126, true)) = some (r1, r2, r3) := H
            have A20 := Aside0.mk A200
            clear A200
            simp only [Option.some.injEq, Prod.mk.injEq] at H
            obtain ⟨rfl, rfl, rfl⟩ := H
            go_wp2_with (first | (go_at_call 15; (with_reducible refine (flags_Trim.calls a0 (wrap64 (Int.tdiv t118 t119)) t125 _ A19.out).mono ?_); rintro e w' ⟨rfl, ⟨nd, rfl⟩⟩; (try first | exact ⟨rfl, _, World.drewN_drewN _ _ _⟩ | exact ⟨rfl, _, Eq.trans (World.drewN_drewN _ _ _) (congrArg (World.drewN _) (Nat.add_assoc _ _ _))⟩)) | (go_at_call 15; (with_reducible refine (flags_Trim.calls a0 (Int.tmod t118 t119) t126 _ A20.out).mono ?_); rintro e w' ⟨rfl, ⟨nd, rfl⟩⟩; (try first | exact ⟨rfl, _, World.drewN_drewN _ _ _⟩ | exact ⟨rfl, _, Eq.trans (World.drewN_drewN _ _ _) (congrArg (World.drewN _) (Nat.add_assoc _ _ _))⟩)))
            repeat (go_quiet (first | (go_at_call 15; (with_reducible refine (flags_Trim.calls a0 (wrap64 (Int.tdiv t118 t119)) t125 _ A19.out).mono ?_); rintro e w' ⟨rfl, ⟨nd, rfl⟩⟩; (try first | exact ⟨rfl, _, World.drewN_drewN _ _ _⟩ | exact ⟨rfl, _, Eq.trans (World.drewN_drewN _ _ _) (congrArg (World.drewN _) (Nat.add_assoc _ _ _))⟩)) | (go_at_call 15; (with_reducible refine (flags_Trim.calls a0 (Int.tmod t118 t119) t126 _ A20.out).mono ?_); rintro e w' ⟨rfl, ⟨nd, rfl⟩⟩; (try first | exact ⟨rfl, _, World.drewN_drewN _ _ _⟩ | exact ⟨rfl, _, Eq.trans (World.drewN_drewN _ _ _) (congrArg (World.drewN _) (Nat.add_assoc _ _ _))⟩))); try go_wp2_with (first | (go_at_call 15; (with_reducible refine (flags_Trim.calls a0 (wrap64 (Int.tdiv t118 t119)) t125 _ A19.out).mono ?_); rintro e w' ⟨rfl, ⟨nd, rfl⟩⟩; (try first | exact ⟨rfl, _, World.drewN_drewN _ _ _⟩ | exact ⟨rfl, _, Eq.trans (World.drewN_drewN _ _ _) (congrArg (World.drewN _) (Nat.add_assoc _ _ _))⟩)) | (go_at_call 15; (with_reducible refine (flags_Trim.calls a0 (Int.tmod t118 t119) t126 _ A20.out).mono ?_); rintro e w' ⟨rfl, ⟨nd, rfl⟩⟩; (try first | exact ⟨rfl, _, World.drewN_drewN _ _ _⟩ | exact ⟨rfl, _, Eq.trans (World.drewN_drewN _ _ _) (congrArg (World.drewN _) (Nat.add_assoc _ _ _))⟩))))
            go_ret3
            exact ⟨by first | rfl | (simp; done) | (simp [*]; done), by repeat (first | exact Drawn0.refl _ | apply Drawn0.step)⟩

/-! ### oubliettelaw10_examples: function 12 -/
def oubliettelaw10_examples.f (k : Nat)  : Option (Bool) := (flags_Alu.f k 5 false 0 1).bind fun bt127 => ((flags_Idiv.f k false 4294967295 2147483648 4294967295).bind fun bt134 => ((flags_Div.f k false 1 0 3).bind fun bt137 => (if bt127.1 = 4294967295 then (if (!bt127.2.1 && (bt127.2.2.1 && (bt127.2.2.2.1 && (!bt127.2.2.2.2.1)))) = true then (if bt127.2.2.2.2.2 = true then (if bt134.2.2 = true then (some false) else (if bt137.1 = 1431655765 then (if bt137.2.1 = 1 then (some bt137.2.2) else (some false)) else (some false))) else (some false)) else (some false)) else (some false))))
theorem oubliettelaw10_examples.mono : ∀ k, LeO (oubliettelaw10_examples.f k ) (oubliettelaw10_examples.f (k + 1) ) := by
  intro  k
  unfold oubliettelaw10_examples.f
  repeat' first
      | (with_reducible exact flags_Alu.mono _ _ _ _ _)
      | (with_reducible exact flags_Div.mono _ _ _ _ _)
      | (with_reducible exact flags_Idiv.mono _ _ _ _ _)
      | (with_reducible exact LeO.refl _)
      | (with_reducible exact LeO.none _)
      | (with_reducible refine LeO.ite ?_ ?_)
      | (with_reducible refine LeO.bind ?_ (fun _ => ?_))
      | exact flags_Alu.mono _ _ _ _ _
      | exact flags_Div.mono _ _ _ _ _
      | exact flags_Idiv.mono _ _ _ _ _
      | exact LeO.none _
      | refine LeO.ite ?_ ?_
      | refine LeO.bind ?_ (fun _ => ?_)
set_option maxHeartbeats 60000000 in
set_option maxRecDepth 100000 in
theorem oubliettelaw10_examples.calls (k : Nat)  (r : Bool) (w : World) (h : oubliettelaw10_examples.f k  = some r) :
    Calls Try.prog 12 #[] w fun e w' => e = .returned (.bool r) ∧ Below w.heap.size w w' := by
  have hu24 := Try.underlying24
  have HB := Aside0.mk (Below.refl w.heap.size w)
  have H : ((flags_Alu.f k 5 false 0 1).bind fun bt127 => ((flags_Idiv.f k false 4294967295 2147483648 4294967295).bind fun bt134 => ((flags_Div.f k false 1 0 3).bind fun bt137 => (if bt127.1 = 4294967295 then (if (!bt127.2.1 && (bt127.2.2.1 && (bt127.2.2.2.1 && (!bt127.2.2.2.2.1)))) = true then (if bt127.2.2.2.2.2 = true then (if bt134.2.2 = true then (some false) else (if bt137.1 = 1431655765 then (if bt137.2.1 = 1 then (some bt137.2.2) else (some false)) else (some false))) else (some false)) else (some false)) else (some false))))) = some r := h
  clear h
  replace H := Option.bind_eq_some_iff.mp H
  obtain ⟨⟨t127, t128, t129, t130, t131, t132⟩, A10, H⟩ := H
  replace H : ((flags_Idiv.f k false 4294967295 2147483648 4294967295).bind fun bt134 => ((flags_Div.f k false 1 0 3).bind fun bt137 => (if t127 = 4294967295 then (if (!t128 && (t129 && (t130 && (!t131)))) = true then (if t132 = true then (if bt134.2.2 = true then (some false) else (if bt137.1 = 1431655765 then (if bt137.2.1 = 1 then (some bt137.2.2) else (some false)) else (some false))) else (some false)) else (some false)) else (some false)))) = some r := H
  have A1 := Aside0.mk A10
  clear A10
  replace H := Option.bind_eq_some_iff.mp H
  obtain ⟨⟨t134, t135, t136⟩, A20, H⟩ := H
  replace H : ((flags_Div.f k false 1 0 3).bind fun bt137 => (if t127 = 4294967295 then (if (!t128 && (t129 && (t130 && (!t131)))) = true then (if t132 = true then (if t136 = true then (some false) else (if bt137.1 = 1431655765 then (if bt137.2.1 = 1 then (some bt137.2.2) else (some false)) else (some false))) else (some false)) else (some false)) else (some false))) = some r := H
  have A2 := Aside0.mk A20
  clear A20
  replace H := Option.bind_eq_some_iff.mp H
  obtain ⟨⟨t137, t138, t139⟩, A30, H⟩ := H
  replace H : (if t127 = 4294967295 then (if (!t128 && (t129 && (t130 && (!t131)))) = true then (if t132 = true then (if t136 = true then (some false) else (if t137 = 1431655765 then (if t138 = 1 then (some t139) else (some false)) else (some false))) else (some false)) else (some false)) else (some false)) = some r := H
  have A3 := Aside0.mk A30
  clear A30
  by_cases c4 : t127 = 4294967295
  · rw [if_pos c4] at H
    have c4b0 : (t127 == 4294967295) = true := beq_iff_eq.mpr c4
    have c4b1 : (t127 != 4294967295) = false := bne_eq_false_iff_eq.mpr c4
    clear c4
    by_cases c5 : (!t128 && (t129 && (t130 && (!t131)))) = true
    · rw [if_pos c5] at H
      have c5b0 : (!t128 && (t129 && (t130 && (!t131)))) = true := c5
      clear c5
      by_cases c6 : t132 = true
      · subst c6
        have H1 : (if t136 = true then (some false) else (if t137 = 1431655765 then (if t138 = 1 then (some t139) else (some false)) else (some false))) = some r := by rw [if_pos rfl] at H; exact H
        clear H
        have H := H1
        clear H1
        by_cases c7 : t136 = true
        · subst c7
          have H1 : (some false) = some r := by rw [if_pos rfl] at H; exact H
          clear H
          have H := H1
          clear H1
          obtain rfl := Option.some.inj H
          go_enter Try.func12, Try.ntmps12
          go_wp2_with (first | ((with_reducible refine gate_callee (f := 13) rfl ?_); refine goesL_ (some 11) rfl rfl Try.func13 (by kernel_rfl) rfl #[.int .i64 5, .bool false, .int .i64 0, .int .i64 1] rfl (by (try simp only [List.map_toArray, List.map_cons, List.map_nil]); first | done | rfl | (simp only [List.length_drop, List.length_take]; rfl)) ?_; (with_reducible refine (flags_Alu.calls k 5 false 0 1 t127 t128 t129 t130 t131 true _ A1.out).mono ?_); rintro e w8 ⟨rfl, hb⟩; refine ⟨_, rfl, ?_⟩; have n0_ := Aside0.mk (below_step (by repeat (first | (with_reducible first | exact HB.out | apply below_alloc | apply pw_below_drewN | apply below_drew1) | exact HB.out)) hb); clear HB; have HB := n0_; clear n0_; (try clear hb); (try clear hb2); (try clear hk); (try clear hi)) | ((with_reducible refine gate_dst (N := 2) rfl ?_); refine box_event ?hg (N := 2) ?hd (cs := #[.bool false, .bool false, .bool false, .bool false]) (t := 24) ?hr ?_; (case hd => rfl); (case hg => rfl); (case hr => first | (go_simp; done) | (go_simp; rfl)); intro gb133 hg w9 hbox hb; have n0_ := Aside0.mk (below_step (by repeat (first | (with_reducible first | exact HB.out | apply below_alloc | apply pw_below_drewN | apply below_drew1) | exact HB.out)) hb); have n1_ := Aside0.mk (hbox); have n2_ := Aside0.mk ((by rw [hg]; exact (below_size (by repeat (first | (with_reducible first | exact HB.out | apply below_alloc | apply pw_below_drewN | apply below_drew1) | exact HB.out))) : w.heap.size ≤ gb133)); have n3_ := Aside0.mk ((by rw [hg]; exact (below_size (by repeat (first | (with_reducible first | exact HB.out | apply below_alloc | apply pw_below_drewN | apply below_drew1) | exact HB.out))) : w.heap.size ≤ gb133)); clear HB; have HB := n0_; have BK133 := n1_; have GW133 := n2_; have GE133 := n3_; clear n0_ n1_ n2_ n3_; clear hb hbox hg; have hcz10_0 : w9.cell? ⟨gb133, 0, none⟩ = some (.bool false) := (blk_cell BK133.out 0).trans rfl; have hcz10_1 : w9.cell? ⟨gb133, 1, none⟩ = some (.bool false) := (blk_cell BK133.out 1).trans rfl; have hcz10_2 : w9.cell? ⟨gb133, 2, none⟩ = some (.bool false) := (blk_cell BK133.out 2).trans rfl; have hcz10_3 : w9.cell? ⟨gb133, 3, none⟩ = some (.bool false) := (blk_cell BK133.out 3).trans rfl; have hfz10_0 := blk_frozen BK133.out 0; have hfz10_1 := blk_frozen BK133.out 1; have hfz10_2 := blk_frozen BK133.out 2; have hfz10_3 := blk_frozen BK133.out 3) | ((with_reducible refine gate_callee (f := 19) rfl ?_); refine goesL_ (some 16) rfl rfl Try.func19 (by kernel_rfl) rfl #[.bool false, .int .i64 4294967295, .int .i64 2147483648, .int .i64 4294967295] rfl (by (try simp only [List.map_toArray, List.map_cons, List.map_nil]); first | done | rfl | (simp only [List.length_drop, List.length_take]; rfl)) ?_; (with_reducible refine (flags_Idiv.calls k false 4294967295 2147483648 4294967295 t134 t135 true _ A2.out).mono ?_); rintro e w' ⟨rfl, ⟨nd, rfl⟩⟩; refine ⟨_, rfl, ?_⟩) | ((with_reducible refine gate_callee (f := 17) rfl ?_); refine goesL_ (some 21) rfl rfl Try.func17 (by kernel_rfl) rfl #[.bool false, .int .i64 1, .int .i64 0, .int .i64 3] rfl (by (try simp only [List.map_toArray, List.map_cons, List.map_nil]); first | done | rfl | (simp only [List.length_drop, List.length_take]; rfl)) ?_; (with_reducible refine (flags_Div.calls k false 1 0 3 t137 t138 t139 _ A3.out).mono ?_); rintro e w' ⟨rfl, ⟨nd, rfl⟩⟩; refine ⟨_, rfl, ?_⟩))
          go_ret
          exact ⟨by first | rfl | (simp [errW_none, errW_some] <;> (first | rfl | grind)) | (simp [*, errW_none, errW_some] <;> rfl), by repeat (first | (with_reducible first | exact HB.out | apply below_alloc | apply pw_below_drewN | apply below_drew1 | refine below_set ?_ GE133.out) | exact HB.out)⟩
        · replace c7 := Bool.eq_false_iff.mpr c7
          subst c7
          (try simp only [Bool.false_beq, Bool.true_beq] at *)
          have H1 : (if t137 = 1431655765 then (if t138 = 1 then (some t139) else (some false)) else (some false)) = some r := by rw [if_neg (show ¬ (false = true) by decide)] at H; exact H
          clear H
          have H := H1
          clear H1
          by_cases c11 : t137 = 1431655765
          · rw [if_pos c11] at H
            have c11b0 : (t137 == 1431655765) = true := beq_iff_eq.mpr c11
            have c11b1 : (t137 != 1431655765) = false := bne_eq_false_iff_eq.mpr c11
            clear c11
            by_cases c12 : t138 = 1
            · rw [if_pos c12] at H
              have c12b0 : (t138 == 1) = true := beq_iff_eq.mpr c12
              have c12b1 : (t138 != 1) = false := bne_eq_false_iff_eq.mpr c12
              clear c12
              obtain rfl := Option.some.inj H
              go_enter Try.func12, Try.ntmps12
              go_wp2_with (first | ((with_reducible refine gate_callee (f := 13) rfl ?_); refine goesL_ (some 11) rfl rfl Try.func13 (by kernel_rfl) rfl #[.int .i64 5, .bool false, .int .i64 0, .int .i64 1] rfl (by (try simp only [List.map_toArray, List.map_cons, List.map_nil]); first | done | rfl | (simp only [List.length_drop, List.length_take]; rfl)) ?_; (with_reducible refine (flags_Alu.calls k 5 false 0 1 t127 t128 t129 t130 t131 true _ A1.out).mono ?_); rintro e w13 ⟨rfl, hb⟩; refine ⟨_, rfl, ?_⟩; have n0_ := Aside0.mk (below_step (by repeat (first | (with_reducible first | exact HB.out | apply below_alloc | apply pw_below_drewN | apply below_drew1) | exact HB.out)) hb); clear HB; have HB := n0_; clear n0_; (try clear hb); (try clear hb2); (try clear hk); (try clear hi)) | ((with_reducible refine gate_dst (N := 2) rfl ?_); refine box_event ?hg (N := 2) ?hd (cs := #[.bool false, .bool false, .bool false, .bool false]) (t := 24) ?hr ?_; (case hd => rfl); (case hg => rfl); (case hr => first | (go_simp; done) | (go_simp; rfl)); intro gb133 hg w14 hbox hb; have n0_ := Aside0.mk (below_step (by repeat (first | (with_reducible first | exact HB.out | apply below_alloc | apply pw_below_drewN | apply below_drew1) | exact HB.out)) hb); have n1_ := Aside0.mk (hbox); have n2_ := Aside0.mk ((by rw [hg]; exact (below_size (by repeat (first | (with_reducible first | exact HB.out | apply below_alloc | apply pw_below_drewN | apply below_drew1) | exact HB.out))) : w.heap.size ≤ gb133)); have n3_ := Aside0.mk ((by rw [hg]; exact (below_size (by repeat (first | (with_reducible first | exact HB.out | apply below_alloc | apply pw_below_drewN | apply below_drew1) | exact HB.out))) : w.heap.size ≤ gb133)); clear HB; have HB := n0_; have BK133 := n1_; have GW133 := n2_; have GE133 := n3_; clear n0_ n1_ n2_ n3_; clear hb hbox hg; have hcz15_0 : w14.cell? ⟨gb133, 0, none⟩ = some (.bool false) := (blk_cell BK133.out 0).trans rfl; have hcz15_1 : w14.cell? ⟨gb133, 1, none⟩ = some (.bool false) := (blk_cell BK133.out 1).trans rfl; have hcz15_2 : w14.cell? ⟨gb133, 2, none⟩ = some (.bool false) := (blk_cell BK133.out 2).trans rfl; have hcz15_3 : w14.cell? ⟨gb133, 3, none⟩ = some (.bool false) := (blk_cell BK133.out 3).trans rfl; have hfz15_0 := blk_frozen BK133.out 0; have hfz15_1 := blk_frozen BK133.out 1; have hfz15_2 := blk_frozen BK133.out 2; have hfz15_3 := blk_frozen BK133.out 3) | ((with_reducible refine gate_callee (f := 19) rfl ?_); refine goesL_ (some 16) rfl rfl Try.func19 (by kernel_rfl) rfl #[.bool false, .int .i64 4294967295, .int .i64 2147483648, .int .i64 4294967295] rfl (by (try simp only [List.map_toArray, List.map_cons, List.map_nil]); first | done | rfl | (simp only [List.length_drop, List.length_take]; rfl)) ?_; (with_reducible refine (flags_Idiv.calls k false 4294967295 2147483648 4294967295 t134 t135 false _ A2.out).mono ?_); rintro e w' ⟨rfl, ⟨nd, rfl⟩⟩; refine ⟨_, rfl, ?_⟩) | ((with_reducible refine gate_callee (f := 17) rfl ?_); refine goesL_ (some 21) rfl rfl Try.func17 (by kernel_rfl) rfl #[.bool false, .int .i64 1, .int .i64 0, .int .i64 3] rfl (by (try simp only [List.map_toArray, List.map_cons, List.map_nil]); first | done | rfl | (simp only [List.length_drop, List.length_take]; rfl)) ?_; (with_reducible refine (flags_Div.calls k false 1 0 3 t137 t138 t139 _ A3.out).mono ?_); rintro e w' ⟨rfl, ⟨nd, rfl⟩⟩; refine ⟨_, rfl, ?_⟩))
              go_ret
              exact ⟨by first | rfl | (simp [errW_none, errW_some] <;> (first | rfl | grind)) | (simp [*, errW_none, errW_some] <;> rfl), by repeat (first | (with_reducible first | exact HB.out | apply below_alloc | apply pw_below_drewN | apply below_drew1 | refine below_set ?_ GE133.out) | exact HB.out)⟩
            · rw [if_neg c12] at H
              have c12b0 : (t138 == 1) = false := beq_eq_false_iff_ne.mpr c12
              have c12b1 : (t138 != 1) = true := bne_iff_ne.mpr c12
              obtain rfl := Option.some.inj H
              go_enter Try.func12, Try.ntmps12
              go_wp2_with (first | ((with_reducible refine gate_callee (f := 13) rfl ?_); refine goesL_ (some 11) rfl rfl Try.func13 (by kernel_rfl) rfl #[.int .i64 5, .bool false, .int .i64 0, .int .i64 1] rfl (by (try simp only [List.map_toArray, List.map_cons, List.map_nil]); first | done | rfl | (simp only [List.length_drop, List.length_take]; rfl)) ?_; (with_reducible refine (flags_Alu.calls k 5 false 0 1 t127 t128 t129 t130 t131 true _ A1.out).mono ?_); rintro e w16 ⟨rfl, hb⟩; refine ⟨_, rfl, ?_⟩; have n0_ := Aside0.mk (below_step (by repeat (first | (with_reducible first | exact HB.out | apply below_alloc | apply pw_below_drewN | apply below_drew1) | exact HB.out)) hb); clear HB; have HB := n0_; clear n0_; (try clear hb); (try clear hb2); (try clear hk); (try clear hi)) | ((with_reducible refine gate_dst (N := 2) rfl ?_); refine box_event ?hg (N := 2) ?hd (cs := #[.bool false, .bool false, .bool false, .bool false]) (t := 24) ?hr ?_; (case hd => rfl); (case hg => rfl); (case hr => first | (go_simp; done) | (go_simp; rfl)); intro gb133 hg w17 hbox hb; have n0_ := Aside0.mk (below_step (by repeat (first | (with_reducible first | exact HB.out | apply below_alloc | apply pw_below_drewN | apply below_drew1) | exact HB.out)) hb); have n1_ := Aside0.mk (hbox); have n2_ := Aside0.mk ((by rw [hg]; exact (below_size (by repeat (first | (with_reducible first | exact HB.out | apply below_alloc | apply pw_below_drewN | apply below_drew1) | exact HB.out))) : w.heap.size ≤ gb133)); have n3_ := Aside0.mk ((by rw [hg]; exact (below_size (by repeat (first | (with_reducible first | exact HB.out | apply below_alloc | apply pw_below_drewN | apply below_drew1) | exact HB.out))) : w.heap.size ≤ gb133)); clear HB; have HB := n0_; have BK133 := n1_; have GW133 := n2_; have GE133 := n3_; clear n0_ n1_ n2_ n3_; clear hb hbox hg; have hcz18_0 : w17.cell? ⟨gb133, 0, none⟩ = some (.bool false) := (blk_cell BK133.out 0).trans rfl; have hcz18_1 : w17.cell? ⟨gb133, 1, none⟩ = some (.bool false) := (blk_cell BK133.out 1).trans rfl; have hcz18_2 : w17.cell? ⟨gb133, 2, none⟩ = some (.bool false) := (blk_cell BK133.out 2).trans rfl; have hcz18_3 : w17.cell? ⟨gb133, 3, none⟩ = some (.bool false) := (blk_cell BK133.out 3).trans rfl; have hfz18_0 := blk_frozen BK133.out 0; have hfz18_1 := blk_frozen BK133.out 1; have hfz18_2 := blk_frozen BK133.out 2; have hfz18_3 := blk_frozen BK133.out 3) | ((with_reducible refine gate_callee (f := 19) rfl ?_); refine goesL_ (some 16) rfl rfl Try.func19 (by kernel_rfl) rfl #[.bool false, .int .i64 4294967295, .int .i64 2147483648, .int .i64 4294967295] rfl (by (try simp only [List.map_toArray, List.map_cons, List.map_nil]); first | done | rfl | (simp only [List.length_drop, List.length_take]; rfl)) ?_; (with_reducible refine (flags_Idiv.calls k false 4294967295 2147483648 4294967295 t134 t135 false _ A2.out).mono ?_); rintro e w' ⟨rfl, ⟨nd, rfl⟩⟩; refine ⟨_, rfl, ?_⟩) | ((with_reducible refine gate_callee (f := 17) rfl ?_); refine goesL_ (some 21) rfl rfl Try.func17 (by kernel_rfl) rfl #[.bool false, .int .i64 1, .int .i64 0, .int .i64 3] rfl (by (try simp only [List.map_toArray, List.map_cons, List.map_nil]); first | done | rfl | (simp only [List.length_drop, List.length_take]; rfl)) ?_; (with_reducible refine (flags_Div.calls k false 1 0 3 t137 t138 t139 _ A3.out).mono ?_); rintro e w' ⟨rfl, ⟨nd, rfl⟩⟩; refine ⟨_, rfl, ?_⟩))
              go_ret
              exact ⟨by first | rfl | (simp [errW_none, errW_some] <;> (first | rfl | grind)) | (simp [*, errW_none, errW_some] <;> rfl), by repeat (first | (with_reducible first | exact HB.out | apply below_alloc | apply pw_below_drewN | apply below_drew1 | refine below_set ?_ GE133.out) | exact HB.out)⟩
          · rw [if_neg c11] at H
            have c11b0 : (t137 == 1431655765) = false := beq_eq_false_iff_ne.mpr c11
            have c11b1 : (t137 != 1431655765) = true := bne_iff_ne.mpr c11
            obtain rfl := Option.some.inj H
            go_enter Try.func12, Try.ntmps12
            go_wp2_with (first | ((with_reducible refine gate_callee (f := 13) rfl ?_); refine goesL_ (some 11) rfl rfl Try.func13 (by kernel_rfl) rfl #[.int .i64 5, .bool false, .int .i64 0, .int .i64 1] rfl (by (try simp only [List.map_toArray, List.map_cons, List.map_nil]); first | done | rfl | (simp only [List.length_drop, List.length_take]; rfl)) ?_; (with_reducible refine (flags_Alu.calls k 5 false 0 1 t127 t128 t129 t130 t131 true _ A1.out).mono ?_); rintro e w19 ⟨rfl, hb⟩; refine ⟨_, rfl, ?_⟩; have n0_ := Aside0.mk (below_step (by repeat (first | (with_reducible first | exact HB.out | apply below_alloc | apply pw_below_drewN | apply below_drew1) | exact HB.out)) hb); clear HB; have HB := n0_; clear n0_; (try clear hb); (try clear hb2); (try clear hk); (try clear hi)) | ((with_reducible refine gate_dst (N := 2) rfl ?_); refine box_event ?hg (N := 2) ?hd (cs := #[.bool false, .bool false, .bool false, .bool false]) (t := 24) ?hr ?_; (case hd => rfl); (case hg => rfl); (case hr => first | (go_simp; done) | (go_simp; rfl)); intro gb133 hg w20 hbox hb; have n0_ := Aside0.mk (below_step (by repeat (first | (with_reducible first | exact HB.out | apply below_alloc | apply pw_below_drewN | apply below_drew1) | exact HB.out)) hb); have n1_ := Aside0.mk (hbox); have n2_ := Aside0.mk ((by rw [hg]; exact (below_size (by repeat (first | (with_reducible first | exact HB.out | apply below_alloc | apply pw_below_drewN | apply below_drew1) | exact HB.out))) : w.heap.size ≤ gb133)); have n3_ := Aside0.mk ((by rw [hg]; exact (below_size (by repeat (first | (with_reducible first | exact HB.out | apply below_alloc | apply pw_below_drewN | apply below_drew1) | exact HB.out))) : w.heap.size ≤ gb133)); clear HB; have HB := n0_; have BK133 := n1_; have GW133 := n2_; have GE133 := n3_; clear n0_ n1_ n2_ n3_; clear hb hbox hg; have hcz21_0 : w20.cell? ⟨gb133, 0, none⟩ = some (.bool false) := (blk_cell BK133.out 0).trans rfl; have hcz21_1 : w20.cell? ⟨gb133, 1, none⟩ = some (.bool false) := (blk_cell BK133.out 1).trans rfl; have hcz21_2 : w20.cell? ⟨gb133, 2, none⟩ = some (.bool false) := (blk_cell BK133.out 2).trans rfl; have hcz21_3 : w20.cell? ⟨gb133, 3, none⟩ = some (.bool false) := (blk_cell BK133.out 3).trans rfl; have hfz21_0 := blk_frozen BK133.out 0; have hfz21_1 := blk_frozen BK133.out 1; have hfz21_2 := blk_frozen BK133.out 2; have hfz21_3 := blk_frozen BK133.out 3) | ((with_reducible refine gate_callee (f := 19) rfl ?_); refine goesL_ (some 16) rfl rfl Try.func19 (by kernel_rfl) rfl #[.bool false, .int .i64 4294967295, .int .i64 2147483648, .int .i64 4294967295] rfl (by (try simp only [List.map_toArray, List.map_cons, List.map_nil]); first | done | rfl | (simp only [List.length_drop, List.length_take]; rfl)) ?_; (with_reducible refine (flags_Idiv.calls k false 4294967295 2147483648 4294967295 t134 t135 false _ A2.out).mono ?_); rintro e w' ⟨rfl, ⟨nd, rfl⟩⟩; refine ⟨_, rfl, ?_⟩) | ((with_reducible refine gate_callee (f := 17) rfl ?_); refine goesL_ (some 21) rfl rfl Try.func17 (by kernel_rfl) rfl #[.bool false, .int .i64 1, .int .i64 0, .int .i64 3] rfl (by (try simp only [List.map_toArray, List.map_cons, List.map_nil]); first | done | rfl | (simp only [List.length_drop, List.length_take]; rfl)) ?_; (with_reducible refine (flags_Div.calls k false 1 0 3 t137 t138 t139 _ A3.out).mono ?_); rintro e w' ⟨rfl, ⟨nd, rfl⟩⟩; refine ⟨_, rfl, ?_⟩))
            go_ret
            exact ⟨by first | rfl | (simp [errW_none, errW_some] <;> (first | rfl | grind)) | (simp [*, errW_none, errW_some] <;> rfl), by repeat (first | (with_reducible first | exact HB.out | apply below_alloc | apply pw_below_drewN | apply below_drew1 | refine below_set ?_ GE133.out) | exact HB.out)⟩
      · replace c6 := Bool.eq_false_iff.mpr c6
        subst c6
        (try simp only [Bool.false_beq, Bool.true_beq] at *)
        have H1 : (some false) = some r := by rw [if_neg (show ¬ (false = true) by decide)] at H; exact H
        clear H
        have H := H1
        clear H1
        obtain rfl := Option.some.inj H
        go_enter Try.func12, Try.ntmps12
        go_wp2_with (first | ((with_reducible refine gate_callee (f := 13) rfl ?_); refine goesL_ (some 11) rfl rfl Try.func13 (by kernel_rfl) rfl #[.int .i64 5, .bool false, .int .i64 0, .int .i64 1] rfl (by (try simp only [List.map_toArray, List.map_cons, List.map_nil]); first | done | rfl | (simp only [List.length_drop, List.length_take]; rfl)) ?_; (with_reducible refine (flags_Alu.calls k 5 false 0 1 t127 t128 t129 t130 t131 false _ A1.out).mono ?_); rintro e w22 ⟨rfl, hb⟩; refine ⟨_, rfl, ?_⟩; have n0_ := Aside0.mk (below_step (by repeat (first | (with_reducible first | exact HB.out | apply below_alloc | apply pw_below_drewN | apply below_drew1) | exact HB.out)) hb); clear HB; have HB := n0_; clear n0_; (try clear hb); (try clear hb2); (try clear hk); (try clear hi)) | ((with_reducible refine gate_dst (N := 2) rfl ?_); refine box_event ?hg (N := 2) ?hd (cs := #[.bool false, .bool false, .bool false, .bool false]) (t := 24) ?hr ?_; (case hd => rfl); (case hg => rfl); (case hr => first | (go_simp; done) | (go_simp; rfl)); intro gb133 hg w23 hbox hb; have n0_ := Aside0.mk (below_step (by repeat (first | (with_reducible first | exact HB.out | apply below_alloc | apply pw_below_drewN | apply below_drew1) | exact HB.out)) hb); have n1_ := Aside0.mk (hbox); have n2_ := Aside0.mk ((by rw [hg]; exact (below_size (by repeat (first | (with_reducible first | exact HB.out | apply below_alloc | apply pw_below_drewN | apply below_drew1) | exact HB.out))) : w.heap.size ≤ gb133)); have n3_ := Aside0.mk ((by rw [hg]; exact (below_size (by repeat (first | (with_reducible first | exact HB.out | apply below_alloc | apply pw_below_drewN | apply below_drew1) | exact HB.out))) : w.heap.size ≤ gb133)); clear HB; have HB := n0_; have BK133 := n1_; have GW133 := n2_; have GE133 := n3_; clear n0_ n1_ n2_ n3_; clear hb hbox hg; have hcz24_0 : w23.cell? ⟨gb133, 0, none⟩ = some (.bool false) := (blk_cell BK133.out 0).trans rfl; have hcz24_1 : w23.cell? ⟨gb133, 1, none⟩ = some (.bool false) := (blk_cell BK133.out 1).trans rfl; have hcz24_2 : w23.cell? ⟨gb133, 2, none⟩ = some (.bool false) := (blk_cell BK133.out 2).trans rfl; have hcz24_3 : w23.cell? ⟨gb133, 3, none⟩ = some (.bool false) := (blk_cell BK133.out 3).trans rfl; have hfz24_0 := blk_frozen BK133.out 0; have hfz24_1 := blk_frozen BK133.out 1; have hfz24_2 := blk_frozen BK133.out 2; have hfz24_3 := blk_frozen BK133.out 3) | ((with_reducible refine gate_callee (f := 19) rfl ?_); refine goesL_ (some 16) rfl rfl Try.func19 (by kernel_rfl) rfl #[.bool false, .int .i64 4294967295, .int .i64 2147483648, .int .i64 4294967295] rfl (by (try simp only [List.map_toArray, List.map_cons, List.map_nil]); first | done | rfl | (simp only [List.length_drop, List.length_take]; rfl)) ?_; (with_reducible refine (flags_Idiv.calls k false 4294967295 2147483648 4294967295 t134 t135 t136 _ A2.out).mono ?_); rintro e w' ⟨rfl, ⟨nd, rfl⟩⟩; refine ⟨_, rfl, ?_⟩) | ((with_reducible refine gate_callee (f := 17) rfl ?_); refine goesL_ (some 21) rfl rfl Try.func17 (by kernel_rfl) rfl #[.bool false, .int .i64 1, .int .i64 0, .int .i64 3] rfl (by (try simp only [List.map_toArray, List.map_cons, List.map_nil]); first | done | rfl | (simp only [List.length_drop, List.length_take]; rfl)) ?_; (with_reducible refine (flags_Div.calls k false 1 0 3 t137 t138 t139 _ A3.out).mono ?_); rintro e w' ⟨rfl, ⟨nd, rfl⟩⟩; refine ⟨_, rfl, ?_⟩))
        go_ret
        exact ⟨by first | rfl | (simp [errW_none, errW_some] <;> (first | rfl | grind)) | (simp [*, errW_none, errW_some] <;> rfl), by repeat (first | (with_reducible first | exact HB.out | apply below_alloc | apply pw_below_drewN | apply below_drew1 | refine below_set ?_ GE133.out) | exact HB.out)⟩
    · rw [if_neg c5] at H
      have c5b0 : (!t128 && (t129 && (t130 && (!t131)))) = false := by simpa using c5
      clear c5
      obtain rfl := Option.some.inj H
      go_enter Try.func12, Try.ntmps12
      go_wp2_with (first | ((with_reducible refine gate_callee (f := 13) rfl ?_); refine goesL_ (some 11) rfl rfl Try.func13 (by kernel_rfl) rfl #[.int .i64 5, .bool false, .int .i64 0, .int .i64 1] rfl (by (try simp only [List.map_toArray, List.map_cons, List.map_nil]); first | done | rfl | (simp only [List.length_drop, List.length_take]; rfl)) ?_; (with_reducible refine (flags_Alu.calls k 5 false 0 1 t127 t128 t129 t130 t131 t132 _ A1.out).mono ?_); rintro e w25 ⟨rfl, hb⟩; refine ⟨_, rfl, ?_⟩; have n0_ := Aside0.mk (below_step (by repeat (first | (with_reducible first | exact HB.out | apply below_alloc | apply pw_below_drewN | apply below_drew1) | exact HB.out)) hb); clear HB; have HB := n0_; clear n0_; (try clear hb); (try clear hb2); (try clear hk); (try clear hi)) | ((with_reducible refine gate_dst (N := 2) rfl ?_); refine box_event ?hg (N := 2) ?hd (cs := #[.bool false, .bool false, .bool false, .bool false]) (t := 24) ?hr ?_; (case hd => rfl); (case hg => rfl); (case hr => first | (go_simp; done) | (go_simp; rfl)); intro gb133 hg w26 hbox hb; have n0_ := Aside0.mk (below_step (by repeat (first | (with_reducible first | exact HB.out | apply below_alloc | apply pw_below_drewN | apply below_drew1) | exact HB.out)) hb); have n1_ := Aside0.mk (hbox); have n2_ := Aside0.mk ((by rw [hg]; exact (below_size (by repeat (first | (with_reducible first | exact HB.out | apply below_alloc | apply pw_below_drewN | apply below_drew1) | exact HB.out))) : w.heap.size ≤ gb133)); have n3_ := Aside0.mk ((by rw [hg]; exact (below_size (by repeat (first | (with_reducible first | exact HB.out | apply below_alloc | apply pw_below_drewN | apply below_drew1) | exact HB.out))) : w.heap.size ≤ gb133)); clear HB; have HB := n0_; have BK133 := n1_; have GW133 := n2_; have GE133 := n3_; clear n0_ n1_ n2_ n3_; clear hb hbox hg; have hcz27_0 : w26.cell? ⟨gb133, 0, none⟩ = some (.bool false) := (blk_cell BK133.out 0).trans rfl; have hcz27_1 : w26.cell? ⟨gb133, 1, none⟩ = some (.bool false) := (blk_cell BK133.out 1).trans rfl; have hcz27_2 : w26.cell? ⟨gb133, 2, none⟩ = some (.bool false) := (blk_cell BK133.out 2).trans rfl; have hcz27_3 : w26.cell? ⟨gb133, 3, none⟩ = some (.bool false) := (blk_cell BK133.out 3).trans rfl; have hfz27_0 := blk_frozen BK133.out 0; have hfz27_1 := blk_frozen BK133.out 1; have hfz27_2 := blk_frozen BK133.out 2; have hfz27_3 := blk_frozen BK133.out 3) | ((with_reducible refine gate_callee (f := 19) rfl ?_); refine goesL_ (some 16) rfl rfl Try.func19 (by kernel_rfl) rfl #[.bool false, .int .i64 4294967295, .int .i64 2147483648, .int .i64 4294967295] rfl (by (try simp only [List.map_toArray, List.map_cons, List.map_nil]); first | done | rfl | (simp only [List.length_drop, List.length_take]; rfl)) ?_; (with_reducible refine (flags_Idiv.calls k false 4294967295 2147483648 4294967295 t134 t135 t136 _ A2.out).mono ?_); rintro e w' ⟨rfl, ⟨nd, rfl⟩⟩; refine ⟨_, rfl, ?_⟩) | ((with_reducible refine gate_callee (f := 17) rfl ?_); refine goesL_ (some 21) rfl rfl Try.func17 (by kernel_rfl) rfl #[.bool false, .int .i64 1, .int .i64 0, .int .i64 3] rfl (by (try simp only [List.map_toArray, List.map_cons, List.map_nil]); first | done | rfl | (simp only [List.length_drop, List.length_take]; rfl)) ?_; (with_reducible refine (flags_Div.calls k false 1 0 3 t137 t138 t139 _ A3.out).mono ?_); rintro e w' ⟨rfl, ⟨nd, rfl⟩⟩; refine ⟨_, rfl, ?_⟩))
      go_ret
      exact ⟨by first | rfl | (simp [errW_none, errW_some] <;> (first | rfl | grind)) | (simp [*, errW_none, errW_some] <;> rfl), by repeat (first | (with_reducible first | exact HB.out | apply below_alloc | apply pw_below_drewN | apply below_drew1 | refine below_set ?_ GE133.out) | exact HB.out)⟩
  · rw [if_neg c4] at H
    have c4b0 : (t127 == 4294967295) = false := beq_eq_false_iff_ne.mpr c4
    have c4b1 : (t127 != 4294967295) = true := bne_iff_ne.mpr c4
    obtain rfl := Option.some.inj H
    go_enter Try.func12, Try.ntmps12
    go_wp2_with (first | ((with_reducible refine gate_callee (f := 13) rfl ?_); refine goesL_ (some 11) rfl rfl Try.func13 (by kernel_rfl) rfl #[.int .i64 5, .bool false, .int .i64 0, .int .i64 1] rfl (by (try simp only [List.map_toArray, List.map_cons, List.map_nil]); first | done | rfl | (simp only [List.length_drop, List.length_take]; rfl)) ?_; (with_reducible refine (flags_Alu.calls k 5 false 0 1 t127 t128 t129 t130 t131 t132 _ A1.out).mono ?_); rintro e w28 ⟨rfl, hb⟩; refine ⟨_, rfl, ?_⟩; have n0_ := Aside0.mk (below_step (by repeat (first | (with_reducible first | exact HB.out | apply below_alloc | apply pw_below_drewN | apply below_drew1) | exact HB.out)) hb); clear HB; have HB := n0_; clear n0_; (try clear hb); (try clear hb2); (try clear hk); (try clear hi)) | ((with_reducible refine gate_dst (N := 2) rfl ?_); refine box_event ?hg (N := 2) ?hd (cs := #[.bool false, .bool false, .bool false, .bool false]) (t := 24) ?hr ?_; (case hd => rfl); (case hg => rfl); (case hr => first | (go_simp; done) | (go_simp; rfl)); intro gb133 hg w29 hbox hb; have n0_ := Aside0.mk (below_step (by repeat (first | (with_reducible first | exact HB.out | apply below_alloc | apply pw_below_drewN | apply below_drew1) | exact HB.out)) hb); have n1_ := Aside0.mk (hbox); have n2_ := Aside0.mk ((by rw [hg]; exact (below_size (by repeat (first | (with_reducible first | exact HB.out | apply below_alloc | apply pw_below_drewN | apply below_drew1) | exact HB.out))) : w.heap.size ≤ gb133)); have n3_ := Aside0.mk ((by rw [hg]; exact (below_size (by repeat (first | (with_reducible first | exact HB.out | apply below_alloc | apply pw_below_drewN | apply below_drew1) | exact HB.out))) : w.heap.size ≤ gb133)); clear HB; have HB := n0_; have BK133 := n1_; have GW133 := n2_; have GE133 := n3_; clear n0_ n1_ n2_ n3_; clear hb hbox hg; have hcz30_0 : w29.cell? ⟨gb133, 0, none⟩ = some (.bool false) := (blk_cell BK133.out 0).trans rfl; have hcz30_1 : w29.cell? ⟨gb133, 1, none⟩ = some (.bool false) := (blk_cell BK133.out 1).trans rfl; have hcz30_2 : w29.cell? ⟨gb133, 2, none⟩ = some (.bool false) := (blk_cell BK133.out 2).trans rfl; have hcz30_3 : w29.cell? ⟨gb133, 3, none⟩ = some (.bool false) := (blk_cell BK133.out 3).trans rfl; have hfz30_0 := blk_frozen BK133.out 0; have hfz30_1 := blk_frozen BK133.out 1; have hfz30_2 := blk_frozen BK133.out 2; have hfz30_3 := blk_frozen BK133.out 3) | ((with_reducible refine gate_callee (f := 19) rfl ?_); refine goesL_ (some 16) rfl rfl Try.func19 (by kernel_rfl) rfl #[.bool false, .int .i64 4294967295, .int .i64 2147483648, .int .i64 4294967295] rfl (by (try simp only [List.map_toArray, List.map_cons, List.map_nil]); first | done | rfl | (simp only [List.length_drop, List.length_take]; rfl)) ?_; (with_reducible refine (flags_Idiv.calls k false 4294967295 2147483648 4294967295 t134 t135 t136 _ A2.out).mono ?_); rintro e w' ⟨rfl, ⟨nd, rfl⟩⟩; refine ⟨_, rfl, ?_⟩) | ((with_reducible refine gate_callee (f := 17) rfl ?_); refine goesL_ (some 21) rfl rfl Try.func17 (by kernel_rfl) rfl #[.bool false, .int .i64 1, .int .i64 0, .int .i64 3] rfl (by (try simp only [List.map_toArray, List.map_cons, List.map_nil]); first | done | rfl | (simp only [List.length_drop, List.length_take]; rfl)) ?_; (with_reducible refine (flags_Div.calls k false 1 0 3 t137 t138 t139 _ A3.out).mono ?_); rintro e w' ⟨rfl, ⟨nd, rfl⟩⟩; refine ⟨_, rfl, ?_⟩))
    go_ret
    exact ⟨by first | rfl | (simp [errW_none, errW_some] <;> (first | rfl | grind)) | (simp [*, errW_none, errW_some] <;> rfl), by repeat (first | (with_reducible first | exact HB.out | apply below_alloc | apply pw_below_drewN | apply below_drew1 | refine below_set ?_ GE133.out) | exact HB.out)⟩

/-! ### flags_Shift: function 23 -/
def flags_Shift.r64 (x s : Int) : Int := Go.bits .or .u64 (IntKind.u64.wrap (x * 2 ^ s.toNat)) (x / 2 ^ (64 - s).toNat)
def flags_Shift.r32 (x s : Int) : Int := Go.bits .or .u32 (x * 2 ^ s.toNat % 4294967296) (x / 2 ^ (32 - s).toNat)
theorem flags_Shift.rl64 (x k s : Int) (w : World) (hs : Go.bits .and .u64 (IntKind.u64.wrap k) 63 = s) (h0 : 0 ≤ s) (h1 : s ≤ 63) :
    Calls Try.prog 33 #[.int .u64 x, .int .i64 k] w fun e w' => e = .returned (.int .u64 (flags_Shift.r64 x s)) ∧ w = w' := by
  go_enter Try.func33, Try.ntmps33
  go_wp2
  go_ret
  exact ⟨rfl, rfl⟩
theorem flags_Shift.rl32 (x k s : Int) (w : World) (hs : Go.bits .and .u64 (IntKind.u64.wrap k) 31 = s) (h0 : 0 ≤ s) (h1 : s ≤ 31) :
    Calls Try.prog 31 #[.int .u32 x, .int .i64 k] w fun e w' => e = .returned (.int .u32 (flags_Shift.r32 x s)) ∧ w = w' := by
  go_enter Try.func31, Try.ntmps31
  go_wp2
  go_ret
  exact ⟨rfl, rfl⟩
theorem flags_Shift.t64 (v k s : Int) (A : Addr) (w : World) (h : w.cell? A = some (.int .i64 v)) (hs : Go.bits .and .u64 (IntKind.u64.wrap k) 63 = s) (h0 : 0 ≤ s) (h1 : s ≤ 63) :
    Calls Try.prog 32 #[.int .i64 k, .pointer (some A)] w fun e w' => e = .returned (.int .i64 (wrap64 (flags_Shift.r64 (IntKind.u64.wrap v) s))) ∧ w = w' := by
  have HS := Aside0.mk hs
  clear hs
  go_enter Try.func32, Try.ntmps32
  go_wp2_with (go_at_call 33; (with_reducible refine (flags_Shift.rl64 _ _ s _ HS.out h0 h1).mono ?_); rintro e w1 ⟨rfl, rfl⟩)
  go_ret
  exact ⟨by first | rfl | simp, rfl⟩
theorem flags_Shift.t32 (v k s : Int) (A : Addr) (w : World) (h : w.cell? A = some (.int .i64 v)) (hs : Go.bits .and .u64 (IntKind.u64.wrap k) 31 = s) (h0 : 0 ≤ s) (h1 : s ≤ 31) :
    Calls Try.prog 30 #[.int .i64 k, .pointer (some A)] w fun e w' => e = .returned (.int .i64 (wrap64 (flags_Shift.r32 (v % 4294967296) s))) ∧ w = w' := by
  have HS := Aside0.mk hs
  clear hs
  go_enter Try.func30, Try.ntmps30
  go_wp2_with (go_at_call 31; (with_reducible refine (flags_Shift.rl32 _ _ s _ HS.out h0 h1).mono ?_); rintro e w1 ⟨rfl, rfl⟩)
  go_ret
  exact ⟨by first | rfl | simp, rfl⟩
/-- how far it is turned, or moved -/
def flags_Shift.by (w : Bool) (n : Int) : Int := if w = true then Go.bits .and .i64 n 63 else Go.bits .and .i64 n 31
def flags_Shift.turn (w : Bool) (v k : Int) : Int := if w = true then wrap64 (flags_Shift.r64 (IntKind.u64.wrap v) (Go.bits .and .u64 (IntKind.u64.wrap k) 63)) else wrap64 (flags_Shift.r32 (v % 4294967296) (Go.bits .and .u64 (IntKind.u64.wrap k) 31))
def flags_Shift.f (a0 : Int) (a1 : Bool) (a2 a3 : Int) : Option (Int × Bool) :=
  (flags_Trim.f a1 a2).bind fun v =>
  if a0 = 0 then (flags_Trim.f a1 (flags_Shift.turn a1 v (flags_Shift.by a1 a3))).bind fun r => some (r, true)
  else if a0 = 1 then (flags_Trim.f a1 (flags_Shift.turn a1 v (-(flags_Shift.by a1 a3)))).bind fun r => some (r, true)
  else if a0 = 4 then (flags_Trim.f a1 (wrap64 (v * 2 ^ (flags_Shift.by a1 a3).toNat))).bind fun r => some (r, true)
  else if a0 = 5 then (flags_Trim.f a1 (wrap64 (IntKind.u64.wrap v / 2 ^ (flags_Shift.by a1 a3).toNat))).bind fun r => some (r, true)
  else if a0 = 7 then (flags_sign.f a1 v).bind fun s => (flags_Trim.f a1 (s / 2 ^ (flags_Shift.by a1 a3).toNat)).bind fun r => some (r, true)
  else some (0, false)
theorem flags_Shift.mask (n : Int) : (0 ≤ Go.bits .and .i64 n 63 ∧ Go.bits .and .i64 n 63 ≤ 63) ∧ (0 ≤ Go.bits .and .i64 n 31 ∧ Go.bits .and .i64 n 31 ≤ 31) := by
  have h1 : Go.bits .and .i64 n 63 = n % 64 := Go.Ob.and_mask n 6 (by decide)
  have h2 : Go.bits .and .i64 n 31 = n % 32 := Go.Ob.and_mask n 5 (by decide)
  omega
theorem flags_Shift.masku (k : Int) : (0 ≤ Go.bits .and .u64 (IntKind.u64.wrap k) 63 ∧ Go.bits .and .u64 (IntKind.u64.wrap k) 63 ≤ 63) ∧ (0 ≤ Go.bits .and .u64 (IntKind.u64.wrap k) 31 ∧ Go.bits .and .u64 (IntKind.u64.wrap k) 31 ≤ 31) := by
  obtain ⟨n, hn⟩ := Int.eq_ofNat_of_zero_le (show 0 ≤ IntKind.u64.wrap k by rw [IntKind.wrap_u64]; omega)
  have hlt : IntKind.u64.wrap k < 18446744073709551616 := by rw [IntKind.wrap_u64]; omega
  have h1 := bits_and_u64_nat n 63 (by omega) (by omega)
  have h2 := bits_and_u64_nat n 31 (by omega) (by omega)
  rw [show n &&& 63 = n % 64 from Nat.and_two_pow_sub_one_eq_mod n 6] at h1
  rw [show n &&& 31 = n % 32 from Nat.and_two_pow_sub_one_eq_mod n 5] at h2
  rw [hn]
  constructor
  · rw [show ((63 : Nat) : Int) = 63 from rfl] at h1; rw [h1]; omega
  · rw [show ((31 : Nat) : Int) = 31 from rfl] at h2; rw [h2]; omega
set_option maxHeartbeats 4000000 in
set_option maxRecDepth 100000 in
theorem flags_Shift.w0true (a2 a3 v r n s : Int) (w : World) (hn : Go.bits .and .i64 a3 63 = n) (n0 : 0 ≤ n) (n1 : n ≤ 63) (H1 : Aside0 (flags_Trim.f true a2 = some v)) (H2 : Aside0 (flags_Trim.f true (wrap64 (flags_Shift.r64 (IntKind.u64.wrap v) s)) = some r)) (HS : Aside0 (Go.bits .and .u64 (IntKind.u64.wrap (n)) 63 = s)) (s0 : 0 ≤ s) (s1 : s ≤ 63) :
    Calls Try.prog 23 #[.int .i64 0, .bool true, .int .i64 a2, .int .i64 a3] w fun e w' => e = .returned (.tuple #[.int .i64 r, .bool true]) ∧ Below w.heap.size w w' := by
  have hmf : ∀ (fn : Fn) (first cap : Array Value) (w : World), (Instr.makeFunc fn first cap).run Try.prog w = .ok (.func fn first cap) w := fun _ _ _ _ => rfl
  have HC : Aside0 (∀ nd, (((w.alloc (.cells #[.int .i64 a2] 3)).drewN nd).setCell ⟨w.heap.size, 0, none⟩ (.int .i64 v)).cell? ⟨w.heap.size, 0, none⟩ = some (.int .i64 v)) := ⟨fun nd => World.cell?_setCell_same' _ _ _ (by simp)⟩
  go_enter Try.func23, Try.ntmps23
  go_wp2_with (first | (go_at_call 15; (with_reducible refine (flags_Trim.calls true a2 v _ H1.out).mono ?_); rintro e w1 ⟨rfl, ⟨nd1, rfl⟩⟩) | (go_at_call 15; (with_reducible refine (flags_Trim.calls true _ r _ H2.out).mono ?_); rintro e w1 ⟨rfl, ⟨nd2, rfl⟩⟩) | (go_at_call 25; (with_reducible refine (flags_sign.calls true v sv _ H3.out).mono ?_); rintro e w1 ⟨rfl, ⟨nd3, rfl⟩⟩) | (go_at_call 32; (with_reducible refine (flags_Shift.t64 v _ s _ _ (HC.out _) HS.out s0 s1).mono ?_); rintro e w1 ⟨rfl, rfl⟩))
  go_ret2
  exact ⟨by first | rfl | simp, by repeat (first | exact Below.refl _ _ | apply below_alloc | apply pw_below_drewN | apply below_drew1 | refine below_set ?_ (Nat.le_refl _))⟩
set_option maxHeartbeats 4000000 in
set_option maxRecDepth 100000 in
theorem flags_Shift.w1true (a2 a3 v r n s : Int) (w : World) (hn : Go.bits .and .i64 a3 63 = n) (n0 : 0 ≤ n) (n1 : n ≤ 63) (H1 : Aside0 (flags_Trim.f true a2 = some v)) (H2 : Aside0 (flags_Trim.f true (wrap64 (flags_Shift.r64 (IntKind.u64.wrap v) s)) = some r)) (HS : Aside0 (Go.bits .and .u64 (IntKind.u64.wrap (-n)) 63 = s)) (s0 : 0 ≤ s) (s1 : s ≤ 63) :
    Calls Try.prog 23 #[.int .i64 1, .bool true, .int .i64 a2, .int .i64 a3] w fun e w' => e = .returned (.tuple #[.int .i64 r, .bool true]) ∧ Below w.heap.size w w' := by
  have hmf : ∀ (fn : Fn) (first cap : Array Value) (w : World), (Instr.makeFunc fn first cap).run Try.prog w = .ok (.func fn first cap) w := fun _ _ _ _ => rfl
  have HC : Aside0 (∀ nd, (((w.alloc (.cells #[.int .i64 a2] 3)).drewN nd).setCell ⟨w.heap.size, 0, none⟩ (.int .i64 v)).cell? ⟨w.heap.size, 0, none⟩ = some (.int .i64 v)) := ⟨fun nd => World.cell?_setCell_same' _ _ _ (by simp)⟩
  go_enter Try.func23, Try.ntmps23
  go_wp2_with (first | (go_at_call 15; (with_reducible refine (flags_Trim.calls true a2 v _ H1.out).mono ?_); rintro e w1 ⟨rfl, ⟨nd1, rfl⟩⟩) | (go_at_call 15; (with_reducible refine (flags_Trim.calls true _ r _ H2.out).mono ?_); rintro e w1 ⟨rfl, ⟨nd2, rfl⟩⟩) | (go_at_call 25; (with_reducible refine (flags_sign.calls true v sv _ H3.out).mono ?_); rintro e w1 ⟨rfl, ⟨nd3, rfl⟩⟩) | (go_at_call 32; (with_reducible refine (flags_Shift.t64 v _ s _ _ (HC.out _) HS.out s0 s1).mono ?_); rintro e w1 ⟨rfl, rfl⟩))
  go_ret2
  exact ⟨by first | rfl | simp, by repeat (first | exact Below.refl _ _ | apply below_alloc | apply pw_below_drewN | apply below_drew1 | refine below_set ?_ (Nat.le_refl _))⟩
set_option maxHeartbeats 4000000 in
set_option maxRecDepth 100000 in
theorem flags_Shift.w4true (a2 a3 v r n : Int) (w : World) (hn : Go.bits .and .i64 a3 63 = n) (n0 : 0 ≤ n) (n1 : n ≤ 63) (H1 : Aside0 (flags_Trim.f true a2 = some v)) (H2 : Aside0 (flags_Trim.f true (wrap64 (v * 2 ^ n.toNat)) = some r)) :
    Calls Try.prog 23 #[.int .i64 4, .bool true, .int .i64 a2, .int .i64 a3] w fun e w' => e = .returned (.tuple #[.int .i64 r, .bool true]) ∧ Below w.heap.size w w' := by
  have hmf : ∀ (fn : Fn) (first cap : Array Value) (w : World), (Instr.makeFunc fn first cap).run Try.prog w = .ok (.func fn first cap) w := fun _ _ _ _ => rfl
  have HC : Aside0 (∀ nd, (((w.alloc (.cells #[.int .i64 a2] 3)).drewN nd).setCell ⟨w.heap.size, 0, none⟩ (.int .i64 v)).cell? ⟨w.heap.size, 0, none⟩ = some (.int .i64 v)) := ⟨fun nd => World.cell?_setCell_same' _ _ _ (by simp)⟩
  go_enter Try.func23, Try.ntmps23
  go_wp2_with (first | (go_at_call 15; (with_reducible refine (flags_Trim.calls true a2 v _ H1.out).mono ?_); rintro e w1 ⟨rfl, ⟨nd1, rfl⟩⟩) | (go_at_call 15; (with_reducible refine (flags_Trim.calls true _ r _ H2.out).mono ?_); rintro e w1 ⟨rfl, ⟨nd2, rfl⟩⟩) | (go_at_call 25; (with_reducible refine (flags_sign.calls true v sv _ H3.out).mono ?_); rintro e w1 ⟨rfl, ⟨nd3, rfl⟩⟩) | (go_at_call 32; (with_reducible refine (flags_Shift.t64 v _ s _ _ (HC.out _) HS.out s0 s1).mono ?_); rintro e w1 ⟨rfl, rfl⟩))
  go_ret2
  exact ⟨by first | rfl | simp, by repeat (first | exact Below.refl _ _ | apply below_alloc | apply pw_below_drewN | apply below_drew1 | refine below_set ?_ (Nat.le_refl _))⟩
set_option maxHeartbeats 4000000 in
set_option maxRecDepth 100000 in
theorem flags_Shift.w5true (a2 a3 v r n : Int) (w : World) (hn : Go.bits .and .i64 a3 63 = n) (n0 : 0 ≤ n) (n1 : n ≤ 63) (H1 : Aside0 (flags_Trim.f true a2 = some v)) (H2 : Aside0 (flags_Trim.f true (wrap64 (IntKind.u64.wrap v / 2 ^ n.toNat)) = some r)) :
    Calls Try.prog 23 #[.int .i64 5, .bool true, .int .i64 a2, .int .i64 a3] w fun e w' => e = .returned (.tuple #[.int .i64 r, .bool true]) ∧ Below w.heap.size w w' := by
  have hmf : ∀ (fn : Fn) (first cap : Array Value) (w : World), (Instr.makeFunc fn first cap).run Try.prog w = .ok (.func fn first cap) w := fun _ _ _ _ => rfl
  have HC : Aside0 (∀ nd, (((w.alloc (.cells #[.int .i64 a2] 3)).drewN nd).setCell ⟨w.heap.size, 0, none⟩ (.int .i64 v)).cell? ⟨w.heap.size, 0, none⟩ = some (.int .i64 v)) := ⟨fun nd => World.cell?_setCell_same' _ _ _ (by simp)⟩
  go_enter Try.func23, Try.ntmps23
  go_wp2_with (first | (go_at_call 15; (with_reducible refine (flags_Trim.calls true a2 v _ H1.out).mono ?_); rintro e w1 ⟨rfl, ⟨nd1, rfl⟩⟩) | (go_at_call 15; (with_reducible refine (flags_Trim.calls true _ r _ H2.out).mono ?_); rintro e w1 ⟨rfl, ⟨nd2, rfl⟩⟩) | (go_at_call 25; (with_reducible refine (flags_sign.calls true v sv _ H3.out).mono ?_); rintro e w1 ⟨rfl, ⟨nd3, rfl⟩⟩) | (go_at_call 32; (with_reducible refine (flags_Shift.t64 v _ s _ _ (HC.out _) HS.out s0 s1).mono ?_); rintro e w1 ⟨rfl, rfl⟩))
  go_ret2
  exact ⟨by first | rfl | simp, by repeat (first | exact Below.refl _ _ | apply below_alloc | apply pw_below_drewN | apply below_drew1 | refine below_set ?_ (Nat.le_refl _))⟩
set_option maxHeartbeats 4000000 in
set_option maxRecDepth 100000 in
theorem flags_Shift.w7true (a2 a3 v r n sv : Int) (w : World) (hn : Go.bits .and .i64 a3 63 = n) (n0 : 0 ≤ n) (n1 : n ≤ 63) (H1 : Aside0 (flags_Trim.f true a2 = some v)) (H2 : Aside0 (flags_Trim.f true (sv / 2 ^ n.toNat) = some r)) (H3 : Aside0 (flags_sign.f true v = some sv)) :
    Calls Try.prog 23 #[.int .i64 7, .bool true, .int .i64 a2, .int .i64 a3] w fun e w' => e = .returned (.tuple #[.int .i64 r, .bool true]) ∧ Below w.heap.size w w' := by
  have hmf : ∀ (fn : Fn) (first cap : Array Value) (w : World), (Instr.makeFunc fn first cap).run Try.prog w = .ok (.func fn first cap) w := fun _ _ _ _ => rfl
  have HC : Aside0 (∀ nd, (((w.alloc (.cells #[.int .i64 a2] 3)).drewN nd).setCell ⟨w.heap.size, 0, none⟩ (.int .i64 v)).cell? ⟨w.heap.size, 0, none⟩ = some (.int .i64 v)) := ⟨fun nd => World.cell?_setCell_same' _ _ _ (by simp)⟩
  go_enter Try.func23, Try.ntmps23
  go_wp2_with (first | (go_at_call 15; (with_reducible refine (flags_Trim.calls true a2 v _ H1.out).mono ?_); rintro e w1 ⟨rfl, ⟨nd1, rfl⟩⟩) | (go_at_call 15; (with_reducible refine (flags_Trim.calls true _ r _ H2.out).mono ?_); rintro e w1 ⟨rfl, ⟨nd2, rfl⟩⟩) | (go_at_call 25; (with_reducible refine (flags_sign.calls true v sv _ H3.out).mono ?_); rintro e w1 ⟨rfl, ⟨nd3, rfl⟩⟩) | (go_at_call 32; (with_reducible refine (flags_Shift.t64 v _ s _ _ (HC.out _) HS.out s0 s1).mono ?_); rintro e w1 ⟨rfl, rfl⟩))
  go_ret2
  exact ⟨by first | rfl | simp, by repeat (first | exact Below.refl _ _ | apply below_alloc | apply pw_below_drewN | apply below_drew1 | refine below_set ?_ (Nat.le_refl _))⟩
set_option maxHeartbeats 4000000 in
set_option maxRecDepth 100000 in
theorem flags_Shift.w0false (a2 a3 v r n s : Int) (w : World) (hn : Go.bits .and .i64 a3 31 = n) (n0 : 0 ≤ n) (n1 : n ≤ 31) (H1 : Aside0 (flags_Trim.f false a2 = some v)) (H2 : Aside0 (flags_Trim.f false (wrap64 (flags_Shift.r32 (v % 4294967296) s)) = some r)) (HS : Aside0 (Go.bits .and .u64 (IntKind.u64.wrap (n)) 31 = s)) (s0 : 0 ≤ s) (s1 : s ≤ 31) :
    Calls Try.prog 23 #[.int .i64 0, .bool false, .int .i64 a2, .int .i64 a3] w fun e w' => e = .returned (.tuple #[.int .i64 r, .bool true]) ∧ Below w.heap.size w w' := by
  have hmf : ∀ (fn : Fn) (first cap : Array Value) (w : World), (Instr.makeFunc fn first cap).run Try.prog w = .ok (.func fn first cap) w := fun _ _ _ _ => rfl
  have HC : Aside0 (∀ nd, (((w.alloc (.cells #[.int .i64 a2] 3)).drewN nd).setCell ⟨w.heap.size, 0, none⟩ (.int .i64 v)).cell? ⟨w.heap.size, 0, none⟩ = some (.int .i64 v)) := ⟨fun nd => World.cell?_setCell_same' _ _ _ (by simp)⟩
  go_enter Try.func23, Try.ntmps23
  go_wp2_with (first | (go_at_call 15; (with_reducible refine (flags_Trim.calls false a2 v _ H1.out).mono ?_); rintro e w1 ⟨rfl, ⟨nd1, rfl⟩⟩) | (go_at_call 15; (with_reducible refine (flags_Trim.calls false _ r _ H2.out).mono ?_); rintro e w1 ⟨rfl, ⟨nd2, rfl⟩⟩) | (go_at_call 25; (with_reducible refine (flags_sign.calls false v sv _ H3.out).mono ?_); rintro e w1 ⟨rfl, ⟨nd3, rfl⟩⟩) | (go_at_call 30; (with_reducible refine (flags_Shift.t32 v _ s _ _ (HC.out _) HS.out s0 s1).mono ?_); rintro e w1 ⟨rfl, rfl⟩))
  go_ret2
  exact ⟨by first | rfl | simp, by repeat (first | exact Below.refl _ _ | apply below_alloc | apply pw_below_drewN | apply below_drew1 | refine below_set ?_ (Nat.le_refl _))⟩
set_option maxHeartbeats 4000000 in
set_option maxRecDepth 100000 in
theorem flags_Shift.w1false (a2 a3 v r n s : Int) (w : World) (hn : Go.bits .and .i64 a3 31 = n) (n0 : 0 ≤ n) (n1 : n ≤ 31) (H1 : Aside0 (flags_Trim.f false a2 = some v)) (H2 : Aside0 (flags_Trim.f false (wrap64 (flags_Shift.r32 (v % 4294967296) s)) = some r)) (HS : Aside0 (Go.bits .and .u64 (IntKind.u64.wrap (-n)) 31 = s)) (s0 : 0 ≤ s) (s1 : s ≤ 31) :
    Calls Try.prog 23 #[.int .i64 1, .bool false, .int .i64 a2, .int .i64 a3] w fun e w' => e = .returned (.tuple #[.int .i64 r, .bool true]) ∧ Below w.heap.size w w' := by
  have hmf : ∀ (fn : Fn) (first cap : Array Value) (w : World), (Instr.makeFunc fn first cap).run Try.prog w = .ok (.func fn first cap) w := fun _ _ _ _ => rfl
  have HC : Aside0 (∀ nd, (((w.alloc (.cells #[.int .i64 a2] 3)).drewN nd).setCell ⟨w.heap.size, 0, none⟩ (.int .i64 v)).cell? ⟨w.heap.size, 0, none⟩ = some (.int .i64 v)) := ⟨fun nd => World.cell?_setCell_same' _ _ _ (by simp)⟩
  go_enter Try.func23, Try.ntmps23
  go_wp2_with (first | (go_at_call 15; (with_reducible refine (flags_Trim.calls false a2 v _ H1.out).mono ?_); rintro e w1 ⟨rfl, ⟨nd1, rfl⟩⟩) | (go_at_call 15; (with_reducible refine (flags_Trim.calls false _ r _ H2.out).mono ?_); rintro e w1 ⟨rfl, ⟨nd2, rfl⟩⟩) | (go_at_call 25; (with_reducible refine (flags_sign.calls false v sv _ H3.out).mono ?_); rintro e w1 ⟨rfl, ⟨nd3, rfl⟩⟩) | (go_at_call 30; (with_reducible refine (flags_Shift.t32 v _ s _ _ (HC.out _) HS.out s0 s1).mono ?_); rintro e w1 ⟨rfl, rfl⟩))
  go_ret2
  exact ⟨by first | rfl | simp, by repeat (first | exact Below.refl _ _ | apply below_alloc | apply pw_below_drewN | apply below_drew1 | refine below_set ?_ (Nat.le_refl _))⟩
set_option maxHeartbeats 4000000 in
set_option maxRecDepth 100000 in
theorem flags_Shift.w4false (a2 a3 v r n : Int) (w : World) (hn : Go.bits .and .i64 a3 31 = n) (n0 : 0 ≤ n) (n1 : n ≤ 31) (H1 : Aside0 (flags_Trim.f false a2 = some v)) (H2 : Aside0 (flags_Trim.f false (wrap64 (v * 2 ^ n.toNat)) = some r)) :
    Calls Try.prog 23 #[.int .i64 4, .bool false, .int .i64 a2, .int .i64 a3] w fun e w' => e = .returned (.tuple #[.int .i64 r, .bool true]) ∧ Below w.heap.size w w' := by
  have hmf : ∀ (fn : Fn) (first cap : Array Value) (w : World), (Instr.makeFunc fn first cap).run Try.prog w = .ok (.func fn first cap) w := fun _ _ _ _ => rfl
  have HC : Aside0 (∀ nd, (((w.alloc (.cells #[.int .i64 a2] 3)).drewN nd).setCell ⟨w.heap.size, 0, none⟩ (.int .i64 v)).cell? ⟨w.heap.size, 0, none⟩ = some (.int .i64 v)) := ⟨fun nd => World.cell?_setCell_same' _ _ _ (by simp)⟩
  go_enter Try.func23, Try.ntmps23
  go_wp2_with (first | (go_at_call 15; (with_reducible refine (flags_Trim.calls false a2 v _ H1.out).mono ?_); rintro e w1 ⟨rfl, ⟨nd1, rfl⟩⟩) | (go_at_call 15; (with_reducible refine (flags_Trim.calls false _ r _ H2.out).mono ?_); rintro e w1 ⟨rfl, ⟨nd2, rfl⟩⟩) | (go_at_call 25; (with_reducible refine (flags_sign.calls false v sv _ H3.out).mono ?_); rintro e w1 ⟨rfl, ⟨nd3, rfl⟩⟩) | (go_at_call 30; (with_reducible refine (flags_Shift.t32 v _ s _ _ (HC.out _) HS.out s0 s1).mono ?_); rintro e w1 ⟨rfl, rfl⟩))
  go_ret2
  exact ⟨by first | rfl | simp, by repeat (first | exact Below.refl _ _ | apply below_alloc | apply pw_below_drewN | apply below_drew1 | refine below_set ?_ (Nat.le_refl _))⟩
set_option maxHeartbeats 4000000 in
set_option maxRecDepth 100000 in
theorem flags_Shift.w5false (a2 a3 v r n : Int) (w : World) (hn : Go.bits .and .i64 a3 31 = n) (n0 : 0 ≤ n) (n1 : n ≤ 31) (H1 : Aside0 (flags_Trim.f false a2 = some v)) (H2 : Aside0 (flags_Trim.f false (wrap64 (IntKind.u64.wrap v / 2 ^ n.toNat)) = some r)) :
    Calls Try.prog 23 #[.int .i64 5, .bool false, .int .i64 a2, .int .i64 a3] w fun e w' => e = .returned (.tuple #[.int .i64 r, .bool true]) ∧ Below w.heap.size w w' := by
  have hmf : ∀ (fn : Fn) (first cap : Array Value) (w : World), (Instr.makeFunc fn first cap).run Try.prog w = .ok (.func fn first cap) w := fun _ _ _ _ => rfl
  have HC : Aside0 (∀ nd, (((w.alloc (.cells #[.int .i64 a2] 3)).drewN nd).setCell ⟨w.heap.size, 0, none⟩ (.int .i64 v)).cell? ⟨w.heap.size, 0, none⟩ = some (.int .i64 v)) := ⟨fun nd => World.cell?_setCell_same' _ _ _ (by simp)⟩
  go_enter Try.func23, Try.ntmps23
  go_wp2_with (first | (go_at_call 15; (with_reducible refine (flags_Trim.calls false a2 v _ H1.out).mono ?_); rintro e w1 ⟨rfl, ⟨nd1, rfl⟩⟩) | (go_at_call 15; (with_reducible refine (flags_Trim.calls false _ r _ H2.out).mono ?_); rintro e w1 ⟨rfl, ⟨nd2, rfl⟩⟩) | (go_at_call 25; (with_reducible refine (flags_sign.calls false v sv _ H3.out).mono ?_); rintro e w1 ⟨rfl, ⟨nd3, rfl⟩⟩) | (go_at_call 30; (with_reducible refine (flags_Shift.t32 v _ s _ _ (HC.out _) HS.out s0 s1).mono ?_); rintro e w1 ⟨rfl, rfl⟩))
  go_ret2
  exact ⟨by first | rfl | simp, by repeat (first | exact Below.refl _ _ | apply below_alloc | apply pw_below_drewN | apply below_drew1 | refine below_set ?_ (Nat.le_refl _))⟩
set_option maxHeartbeats 4000000 in
set_option maxRecDepth 100000 in
theorem flags_Shift.w7false (a2 a3 v r n sv : Int) (w : World) (hn : Go.bits .and .i64 a3 31 = n) (n0 : 0 ≤ n) (n1 : n ≤ 31) (H1 : Aside0 (flags_Trim.f false a2 = some v)) (H2 : Aside0 (flags_Trim.f false (sv / 2 ^ n.toNat) = some r)) (H3 : Aside0 (flags_sign.f false v = some sv)) :
    Calls Try.prog 23 #[.int .i64 7, .bool false, .int .i64 a2, .int .i64 a3] w fun e w' => e = .returned (.tuple #[.int .i64 r, .bool true]) ∧ Below w.heap.size w w' := by
  have hmf : ∀ (fn : Fn) (first cap : Array Value) (w : World), (Instr.makeFunc fn first cap).run Try.prog w = .ok (.func fn first cap) w := fun _ _ _ _ => rfl
  have HC : Aside0 (∀ nd, (((w.alloc (.cells #[.int .i64 a2] 3)).drewN nd).setCell ⟨w.heap.size, 0, none⟩ (.int .i64 v)).cell? ⟨w.heap.size, 0, none⟩ = some (.int .i64 v)) := ⟨fun nd => World.cell?_setCell_same' _ _ _ (by simp)⟩
  go_enter Try.func23, Try.ntmps23
  go_wp2_with (first | (go_at_call 15; (with_reducible refine (flags_Trim.calls false a2 v _ H1.out).mono ?_); rintro e w1 ⟨rfl, ⟨nd1, rfl⟩⟩) | (go_at_call 15; (with_reducible refine (flags_Trim.calls false _ r _ H2.out).mono ?_); rintro e w1 ⟨rfl, ⟨nd2, rfl⟩⟩) | (go_at_call 25; (with_reducible refine (flags_sign.calls false v sv _ H3.out).mono ?_); rintro e w1 ⟨rfl, ⟨nd3, rfl⟩⟩) | (go_at_call 30; (with_reducible refine (flags_Shift.t32 v _ s _ _ (HC.out _) HS.out s0 s1).mono ?_); rintro e w1 ⟨rfl, rfl⟩))
  go_ret2
  exact ⟨by first | rfl | simp, by repeat (first | exact Below.refl _ _ | apply below_alloc | apply pw_below_drewN | apply below_drew1 | refine below_set ?_ (Nat.le_refl _))⟩
set_option maxHeartbeats 4000000 in
set_option maxRecDepth 100000 in
theorem flags_Shift.wntrue (a0 a2 a3 v n : Int) (w : World) (e0 : (a0 == 0) = false) (e1 : (a0 == 1) = false) (e4 : (a0 == 4) = false) (e5 : (a0 == 5) = false) (e7 : (a0 == 7) = false) (hn : Go.bits .and .i64 a3 63 = n) (H1 : Aside0 (flags_Trim.f true a2 = some v)) :
    Calls Try.prog 23 #[.int .i64 a0, .bool true, .int .i64 a2, .int .i64 a3] w fun e w' => e = .returned (.tuple #[.int .i64 0, .bool false]) ∧ Below w.heap.size w w' := by
  have hmf : ∀ (fn : Fn) (first cap : Array Value) (w : World), (Instr.makeFunc fn first cap).run Try.prog w = .ok (.func fn first cap) w := fun _ _ _ _ => rfl
  go_enter Try.func23, Try.ntmps23
  go_wp2_with (go_at_call 15; (with_reducible refine (flags_Trim.calls true a2 v _ H1.out).mono ?_); rintro e w1 ⟨rfl, ⟨nd1, rfl⟩⟩)
  go_ret2
  exact ⟨by first | rfl | simp, by repeat (first | exact Below.refl _ _ | apply below_alloc | apply pw_below_drewN | apply below_drew1 | refine below_set ?_ (Nat.le_refl _))⟩
set_option maxHeartbeats 4000000 in
set_option maxRecDepth 100000 in
theorem flags_Shift.wnfalse (a0 a2 a3 v n : Int) (w : World) (e0 : (a0 == 0) = false) (e1 : (a0 == 1) = false) (e4 : (a0 == 4) = false) (e5 : (a0 == 5) = false) (e7 : (a0 == 7) = false) (hn : Go.bits .and .i64 a3 31 = n) (H1 : Aside0 (flags_Trim.f false a2 = some v)) :
    Calls Try.prog 23 #[.int .i64 a0, .bool false, .int .i64 a2, .int .i64 a3] w fun e w' => e = .returned (.tuple #[.int .i64 0, .bool false]) ∧ Below w.heap.size w w' := by
  have hmf : ∀ (fn : Fn) (first cap : Array Value) (w : World), (Instr.makeFunc fn first cap).run Try.prog w = .ok (.func fn first cap) w := fun _ _ _ _ => rfl
  go_enter Try.func23, Try.ntmps23
  go_wp2_with (go_at_call 15; (with_reducible refine (flags_Trim.calls false a2 v _ H1.out).mono ?_); rintro e w1 ⟨rfl, ⟨nd1, rfl⟩⟩)
  go_ret2
  exact ⟨by first | rfl | simp, by repeat (first | exact Below.refl _ _ | apply below_alloc | apply pw_below_drewN | apply below_drew1 | refine below_set ?_ (Nat.le_refl _))⟩
theorem flags_Shift.calls (a0 : Int) (a1 : Bool) (a2 a3 : Int) (r1 : Int) (r2 : Bool) (w : World) (h : flags_Shift.f a0 a1 a2 a3 = some (r1, r2)) :
    Calls Try.prog 23 #[.int .i64 a0, .bool a1, .int .i64 a2, .int .i64 a3] w fun e w' => e = .returned (.tuple #[.int .i64 r1, .bool r2]) ∧ Below w.heap.size w w' := by
  unfold flags_Shift.f at h
  obtain ⟨v, hv, h⟩ := Option.bind_eq_some_iff.mp h
  have mk := flags_Shift.mask a3
  by_cases c0 : a0 = 0
  · subst c0
    rw [if_pos rfl] at h
    obtain ⟨r, hr, h⟩ := Option.bind_eq_some_iff.mp h
    simp only [Option.some.injEq, Prod.mk.injEq] at h
    obtain ⟨rfl, rfl⟩ := h
    cases a1 with
    | true =>
      simp only [flags_Shift.turn, flags_Shift.by, if_true] at hr
      exact flags_Shift.w0true a2 a3 v r _ _ w rfl mk.1.1 mk.1.2 ⟨hv⟩ ⟨hr⟩ ⟨rfl⟩ (flags_Shift.masku _).1.1 (flags_Shift.masku _).1.2
    | false =>
      simp only [flags_Shift.turn, flags_Shift.by, Bool.false_eq_true, if_false] at hr
      exact flags_Shift.w0false a2 a3 v r _ _ w rfl mk.2.1 mk.2.2 ⟨hv⟩ ⟨hr⟩ ⟨rfl⟩ (flags_Shift.masku _).2.1 (flags_Shift.masku _).2.2
  rw [if_neg c0] at h
  by_cases c1 : a0 = 1
  · subst c1
    rw [if_pos rfl] at h
    obtain ⟨r, hr, h⟩ := Option.bind_eq_some_iff.mp h
    simp only [Option.some.injEq, Prod.mk.injEq] at h
    obtain ⟨rfl, rfl⟩ := h
    cases a1 with
    | true =>
      simp only [flags_Shift.turn, flags_Shift.by, if_true] at hr
      exact flags_Shift.w1true a2 a3 v r _ _ w rfl mk.1.1 mk.1.2 ⟨hv⟩ ⟨hr⟩ ⟨rfl⟩ (flags_Shift.masku _).1.1 (flags_Shift.masku _).1.2
    | false =>
      simp only [flags_Shift.turn, flags_Shift.by, Bool.false_eq_true, if_false] at hr
      exact flags_Shift.w1false a2 a3 v r _ _ w rfl mk.2.1 mk.2.2 ⟨hv⟩ ⟨hr⟩ ⟨rfl⟩ (flags_Shift.masku _).2.1 (flags_Shift.masku _).2.2
  rw [if_neg c1] at h
  by_cases c4 : a0 = 4
  · subst c4
    rw [if_pos rfl] at h
    obtain ⟨r, hr, h⟩ := Option.bind_eq_some_iff.mp h
    simp only [Option.some.injEq, Prod.mk.injEq] at h
    obtain ⟨rfl, rfl⟩ := h
    cases a1 with
    | true =>
      simp only [flags_Shift.turn, flags_Shift.by, if_true] at hr
      exact flags_Shift.w4true a2 a3 v r _ w rfl mk.1.1 mk.1.2 ⟨hv⟩ ⟨hr⟩
    | false =>
      simp only [flags_Shift.turn, flags_Shift.by, Bool.false_eq_true, if_false] at hr
      exact flags_Shift.w4false a2 a3 v r _ w rfl mk.2.1 mk.2.2 ⟨hv⟩ ⟨hr⟩
  rw [if_neg c4] at h
  by_cases c5 : a0 = 5
  · subst c5
    rw [if_pos rfl] at h
    obtain ⟨r, hr, h⟩ := Option.bind_eq_some_iff.mp h
    simp only [Option.some.injEq, Prod.mk.injEq] at h
    obtain ⟨rfl, rfl⟩ := h
    cases a1 with
    | true =>
      simp only [flags_Shift.turn, flags_Shift.by, if_true] at hr
      exact flags_Shift.w5true a2 a3 v r _ w rfl mk.1.1 mk.1.2 ⟨hv⟩ ⟨hr⟩
    | false =>
      simp only [flags_Shift.turn, flags_Shift.by, Bool.false_eq_true, if_false] at hr
      exact flags_Shift.w5false a2 a3 v r _ w rfl mk.2.1 mk.2.2 ⟨hv⟩ ⟨hr⟩
  rw [if_neg c5] at h
  by_cases c7 : a0 = 7
  · subst c7
    rw [if_pos rfl] at h
    obtain ⟨sv, hs, h⟩ := Option.bind_eq_some_iff.mp h
    obtain ⟨r, hr, h⟩ := Option.bind_eq_some_iff.mp h
    simp only [Option.some.injEq, Prod.mk.injEq] at h
    obtain ⟨rfl, rfl⟩ := h
    cases a1 with
    | true =>
      simp only [flags_Shift.turn, flags_Shift.by, if_true] at hr
      exact flags_Shift.w7true a2 a3 v r _ sv w rfl mk.1.1 mk.1.2 ⟨hv⟩ ⟨hr⟩ ⟨hs⟩
    | false =>
      simp only [flags_Shift.turn, flags_Shift.by, Bool.false_eq_true, if_false] at hr
      exact flags_Shift.w7false a2 a3 v r _ sv w rfl mk.2.1 mk.2.2 ⟨hv⟩ ⟨hr⟩ ⟨hs⟩
  rw [if_neg c7] at h
  simp only [Option.some.injEq, Prod.mk.injEq] at h
  obtain ⟨rfl, rfl⟩ := h
  have n0 := beq_eq_false_iff_ne.mpr c0
  have n1 := beq_eq_false_iff_ne.mpr c1
  have n4 := beq_eq_false_iff_ne.mpr c4
  have n5 := beq_eq_false_iff_ne.mpr c5
  have n7 := beq_eq_false_iff_ne.mpr c7
  cases a1 with
  | true => exact flags_Shift.wntrue a0 a2 a3 v _ w n0 n1 n4 n5 n7 rfl ⟨hv⟩
  | false => exact flags_Shift.wnfalse a0 a2 a3 v _ w n0 n1 n4 n5 n7 rfl ⟨hv⟩

/-! ### oublietteref10_Trim: function 16 -/
def oublietteref10_Trim.f (a0 : Bool) (a1 : Int) : Option (Int) := if a0 = true then (some a1) else (some (Go.bits .and .i64 a1 4294967295))
set_option maxHeartbeats 60000000 in
set_option maxRecDepth 100000 in
theorem oublietteref10_Trim.calls (a0 : Bool) (a1 : Int) (r : Int) (w : World) (h : oublietteref10_Trim.f a0 a1 = some r) :
    Calls Try.prog 16 #[.bool a0, .int .i64 a1] w fun e w' => e = .returned (.int .i64 r) ∧ Drawn0 w w' := by
  have H : (if a0 = true then (some a1) else (some (Go.bits .and .i64 a1 4294967295))) = some r := h
  clear h
  by_cases c3 : a0 = true
  · subst c3
    have H1 : (some a1) = some r := by rw [if_pos rfl] at H; exact H
    clear H
    have H := H1
    clear H1
    obtain rfl := Option.some.inj H
    go_enter Try.func16, Try.ntmps16
    go_wp2
    go_ret
    exact ⟨by first | rfl | (simp; done) | (simp [*]; done), by repeat (first | exact Drawn0.refl _ | apply Drawn0.step)⟩
  · replace c3 := Bool.eq_false_iff.mpr c3
    subst c3
    (try simp only [Bool.false_beq, Bool.true_beq] at *)
    have H1 : (some (Go.bits .and .i64 a1 4294967295)) = some r := by rw [if_neg (show ¬ (false = true) by decide)] at H; exact H
    clear H
    have H := H1
    clear H1
    obtain rfl := Option.some.inj H
    go_enter Try.func16, Try.ntmps16
    go_wp2
    go_ret
    exact ⟨by first | rfl | (simp; done) | (simp [*]; done), by repeat (first | exact Drawn0.refl _ | apply Drawn0.step)⟩

/-! ### oublietteref10_top: function 26 -/
def oublietteref10_top.f (a0 : Bool) (a1 : Int) : Option (Bool) := if a0 = true then (some (decide (a1 < 0))) else (some ((Go.bits .and .i64 (a1 / 2147483648) 1) == 1))
set_option maxHeartbeats 60000000 in
set_option maxRecDepth 100000 in
theorem oublietteref10_top.calls (a0 : Bool) (a1 : Int) (r : Bool) (w : World) (h : oublietteref10_top.f a0 a1 = some r) :
    Calls Try.prog 26 #[.bool a0, .int .i64 a1] w fun e w' => e = .returned (.bool r) ∧ Drawn0 w w' := by
  have H : (if a0 = true then (some (decide (a1 < 0))) else (some ((Go.bits .and .i64 (a1 / 2147483648) 1) == 1))) = some r := h
  clear h
  by_cases c3 : a0 = true
  · subst c3
    have H1 : (some (decide (a1 < 0))) = some r := by rw [if_pos rfl] at H; exact H
    clear H
    have H := H1
    clear H1
    obtain rfl := Option.some.inj H
    go_enter Try.func26, Try.ntmps26
    go_wp2
    go_ret
    exact ⟨by first | rfl | (simp; done) | (simp [*]; done), by repeat (first | exact Drawn0.refl _ | apply Drawn0.step)⟩
  · replace c3 := Bool.eq_false_iff.mpr c3
    subst c3
    (try simp only [Bool.false_beq, Bool.true_beq] at *)
    have H1 : (some ((Go.bits .and .i64 (a1 / 2147483648) 1) == 1)) = some r := by rw [if_neg (show ¬ (false = true) by decide)] at H; exact H
    clear H
    have H := H1
    clear H1
    obtain rfl := Option.some.inj H
    go_enter Try.func26, Try.ntmps26
    go_wp2
    go_ret
    exact ⟨by first | rfl | (simp; done) | (simp [*]; done), by repeat (first | exact Drawn0.refl _ | apply Drawn0.step)⟩

/-! ### oublietteref10_bits: function 28 -/
def oublietteref10_bits.f (a0 : Bool) : Option (Int) := if a0 = true then (some 64) else (some 32)
set_option maxHeartbeats 60000000 in
set_option maxRecDepth 100000 in
theorem oublietteref10_bits.calls (a0 : Bool) (r : Int) (w : World) (h : oublietteref10_bits.f a0 = some r) :
    Calls Try.prog 28 #[.bool a0] w fun e w' => e = .returned (.int .i64 r) ∧ Drawn0 w w' := by
  have H : (if a0 = true then (some 64) else (some 32)) = some r := h
  clear h
  by_cases c2 : a0 = true
  · subst c2
    have H1 : (some 64) = some r := by rw [if_pos rfl] at H; exact H
    clear H
    have H := H1
    clear H1
    obtain rfl := Option.some.inj H
    go_enter Try.func28, Try.ntmps28
    go_wp2
    go_ret
    exact ⟨by first | rfl | (simp; done) | (simp [*]; done), by repeat (first | exact Drawn0.refl _ | apply Drawn0.step)⟩
  · replace c2 := Bool.eq_false_iff.mpr c2
    subst c2
    (try simp only [Bool.false_beq, Bool.true_beq] at *)
    have H1 : (some 32) = some r := by rw [if_neg (show ¬ (false = true) by decide)] at H; exact H
    clear H
    have H := H1
    clear H1
    obtain rfl := Option.some.inj H
    go_enter Try.func28, Try.ntmps28
    go_wp2
    go_ret
    exact ⟨by first | rfl | (simp; done) | (simp [*]; done), by repeat (first | exact Drawn0.refl _ | apply Drawn0.step)⟩

end Go.Proofs.Ytmmbhhapkgnlfaa.MH

-- printed for this claim by a program of this session, after the form of the printed texts
import Derived.Test.YtmmbhhapkgnlfaaMHx0
import Derived.Test.YtmmbhhapkgnlfaaMHx4
namespace Go.Proofs.Ytmmbhhapkgnlfaa.MH
open Go.RowKit Go.Proofs.YtmmbhhapkgnlfaaW.PrintWords Go.Proofs.YtmmbhhapkgnlfaaW.PrintLast Go.Proofs.YtmmbhhapkgnlfaaW.PrintMore
attribute [local go_sem] max2_int min2_int max_two min_two max_three min_three max_four min_four   -- for this text's walks alone
set_option linter.unusedVariables false
set_option linter.unusedSimpArgs false

/-! ### oublietteref10_Shift: function 24 -/
mutual
def oublietteref10_Shift.l0 : Nat → Int → Bool → Int → Int → Int → Int → Option (Int × Bool)
  | 0, _, _, _, _, _, _ => none
  | k + 1, x0, x1, x2, x3, x10, x11 => if x11 < x3 then ((oublietteref10_top.f x1 x2).bind fun t142 => (if x0 = 0 then (oublietteref10_Shift.j1 k x0 x1 x2 x3 x10 x11 t142 ((Go.bits .and .i64 x2 1) == 1) x0 (x0 == 0)) else (oublietteref10_Shift.j1 k x0 x1 x2 x3 x10 x11 t142 ((Go.bits .and .i64 x2 1) == 1) x0 (x0 == 4)))) else (if x0 = 0 then (oublietteref10_Shift.j4 k x2 (x0 == 0)) else (if x0 = 1 then (oublietteref10_Shift.j4 k x2 (x0 == 1)) else (if x0 = 4 then (oublietteref10_Shift.j4 k x2 (x0 == 4)) else (if x0 = 5 then (oublietteref10_Shift.j4 k x2 (x0 == 5)) else (oublietteref10_Shift.j4 k x2 (x0 == 7))))))
def oublietteref10_Shift.j1 : Nat → Int → Bool → Int → Int → Int → Int → Bool → Bool → Int → Bool → Option (Int × Bool)
  | 0, _, _, _, _, _, _, _, _, _, _ => none
  | k + 1, x0, x1, x2, x3, x10, x11, x12, x13, x34, x35 => if x35 = true then ((oublietteref10_Trim.f x1 (wrap64 (x2 * 2))).bind fun t143 => (if x0 = 0 then (if x12 = true then (oublietteref10_Shift.l0 k x0 x1 (Go.bits .or .i64 t143 1) x3 x10 (wrap64 (x11 + 1))) else (oublietteref10_Shift.l0 k x0 x1 t143 x3 x10 (wrap64 (x11 + 1)))) else (oublietteref10_Shift.l0 k x0 x1 t143 x3 x10 (wrap64 (x11 + 1))))) else (if x34 = 1 then (oublietteref10_Shift.j2 k x0 x1 x2 x3 x10 x11 x12 x13 (x34 == 1)) else (if x34 = 5 then (oublietteref10_Shift.j2 k x0 x1 x2 x3 x10 x11 x12 x13 (x34 == 5)) else (oublietteref10_Shift.j2 k x0 x1 x2 x3 x10 x11 x12 x13 (x34 == 7))))
def oublietteref10_Shift.j2 : Nat → Int → Bool → Int → Int → Int → Int → Bool → Bool → Bool → Option (Int × Bool)
  | 0, _, _, _, _, _, _, _, _, _ => none
  | k + 1, x0, x1, x2, x3, x10, x11, x12, x13, x49 => if x49 = true then (if x0 = 1 then (if x13 = true then (oublietteref10_Shift.j3 k x0 x1 (wrap64 ((IntKind.u64.wrap (x2)) / 2)) x3 x10 x11 true) else (if x0 = 7 then (oublietteref10_Shift.j3 k x0 x1 (wrap64 ((IntKind.u64.wrap (x2)) / 2)) x3 x10 x11 x12) else (oublietteref10_Shift.j3 k x0 x1 (wrap64 ((IntKind.u64.wrap (x2)) / 2)) x3 x10 x11 false))) else (if x0 = 7 then (oublietteref10_Shift.j3 k x0 x1 (wrap64 ((IntKind.u64.wrap (x2)) / 2)) x3 x10 x11 x12) else (oublietteref10_Shift.j3 k x0 x1 (wrap64 ((IntKind.u64.wrap (x2)) / 2)) x3 x10 x11 false))) else (oublietteref10_Shift.l0 k x0 x1 x2 x3 x10 (wrap64 (x11 + 1)))
def oublietteref10_Shift.j3 : Nat → Int → Bool → Int → Int → Int → Int → Bool → Option (Int × Bool)
  | 0, _, _, _, _, _, _, _ => none
  | k + 1, x0, x1, x2, x3, x10, x11, x68 => if x68 = true then (if 0 ≤ (wrap64 (x10 - 1)) then (oublietteref10_Shift.l0 k x0 x1 (Go.bits .or .i64 x2 (shl .i64 1 (wrap64 (x10 - 1)))) x3 x10 (wrap64 (x11 + 1))) else (none)) else (oublietteref10_Shift.l0 k x0 x1 x2 x3 x10 (wrap64 (x11 + 1)))
def oublietteref10_Shift.j4 : Nat → Int → Bool → Option (Int × Bool)
  | 0, _, _ => none
  | k + 1, x2, x75 => if x75 = true then (some (x2, true)) else (some (0, false))
end
def oublietteref10_Shift.f (k : Nat) (a0 : Int) (a1 : Bool) (a2 : Int) (a3 : Int) : Option (Int × Bool) := (oublietteref10_Trim.f a1 a2).bind fun t140 => ((oublietteref10_bits.f a1).bind fun t141 => (oublietteref10_Shift.l0 k a0 a1 t140 (Go.bits .and .i64 a3 (wrap64 (t141 - 1))) t141 0))
theorem oublietteref10_Shift.mono_l : ∀ k, (∀ y0 y1 y2 y3 y4 y5, LeO (oublietteref10_Shift.l0 k y0 y1 y2 y3 y4 y5) (oublietteref10_Shift.l0 (k + 1) y0 y1 y2 y3 y4 y5)) ∧ (∀ y0 y1 y2 y3 y4 y5 y6 y7 y8 y9, LeO (oublietteref10_Shift.j1 k y0 y1 y2 y3 y4 y5 y6 y7 y8 y9) (oublietteref10_Shift.j1 (k + 1) y0 y1 y2 y3 y4 y5 y6 y7 y8 y9)) ∧ (∀ y0 y1 y2 y3 y4 y5 y6 y7 y8, LeO (oublietteref10_Shift.j2 k y0 y1 y2 y3 y4 y5 y6 y7 y8) (oublietteref10_Shift.j2 (k + 1) y0 y1 y2 y3 y4 y5 y6 y7 y8)) ∧ (∀ y0 y1 y2 y3 y4 y5 y6, LeO (oublietteref10_Shift.j3 k y0 y1 y2 y3 y4 y5 y6) (oublietteref10_Shift.j3 (k + 1) y0 y1 y2 y3 y4 y5 y6)) ∧ (∀ y0 y1, LeO (oublietteref10_Shift.j4 k y0 y1) (oublietteref10_Shift.j4 (k + 1) y0 y1))
  | 0 => ⟨fun _ _ _ _ _ _ r h => by simp [oublietteref10_Shift.l0] at h, fun _ _ _ _ _ _ _ _ _ _ r h => by simp [oublietteref10_Shift.j1] at h, fun _ _ _ _ _ _ _ _ _ r h => by simp [oublietteref10_Shift.j2] at h, fun _ _ _ _ _ _ _ r h => by simp [oublietteref10_Shift.j3] at h, fun _ _ r h => by simp [oublietteref10_Shift.j4] at h⟩
  | k + 1 => by
    obtain ⟨ih0, ih1, ih2, ih3, ih4⟩ := oublietteref10_Shift.mono_l k
    refine ⟨?_, ?_, ?_, ?_, ?_⟩
    · intro y0 y1 y2 y3 y4 y5
      unfold oublietteref10_Shift.l0
      repeat' first
      | (with_reducible exact ih0 _ _ _ _ _ _)
      | (with_reducible exact ih1 _ _ _ _ _ _ _ _ _ _)
      | (with_reducible exact ih2 _ _ _ _ _ _ _ _ _)
      | (with_reducible exact ih3 _ _ _ _ _ _ _)
      | (with_reducible exact ih4 _ _)
      | (with_reducible exact LeO.refl _)
      | (with_reducible exact LeO.none _)
      | (with_reducible refine LeO.ite ?_ ?_)
      | (with_reducible refine LeO.bind ?_ (fun _ => ?_))
      | exact ih0 _ _ _ _ _ _
      | exact ih1 _ _ _ _ _ _ _ _ _ _
      | exact ih2 _ _ _ _ _ _ _ _ _
      | exact ih3 _ _ _ _ _ _ _
      | exact ih4 _ _
      | exact LeO.none _
      | refine LeO.ite ?_ ?_
      | refine LeO.bind ?_ (fun _ => ?_)
    · intro y0 y1 y2 y3 y4 y5 y6 y7 y8 y9
      unfold oublietteref10_Shift.j1
      repeat' first
      | (with_reducible exact ih0 _ _ _ _ _ _)
      | (with_reducible exact ih1 _ _ _ _ _ _ _ _ _ _)
      | (with_reducible exact ih2 _ _ _ _ _ _ _ _ _)
      | (with_reducible exact ih3 _ _ _ _ _ _ _)
      | (with_reducible exact ih4 _ _)
      | (with_reducible exact LeO.refl _)
      | (with_reducible exact LeO.none _)
      | (with_reducible refine LeO.ite ?_ ?_)
      | (with_reducible refine LeO.bind ?_ (fun _ => ?_))
      | exact ih0 _ _ _ _ _ _
      | exact ih1 _ _ _ _ _ _ _ _ _ _
      | exact ih2 _ _ _ _ _ _ _ _ _
      | exact ih3 _ _ _ _ _ _ _
      | exact ih4 _ _
      | exact LeO.none _
      | refine LeO.ite ?_ ?_
      | refine LeO.bind ?_ (fun _ => ?_)
    · intro y0 y1 y2 y3 y4 y5 y6 y7 y8
      unfold oublietteref10_Shift.j2
      repeat' first
      | (with_reducible exact ih0 _ _ _ _ _ _)
      | (with_reducible exact ih1 _ _ _ _ _ _ _ _ _ _)
      | (with_reducible exact ih2 _ _ _ _ _ _ _ _ _)
      | (with_reducible exact ih3 _ _ _ _ _ _ _)
      | (with_reducible exact ih4 _ _)
      | (with_reducible exact LeO.refl _)
      | (with_reducible exact LeO.none _)
      | (with_reducible refine LeO.ite ?_ ?_)
      | (with_reducible refine LeO.bind ?_ (fun _ => ?_))
      | exact ih0 _ _ _ _ _ _
      | exact ih1 _ _ _ _ _ _ _ _ _ _
      | exact ih2 _ _ _ _ _ _ _ _ _
      | exact ih3 _ _ _ _ _ _ _
      | exact ih4 _ _
      | exact LeO.none _
      | refine LeO.ite ?_ ?_
      | refine LeO.bind ?_ (fun _ => ?_)
    · intro y0 y1 y2 y3 y4 y5 y6
      unfold oublietteref10_Shift.j3
      repeat' first
      | (with_reducible exact ih0 _ _ _ _ _ _)
      | (with_reducible exact ih1 _ _ _ _ _ _ _ _ _ _)
      | (with_reducible exact ih2 _ _ _ _ _ _ _ _ _)
      | (with_reducible exact ih3 _ _ _ _ _ _ _)
      | (with_reducible exact ih4 _ _)
      | (with_reducible exact LeO.refl _)
      | (with_reducible exact LeO.none _)
      | (with_reducible refine LeO.ite ?_ ?_)
      | (with_reducible refine LeO.bind ?_ (fun _ => ?_))
      | exact ih0 _ _ _ _ _ _
      | exact ih1 _ _ _ _ _ _ _ _ _ _
      | exact ih2 _ _ _ _ _ _ _ _ _
      | exact ih3 _ _ _ _ _ _ _
      | exact ih4 _ _
      | exact LeO.none _
      | refine LeO.ite ?_ ?_
      | refine LeO.bind ?_ (fun _ => ?_)
    · intro y0 y1
      unfold oublietteref10_Shift.j4
      repeat' first
      | (with_reducible exact ih0 _ _ _ _ _ _)
      | (with_reducible exact ih1 _ _ _ _ _ _ _ _ _ _)
      | (with_reducible exact ih2 _ _ _ _ _ _ _ _ _)
      | (with_reducible exact ih3 _ _ _ _ _ _ _)
      | (with_reducible exact ih4 _ _)
      | (with_reducible exact LeO.refl _)
      | (with_reducible exact LeO.none _)
      | (with_reducible refine LeO.ite ?_ ?_)
      | (with_reducible refine LeO.bind ?_ (fun _ => ?_))
      | exact ih0 _ _ _ _ _ _
      | exact ih1 _ _ _ _ _ _ _ _ _ _
      | exact ih2 _ _ _ _ _ _ _ _ _
      | exact ih3 _ _ _ _ _ _ _
      | exact ih4 _ _
      | exact LeO.none _
      | refine LeO.ite ?_ ?_
      | refine LeO.bind ?_ (fun _ => ?_)
theorem oublietteref10_Shift.mono : ∀ a0 a1 a2 a3 k, LeO (oublietteref10_Shift.f k a0 a1 a2 a3) (oublietteref10_Shift.f (k + 1) a0 a1 a2 a3) := by
  intro a0 a1 a2 a3 k
  obtain ⟨ih0, ih1, ih2, ih3, ih4⟩ := oublietteref10_Shift.mono_l k
  unfold oublietteref10_Shift.f
  repeat' first
      | (with_reducible exact ih0 _ _ _ _ _ _)
      | (with_reducible exact ih1 _ _ _ _ _ _ _ _ _ _)
      | (with_reducible exact ih2 _ _ _ _ _ _ _ _ _)
      | (with_reducible exact ih3 _ _ _ _ _ _ _)
      | (with_reducible exact ih4 _ _)
      | (with_reducible exact LeO.refl _)
      | (with_reducible exact LeO.none _)
      | (with_reducible refine LeO.ite ?_ ?_)
      | (with_reducible refine LeO.bind ?_ (fun _ => ?_))
      | exact ih0 _ _ _ _ _ _
      | exact ih1 _ _ _ _ _ _ _ _ _ _
      | exact ih2 _ _ _ _ _ _ _ _ _
      | exact ih3 _ _ _ _ _ _ _
      | exact ih4 _ _
      | exact LeO.none _
      | refine LeO.ite ?_ ?_
      | refine LeO.bind ?_ (fun _ => ?_)
set_option maxHeartbeats 60000000 in
set_option maxRecDepth 100000 in
theorem oublietteref10_Shift.calls (k : Nat) (a0 : Int) (a1 : Bool) (a2 : Int) (a3 : Int) (r1 : Int) (r2 : Bool) (w : World) (h : oublietteref10_Shift.f k a0 a1 a2 a3 = some (r1, r2)) :
    Calls Try.prog 24 #[.int .i64 a0, .bool a1, .int .i64 a2, .int .i64 a3] w fun e w' => e = .returned (.tuple #[.int .i64 r1, .bool r2]) ∧ Drawn0 w w' := by
  have H : ((oublietteref10_Trim.f a1 a2).bind fun t140 => ((oublietteref10_bits.f a1).bind fun t141 => (oublietteref10_Shift.l0 k a0 a1 t140 (Go.bits .and .i64 a3 (wrap64 (t141 - 1))) t141 0))) = some (r1, r2) := h
  clear h
  replace H := Option.bind_eq_some_iff.mp H
  obtain ⟨t140, A50, H⟩ := H
  replace H : ((oublietteref10_bits.f a1).bind fun t141 => (oublietteref10_Shift.l0 k a0 a1 t140 (Go.bits .and .i64 a3 (wrap64 (t141 - 1))) t141 0)) = some (r1, r2) := H
  have A5 := Aside0.mk A50
  clear A50
  replace H := Option.bind_eq_some_iff.mp H
  obtain ⟨t141, A60, H⟩ := H
  replace H : (oublietteref10_Shift.l0 k a0 a1 t140 (Go.bits .and .i64 a3 (wrap64 (t141 - 1))) t141 0) = some (r1, r2) := H
  have A6 := Aside0.mk A60
  clear A60
  have H' := Aside0.mk H
  clear H
  go_enter Try.func24, Try.ntmps24
  go_wp2_with (first | ((with_reducible refine gate_callee (f := 16) rfl ?_); refine goesL_ (some 16) rfl rfl Try.func16 (by kernel_rfl) rfl #[.bool a1, .int .i64 a2] rfl (by (try simp only [List.map_toArray, List.map_cons, List.map_nil]); first | done | rfl | (simp only [List.length_drop, List.length_take]; rfl)) ?_; (with_reducible refine (oublietteref10_Trim.calls a1 a2 t140 _ A5.out).mono ?_); rintro e w' ⟨rfl, ⟨nd, rfl⟩⟩; refine ⟨_, rfl, ?_⟩) | ((with_reducible refine gate_callee (f := 28) rfl ?_); refine goesL_ (some 18) rfl rfl Try.func28 (by kernel_rfl) rfl #[.bool a1] rfl (by (try simp only [List.map_toArray, List.map_cons, List.map_nil]); first | done | rfl | (simp only [List.length_drop, List.length_take]; rfl)) ?_; (with_reducible refine (oublietteref10_bits.calls a1 t141 _ A6.out).mono ?_); rintro e w' ⟨rfl, ⟨nd, rfl⟩⟩; refine ⟨_, rfl, ?_⟩))
  go_loopg [2, 11] k (fun kq v2 v11 w' => ∃ (x2_1 : Int) (x11_1 : Int), v2 = .int .i64 x2_1 ∧ v11 = .int .i64 x11_1 ∧ Aside0 (oublietteref10_Shift.l0 kq a0 a1 x2_1 (Go.bits .and .i64 a3 (wrap64 (t141 - 1))) t141 x11_1 = some (r1, r2)) ∧ Aside0 (kq ≤ k) ∧ Drawn0 w w')
  case atStart => exact ⟨(t140), (0), (by first | rfl | (simp; done) | (simp [*]; done)), (by first | rfl | (simp; done) | (simp [*]; done)), H', ⟨Nat.le_refl _⟩, by repeat (first | exact Drawn0.refl _ | apply Drawn0.step)⟩
  case round =>
    clear H'
    try clear c1
    try clear c2
    try clear p2
    try clear p6
    obtain ⟨x2_1, x11_1, rfl, rfl, HA, HK1, ⟨m1, rfl⟩⟩ := hrel
    cases gk with
    | zero => exact absurd HA.out (by simp [oublietteref10_Shift.l0])
    | succ k1 =>
      have H := HA.out
      clear HA
      simp only [oublietteref10_Shift.l0] at H
      by_cases c7 : x11_1 < (Go.bits .and .i64 a3 (wrap64 (t141 - 1)))
      · rw [if_pos c7] at H
        have c7b0 : decide (x11_1 < (Go.bits .and .i64 a3 (wrap64 (t141 - 1)))) = true := decide_eq_true c7
        clear c7
        replace H := Option.bind_eq_some_iff.mp H
        obtain ⟨t142, A80, H⟩ := H
        replace H : (if a0 = 0 then (oublietteref10_Shift.j1 k1 a0 a1 x2_1 (Go.bits .and .i64 a3 (wrap64 (t141 - 1))) t141 x11_1 t142 ((Go.bits .and .i64 x2_1 1) == 1) a0 (a0 == 0)) else (oublietteref10_Shift.j1 k1 a0 a1 x2_1 (Go.bits .and .i64 a3 (wrap64 (t141 - 1))) t141 x11_1 t142 ((Go.bits .and .i64 x2_1 1) == 1) a0 (a0 == 4))) = some (r1, r2) := H
        have A8 := Aside0.mk A80
        clear A80
        have HC9 := Aside0.mk H
        clear H
        go_upto_if 35 with (first | ((with_reducible refine gate_callee (f := 26) rfl ?_); refine goesL_ (some 30) rfl rfl Try.func26 (by kernel_rfl) rfl #[.bool a1, .int .i64 x2_1] rfl (by (try simp only [List.map_toArray, List.map_cons, List.map_nil]); first | done | rfl | (simp only [List.length_drop, List.length_take]; rfl)) ?_; (with_reducible refine (oublietteref10_top.calls a1 x2_1 t142 _ A8.out).mono ?_); rintro e w' ⟨rfl, ⟨nd, rfl⟩⟩; refine ⟨_, rfl, ?_⟩))
        (try simp only [Act.put, List.setIfInBounds_toArray, List.set_cons_zero, List.set_cons_succ])
        go_cut [35] (fun v35 wc => ∃ (kq : Nat) (x35_8 : Bool), v35 = .bool x35_8 ∧ Aside0 (oublietteref10_Shift.j1 kq a0 a1 x2_1 (Go.bits .and .i64 a3 (wrap64 (t141 - 1))) t141 x11_1 t142 ((Go.bits .and .i64 x2_1 1) == 1) a0 x35_8 = some (r1, r2)) ∧ Aside0 (kq ≤ k1) ∧ Drawn0 w wc)
        case first =>
          have H := HC9.out
          clear HC9
          by_cases c10 : a0 = 0
          · rw [if_pos c10] at H
            have c10b0 : (a0 == 0) = true := beq_iff_eq.mpr c10
            have c10b1 : (a0 != 0) = false := bne_eq_false_iff_eq.mpr c10
            clear c10
            (first | rw [c10b0] | (simp only [i64_w, i32_w]; rw [c10b0]) | skip)
            have H' := Aside0.mk H
            clear H
            go_wp2
            go_meet
            case rel => exact ⟨_, ((a0 == 0)), (by first | rfl | (simp; done) | (simp [*]; done)), H', ⟨by have := HK1.out; first | omega | exact Nat.le_refl _⟩, by repeat (first | exact Drawn0.refl _ | apply Drawn0.step)⟩
          · rw [if_neg c10] at H
            have c10b0 : (a0 == 0) = false := beq_eq_false_iff_ne.mpr c10
            have c10b1 : (a0 != 0) = true := bne_iff_ne.mpr c10
            (first | rw [c10b0] | (simp only [i64_w, i32_w]; rw [c10b0]) | skip)
            have H' := Aside0.mk H
            clear H
            go_wp2
            go_meet
            case rel => exact ⟨_, ((a0 == 4)), (by first | rfl | (simp; done) | (simp [*]; done)), H', ⟨by have := HK1.out; first | omega | exact Nat.le_refl _⟩, by repeat (first | exact Drawn0.refl _ | apply Drawn0.step)⟩
        case rest =>
          clear HC9
          try clear c1
          try clear c2
          try clear p2
          try clear p6
          try clear c7
          try clear c7b0
          try clear c10
          try clear c10b0
          try clear c10b1
          try clear p2
          try clear p6
          obtain ⟨kq, x35_8, rfl, HA, HJ8, ⟨mc8, rfl⟩⟩ := hcut
          cases kq with
          | zero => exact absurd HA.out (by simp [oublietteref10_Shift.j1])
          | succ kj8 =>
            have H := HA.out
            clear HA
            simp only [oublietteref10_Shift.j1] at H
            by_cases c11 : x35_8 = true
            · subst c11
              have H1 : ((oublietteref10_Trim.f a1 (wrap64 (x2_1 * 2))).bind fun t143 => (if a0 = 0 then (if t142 = true then (oublietteref10_Shift.l0 kj8 a0 a1 (Go.bits .or .i64 t143 1) (Go.bits .and .i64 a3 (wrap64 (t141 - 1))) t141 (wrap64 (x11_1 + 1))) else (oublietteref10_Shift.l0 kj8 a0 a1 t143 (Go.bits .and .i64 a3 (wrap64 (t141 - 1))) t141 (wrap64 (x11_1 + 1)))) else (oublietteref10_Shift.l0 kj8 a0 a1 t143 (Go.bits .and .i64 a3 (wrap64 (t141 - 1))) t141 (wrap64 (x11_1 + 1))))) = some (r1, r2) := by rw [if_pos rfl] at H; exact H
              clear H
              have H := H1
              clear H1
              replace H := Option.bind_eq_some_iff.mp H
              obtain ⟨t143, A120, H⟩ := H
              replace H : (if a0 = 0 then (if t142 = true then (oublietteref10_Shift.l0 kj8 a0 a1 (Go.bits .or .i64 t143 1) (Go.bits .and .i64 a3 (wrap64 (t141 - 1))) t141 (wrap64 (x11_1 + 1))) else (oublietteref10_Shift.l0 kj8 a0 a1 t143 (Go.bits .and .i64 a3 (wrap64 (t141 - 1))) t141 (wrap64 (x11_1 + 1)))) else (oublietteref10_Shift.l0 kj8 a0 a1 t143 (Go.bits .and .i64 a3 (wrap64 (t141 - 1))) t141 (wrap64 (x11_1 + 1)))) = some (r1, r2) := H
              have A12 := Aside0.mk A120
              clear A120
              by_cases c13 : a0 = 0
              · rw [if_pos c13] at H
                have c13b0 : (a0 == 0) = true := beq_iff_eq.mpr c13
                have c13b1 : (a0 != 0) = false := bne_eq_false_iff_eq.mpr c13
                clear c13
                by_cases c14 : t142 = true
                · subst c14
                  have H1 : (oublietteref10_Shift.l0 kj8 a0 a1 (Go.bits .or .i64 t143 1) (Go.bits .and .i64 a3 (wrap64 (t141 - 1))) t141 (wrap64 (x11_1 + 1))) = some (r1, r2) := by rw [if_pos rfl] at H; exact H
                  clear H
                  have H := H1
                  clear H1
                  have H' := Aside0.mk H
                  clear H
                  go_wp2_with (first | ((with_reducible refine gate_callee (f := 16) rfl ?_); refine goesL_ (some 41) rfl rfl Try.func16 (by kernel_rfl) rfl #[.bool a1, .int .i64 (wrap64 (x2_1 * 2))] rfl (by (try simp only [List.map_toArray, List.map_cons, List.map_nil]); first | done | rfl | (simp only [List.length_drop, List.length_take]; rfl)) ?_; (with_reducible refine (oublietteref10_Trim.calls a1 (wrap64 (x2_1 * 2)) t143 _ A12.out).mono ?_); rintro e w' ⟨rfl, ⟨nd, rfl⟩⟩; refine ⟨_, rfl, ?_⟩))
                  go_roundg kj8
                  case measure => have := HK1.out; have := HJ8.out; omega
                  case rel => exact ⟨(Go.bits .or .i64 t143 1), (wrap64 (x11_1 + 1)), (by first | rfl | (simp; done) | (simp [*]; done)), (by first | rfl | (simp; done) | (simp [*]; done)), H', ⟨by have := HK1.out; have := HJ8.out; omega⟩, by repeat (first | exact Drawn0.refl _ | apply Drawn0.step)⟩
                · replace c14 := Bool.eq_false_iff.mpr c14
                  subst c14
                  (try simp only [Bool.false_beq, Bool.true_beq] at *)
                  have H1 : (oublietteref10_Shift.l0 kj8 a0 a1 t143 (Go.bits .and .i64 a3 (wrap64 (t141 - 1))) t141 (wrap64 (x11_1 + 1))) = some (r1, r2) := by rw [if_neg (show ¬ (false = true) by decide)] at H; exact H
                  clear H
                  have H := H1
                  clear H1
                  have H' := Aside0.mk H
                  clear H
                  go_wp2_with (first | ((with_reducible refine gate_callee (f := 16) rfl ?_); refine goesL_ (some 41) rfl rfl Try.func16 (by kernel_rfl) rfl #[.bool a1, .int .i64 (wrap64 (x2_1 * 2))] rfl (by (try simp only [List.map_toArray, List.map_cons, List.map_nil]); first | done | rfl | (simp only [List.length_drop, List.length_take]; rfl)) ?_; (with_reducible refine (oublietteref10_Trim.calls a1 (wrap64 (x2_1 * 2)) t143 _ A12.out).mono ?_); rintro e w' ⟨rfl, ⟨nd, rfl⟩⟩; refine ⟨_, rfl, ?_⟩))
                  go_roundg kj8
                  case measure => have := HK1.out; have := HJ8.out; omega
                  case rel => exact ⟨(t143), (wrap64 (x11_1 + 1)), (by first | rfl | (simp; done) | (simp [*]; done)), (by first | rfl | (simp; done) | (simp [*]; done)), H', ⟨by have := HK1.out; have := HJ8.out; omega⟩, by repeat (first | exact Drawn0.refl _ | apply Drawn0.step)⟩
              · rw [if_neg c13] at H
                have c13b0 : (a0 == 0) = false := beq_eq_false_iff_ne.mpr c13
                have c13b1 : (a0 != 0) = true := bne_iff_ne.mpr c13
                have H' := Aside0.mk H
                clear H
                go_wp2_with (first | ((with_reducible refine gate_callee (f := 16) rfl ?_); refine goesL_ (some 41) rfl rfl Try.func16 (by kernel_rfl) rfl #[.bool a1, .int .i64 (wrap64 (x2_1 * 2))] rfl (by (try simp only [List.map_toArray, List.map_cons, List.map_nil]); first | done | rfl | (simp only [List.length_drop, List.length_take]; rfl)) ?_; (with_reducible refine (oublietteref10_Trim.calls a1 (wrap64 (x2_1 * 2)) t143 _ A12.out).mono ?_); rintro e w' ⟨rfl, ⟨nd, rfl⟩⟩; refine ⟨_, rfl, ?_⟩))
                go_roundg kj8
                case measure => have := HK1.out; have := HJ8.out; omega
                case rel => exact ⟨(t143), (wrap64 (x11_1 + 1)), (by first | rfl | (simp; done) | (simp [*]; done)), (by first | rfl | (simp; done) | (simp [*]; done)), H', ⟨by have := HK1.out; have := HJ8.out; omega⟩, by repeat (first | exact Drawn0.refl _ | apply Drawn0.step)⟩
            · replace c11 := Bool.eq_false_iff.mpr c11
              subst c11
              (try simp only [Bool.false_beq, Bool.true_beq] at *)
              have H1 : (if a0 = 1 then (oublietteref10_Shift.j2 kj8 a0 a1 x2_1 (Go.bits .and .i64 a3 (wrap64 (t141 - 1))) t141 x11_1 t142 ((Go.bits .and .i64 x2_1 1) == 1) (a0 == 1)) else (if a0 = 5 then (oublietteref10_Shift.j2 kj8 a0 a1 x2_1 (Go.bits .and .i64 a3 (wrap64 (t141 - 1))) t141 x11_1 t142 ((Go.bits .and .i64 x2_1 1) == 1) (a0 == 5)) else (oublietteref10_Shift.j2 kj8 a0 a1 x2_1 (Go.bits .and .i64 a3 (wrap64 (t141 - 1))) t141 x11_1 t142 ((Go.bits .and .i64 x2_1 1) == 1) (a0 == 7)))) = some (r1, r2) := by rw [if_neg (show ¬ (false = true) by decide)] at H; exact H
              clear H
              have H := H1
              clear H1
              have HC15 := Aside0.mk H
              clear H
              go_upto_if 49 with (fail)
              go_cut [49] (fun v49 wc => ∃ (kq : Nat) (x49_14 : Bool), v49 = .bool x49_14 ∧ Aside0 (oublietteref10_Shift.j2 kq a0 a1 x2_1 (Go.bits .and .i64 a3 (wrap64 (t141 - 1))) t141 x11_1 t142 ((Go.bits .and .i64 x2_1 1) == 1) x49_14 = some (r1, r2)) ∧ Aside0 (kq ≤ kj8) ∧ Drawn0 w wc)
              case first =>
                have H := HC15.out
                clear HC15
                by_cases c16 : a0 = 1
                · rw [if_pos c16] at H
                  have c16b0 : (a0 == 1) = true := beq_iff_eq.mpr c16
                  have c16b1 : (a0 != 1) = false := bne_eq_false_iff_eq.mpr c16
                  clear c16
                  (first | rw [c16b0] | (simp only [i64_w, i32_w]; rw [c16b0]) | skip)
                  have H' := Aside0.mk H
                  clear H
                  go_wp2
                  go_meet
                  case rel => exact ⟨_, ((a0 == 1)), (by first | rfl | (simp; done) | (simp [*]; done)), H', ⟨by have := HK1.out; have := HJ8.out; first | omega | exact Nat.le_refl _⟩, by repeat (first | exact Drawn0.refl _ | apply Drawn0.step)⟩
                · rw [if_neg c16] at H
                  have c16b0 : (a0 == 1) = false := beq_eq_false_iff_ne.mpr c16
                  have c16b1 : (a0 != 1) = true := bne_iff_ne.mpr c16
                  (first | rw [c16b0] | (simp only [i64_w, i32_w]; rw [c16b0]) | skip)
                  by_cases c17 : a0 = 5
                  · rw [if_pos c17] at H
                    have c17b0 : (a0 == 5) = true := beq_iff_eq.mpr c17
                    have c17b1 : (a0 != 5) = false := bne_eq_false_iff_eq.mpr c17
                    clear c17
                    have H' := Aside0.mk H
                    clear H
                    go_wp2
                    go_meet
                    case rel => exact ⟨_, ((a0 == 5)), (by first | rfl | (simp; done) | (simp [*]; done)), H', ⟨by have := HK1.out; have := HJ8.out; first | omega | exact Nat.le_refl _⟩, by repeat (first | exact Drawn0.refl _ | apply Drawn0.step)⟩
                  · rw [if_neg c17] at H
                    have c17b0 : (a0 == 5) = false := beq_eq_false_iff_ne.mpr c17
                    have c17b1 : (a0 != 5) = true := bne_iff_ne.mpr c17
                    have H' := Aside0.mk H
                    clear H
                    go_wp2
                    go_meet
                    case rel => exact ⟨_, ((a0 == 7)), (by first | rfl | (simp; done) | (simp [*]; done)), H', ⟨by have := HK1.out; have := HJ8.out; first | omega | exact Nat.le_refl _⟩, by repeat (first | exact Drawn0.refl _ | apply Drawn0.step)⟩
              case rest =>
                clear HC15
                try clear c1
                try clear c2
                try clear p2
                try clear p6
                try clear c7
                try clear c7b0
                try clear c8
                try clear c10
                try clear c10b0
                try clear c10b1
                try clear c11
                try clear c13
                try clear c13b0
                try clear c13b1
                try clear c14
                try clear c16
                try clear c16b0
                try clear c16b1
                try clear c17
                try clear c17b0
                try clear c17b1
                try clear p2
                try clear p6
                obtain ⟨kq, x49_14, rfl, HA, HJ14, ⟨mc14, rfl⟩⟩ := hcut
                cases kq with
                | zero => exact absurd HA.out (by simp [oublietteref10_Shift.j2])
                | succ kj14 =>
                  have H := HA.out
                  clear HA
                  simp only [oublietteref10_Shift.j2] at H
                  by_cases c18 : x49_14 = true
                  · subst c18
                    have H1 : (if a0 = 1 then (if ((Go.bits .and .i64 x2_1 1) == 1) = true then (oublietteref10_Shift.j3 kj14 a0 a1 (wrap64 ((IntKind.u64.wrap (x2_1)) / 2)) (Go.bits .and .i64 a3 (wrap64 (t141 - 1))) t141 x11_1 true) else (if a0 = 7 then (oublietteref10_Shift.j3 kj14 a0 a1 (wrap64 ((IntKind.u64.wrap (x2_1)) / 2)) (Go.bits .and .i64 a3 (wrap64 (t141 - 1))) t141 x11_1 t142) else (oublietteref10_Shift.j3 kj14 a0 a1 (wrap64 ((IntKind.u64.wrap (x2_1)) / 2)) (Go.bits .and .i64 a3 (wrap64 (t141 - 1))) t141 x11_1 false))) else (if a0 = 7 then (oublietteref10_Shift.j3 kj14 a0 a1 (wrap64 ((IntKind.u64.wrap (x2_1)) / 2)) (Go.bits .and .i64 a3 (wrap64 (t141 - 1))) t141 x11_1 t142) else (oublietteref10_Shift.j3 kj14 a0 a1 (wrap64 ((IntKind.u64.wrap (x2_1)) / 2)) (Go.bits .and .i64 a3 (wrap64 (t141 - 1))) t141 x11_1 false))) = some (r1, r2) := by rw [if_pos rfl] at H; exact H
                    clear H
                    have H := H1
                    clear H1
                    have HC19 := Aside0.mk H
                    clear H
                    go_upto_region 19 with (fail)
                    go_cut [68] (fun v68 wc => ∃ (kq : Nat) (x68_18 : Bool), v68 = .bool x68_18 ∧ Aside0 (oublietteref10_Shift.j3 kq a0 a1 (wrap64 ((IntKind.u64.wrap (x2_1)) / 2)) (Go.bits .and .i64 a3 (wrap64 (t141 - 1))) t141 x11_1 x68_18 = some (r1, r2)) ∧ Aside0 (kq ≤ kj14) ∧ Drawn0 w wc)
                    case first =>
                      have H := HC19.out
                      clear HC19
                      by_cases c20 : a0 = 1
                      · rw [if_pos c20] at H
                        have c20b0 : (a0 == 1) = true := beq_iff_eq.mpr c20
                        have c20b1 : (a0 != 1) = false := bne_eq_false_iff_eq.mpr c20
                        clear c20
                        (first | rw [c20b0] | (simp only [i64_w, i32_w]; rw [c20b0]) | skip)
                        by_cases c21 : ((Go.bits .and .i64 x2_1 1) == 1) = true
                        · rw [if_pos c21] at H
                          have c21b0 : ((Go.bits .and .i64 x2_1 1) == 1) = true := c21
                          (try (have c21b1 : decide ((Go.bits .and .i64 x2_1 1) = 1) = true := by simpa using c21))
                          (try (have c21b2 : ((Go.bits .and .i64 x2_1 1) == 1) = true := by simpa using c21))
                          clear c21
                          have H' := Aside0.mk H
                          clear H
                          go_wp2
                          go_meet
                          case rel => exact ⟨_, (true), (by first | rfl | (simp; done) | (simp [*]; done)), H', ⟨by have := HK1.out; have := HJ8.out; have := HJ14.out; first | omega | exact Nat.le_refl _⟩, by repeat (first | exact Drawn0.refl _ | apply Drawn0.step)⟩
                        · rw [if_neg c21] at H
                          have c21b0 : ((Go.bits .and .i64 x2_1 1) == 1) = false := by simpa using c21
                          (try (have c21b1 : decide ((Go.bits .and .i64 x2_1 1) = 1) = false := by simpa using c21))
                          (try (have c21b2 : ((Go.bits .and .i64 x2_1 1) == 1) = false := by simpa using c21))
                          (try (have c21b3 : ¬ ((Go.bits .and .i64 x2_1 1) = 1) := by simpa using c21))
                          clear c21
                          by_cases c22 : a0 = 7
                          · rw [if_pos c22] at H
                            have c22b0 : (a0 == 7) = true := beq_iff_eq.mpr c22
                            have c22b1 : (a0 != 7) = false := bne_eq_false_iff_eq.mpr c22
                            clear c22
                            have H' := Aside0.mk H
                            clear H
                            go_wp2
                            go_meet
                            case rel => exact ⟨_, (t142), (by first | rfl | (simp; done) | (simp [*]; done)), H', ⟨by have := HK1.out; have := HJ8.out; have := HJ14.out; first | omega | exact Nat.le_refl _⟩, by repeat (first | exact Drawn0.refl _ | apply Drawn0.step)⟩
                          · rw [if_neg c22] at H
                            have c22b0 : (a0 == 7) = false := beq_eq_false_iff_ne.mpr c22
                            have c22b1 : (a0 != 7) = true := bne_iff_ne.mpr c22
                            have H' := Aside0.mk H
                            clear H
                            go_wp2
                            go_meet
                            case rel => exact ⟨_, (false), (by first | rfl | (simp; done) | (simp [*]; done)), H', ⟨by have := HK1.out; have := HJ8.out; have := HJ14.out; first | omega | exact Nat.le_refl _⟩, by repeat (first | exact Drawn0.refl _ | apply Drawn0.step)⟩
                      · rw [if_neg c20] at H
                        have c20b0 : (a0 == 1) = false := beq_eq_false_iff_ne.mpr c20
                        have c20b1 : (a0 != 1) = true := bne_iff_ne.mpr c20
                        (first | rw [c20b0] | (simp only [i64_w, i32_w]; rw [c20b0]) | skip)
                        by_cases c23 : a0 = 7
                        · rw [if_pos c23] at H
                          have c23b0 : (a0 == 7) = true := beq_iff_eq.mpr c23
                          have c23b1 : (a0 != 7) = false := bne_eq_false_iff_eq.mpr c23
                          clear c23
                          have H' := Aside0.mk H
                          clear H
                          go_wp2
                          go_meet
                          case rel => exact ⟨_, (t142), (by first | rfl | (simp; done) | (simp [*]; done)), H', ⟨by have := HK1.out; have := HJ8.out; have := HJ14.out; first | omega | exact Nat.le_refl _⟩, by repeat (first | exact Drawn0.refl _ | apply Drawn0.step)⟩
                        · rw [if_neg c23] at H
                          have c23b0 : (a0 == 7) = false := beq_eq_false_iff_ne.mpr c23
                          have c23b1 : (a0 != 7) = true := bne_iff_ne.mpr c23
                          have H' := Aside0.mk H
                          clear H
                          go_wp2
                          go_meet
                          case rel => exact ⟨_, (false), (by first | rfl | (simp; done) | (simp [*]; done)), H', ⟨by have := HK1.out; have := HJ8.out; have := HJ14.out; first | omega | exact Nat.le_refl _⟩, by repeat (first | exact Drawn0.refl _ | apply Drawn0.step)⟩
                    case rest =>
                      clear HC19
                      try clear c1
                      try clear c2
                      try clear p2
                      try clear p6
                      try clear c7
                      try clear c7b0
                      try clear c8
                      try clear c10
                      try clear c10b0
                      try clear c10b1
                      try clear c11
                      try clear c13
                      try clear c13b0
                      try clear c13b1
                      try clear c14
                      try clear c16
                      try clear c16b0
                      try clear c16b1
                      try clear c17
                      try clear c17b0
                      try clear c17b1
                      try clear c18
                      try clear c20
                      try clear c20b0
                      try clear c20b1
                      try clear c21
                      try clear c21b0
                      try clear c21b1
                      try clear c21b2
                      try clear c22
                      try clear c22b0
                      try clear c22b1
                      try clear c23
                      try clear c23b0
                      try clear c23b1
                      try clear p2
                      try clear p6
                      obtain ⟨kq, x68_18, rfl, HA, HJ18, ⟨mc18, rfl⟩⟩ := hcut
                      cases kq with
                      | zero => exact absurd HA.out (by simp [oublietteref10_Shift.j3])
                      | succ kj18 =>
                        have H := HA.out
                        clear HA
                        simp only [oublietteref10_Shift.j3] at H
                        by_cases c24 : x68_18 = true
                        · subst c24
                          have H1 : (if 0 ≤ (wrap64 (t141 - 1)) then (oublietteref10_Shift.l0 kj18 a0 a1 (Go.bits .or .i64 (wrap64 ((IntKind.u64.wrap (x2_1)) / 2)) (shl .i64 1 (wrap64 (t141 - 1)))) (Go.bits .and .i64 a3 (wrap64 (t141 - 1))) t141 (wrap64 (x11_1 + 1))) else (none)) = some (r1, r2) := by rw [if_pos rfl] at H; exact H
                          clear H
                          have H := H1
                          clear H1
                          obtain ⟨ji25, hji25⟩ : ∃ j_ : Int, (wrap64 (t141 - 1)) = j_ := ⟨_, rfl⟩
                          replace H : (if 0 ≤ (ji25) then (oublietteref10_Shift.l0 kj18 a0 a1 (Go.bits .or .i64 (wrap64 ((IntKind.u64.wrap (x2_1)) / 2)) (shl .i64 1 (ji25))) (Go.bits .and .i64 a3 (ji25)) t141 (wrap64 (x11_1 + 1))) else (none)) = some (r1, r2) := by first | (rw [hji25] at H; exact H) | (simp only [hji25] at H ⊢; exact H)
                          (try rw [hji25] at c7b0)
                          have hji25w : (IntKind.i64.wrap (t141 - 1)) = ji25 := (i64_w _).trans hji25
                          by_cases c26 : 0 ≤ (ji25)
                          · rw [if_pos c26] at H
                            have c26b0 := eq_true c26
                            have c26b1 : decide (0 ≤ (ji25)) = true := decide_eq_true c26
                            clear c26
                            obtain ⟨ji27, hji27⟩ : ∃ j_ : Int, (shl .i64 1 (ji25)) = j_ := ⟨_, rfl⟩
                            replace H : (oublietteref10_Shift.l0 kj18 a0 a1 (Go.bits .or .i64 (wrap64 ((IntKind.u64.wrap (x2_1)) / 2)) (ji27)) (Go.bits .and .i64 a3 (ji25)) t141 (wrap64 (x11_1 + 1))) = some (r1, r2) := by first | (rw [hji27] at H; exact H) | (simp only [hji27] at H ⊢; exact H)
                            have hji27_ : (IntKind.i64.wrap (1 * 2 ^ min (ji25).toNat 64)) = ji27 := hji27
                            have hji27z : (ji25) ≤ 64 → (IntKind.i64.wrap (1 * 2 ^ (ji25).toNat)) = ji27 := shl_small hji27
                            have hji27u : (IntKind.i64.wrap (2 ^ min (ji25).toNat 64)) = ji27 := by have h_ := hji27_; rw [Int.one_mul] at h_; exact h_
                            have hji27v : (ji25) ≤ 64 → (IntKind.i64.wrap (2 ^ (ji25).toNat)) = ji27 := fun hle_ => by have h_ := hji27z hle_; rw [Int.one_mul] at h_; exact h_
                            have hji27y : (wrap64 (1 * 2 ^ min (ji25).toNat 64)) = ji27 := (i64_w _).symm.trans hji27_
                            have hji27x : (ji25) ≤ 64 → (wrap64 (1 * 2 ^ (ji25).toNat)) = ji27 := fun h_ => (i64_w _).symm.trans (hji27z h_)
                            have H' := Aside0.mk H
                            clear H
                            go_wp2
                            go_roundg kj18
                            case measure => have := HK1.out; have := HJ8.out; have := HJ14.out; have := HJ18.out; omega
                            case rel => exact ⟨(Go.bits .or .i64 (wrap64 ((IntKind.u64.wrap (x2_1)) / 2)) (ji27)), (wrap64 (x11_1 + 1)), (by first | rfl | (simp; done) | (simp only [← hji27] <;> (first | rfl | simp)) | (simp [*]; done)), (by first | rfl | (simp; done) | (simp [*]; done)), ⟨by have h_ := H'.out; first | exact h_ | (rw [← hji25] at h_; exact h_)⟩, ⟨by have := HK1.out; have := HJ8.out; have := HJ14.out; have := HJ18.out; omega⟩, by repeat (first | exact Drawn0.refl _ | apply Drawn0.step)⟩
                          · rw [if_neg c26] at H
                            exact absurd H (by simp)
                        · replace c24 := Bool.eq_false_iff.mpr c24
                          subst c24
                          (try simp only [Bool.false_beq, Bool.true_beq] at *)
                          have H1 : (oublietteref10_Shift.l0 kj18 a0 a1 (wrap64 ((IntKind.u64.wrap (x2_1)) / 2)) (Go.bits .and .i64 a3 (wrap64 (t141 - 1))) t141 (wrap64 (x11_1 + 1))) = some (r1, r2) := by rw [if_neg (show ¬ (false = true) by decide)] at H; exact H
                          clear H
                          have H := H1
                          clear H1
                          have H' := Aside0.mk H
                          clear H
                          go_wp2
                          go_roundg kj18
                          case measure => have := HK1.out; have := HJ8.out; have := HJ14.out; have := HJ18.out; omega
                          case rel => exact ⟨((wrap64 ((IntKind.u64.wrap (x2_1)) / 2))), (wrap64 (x11_1 + 1)), (by first | rfl | (simp; done) | (simp [*]; done)), (by first | rfl | (simp; done) | (simp [*]; done)), H', ⟨by have := HK1.out; have := HJ8.out; have := HJ14.out; have := HJ18.out; omega⟩, by repeat (first | exact Drawn0.refl _ | apply Drawn0.step)⟩
                  · replace c18 := Bool.eq_false_iff.mpr c18
                    subst c18
                    (try simp only [Bool.false_beq, Bool.true_beq] at *)
                    have H1 : (oublietteref10_Shift.l0 kj14 a0 a1 x2_1 (Go.bits .and .i64 a3 (wrap64 (t141 - 1))) t141 (wrap64 (x11_1 + 1))) = some (r1, r2) := by rw [if_neg (show ¬ (false = true) by decide)] at H; exact H
                    clear H
                    have H := H1
                    clear H1
                    have H' := Aside0.mk H
                    clear H
                    go_wp2
                    go_roundg kj14
                    case measure => have := HK1.out; have := HJ8.out; have := HJ14.out; omega
                    case rel => exact ⟨(x2_1), (wrap64 (x11_1 + 1)), (by first | rfl | (simp; done) | (simp [*]; done)), (by first | rfl | (simp; done) | (simp [*]; done)), H', ⟨by have := HK1.out; have := HJ8.out; have := HJ14.out; omega⟩, by repeat (first | exact Drawn0.refl _ | apply Drawn0.step)⟩
      · rw [if_neg c7] at H
        have c7b0 : decide (x11_1 < (Go.bits .and .i64 a3 (wrap64 (t141 - 1)))) = false := decide_eq_false c7
        clear c7
        have HC28 := Aside0.mk H
        clear H
        go_upto_if 75 with (fail)
        go_cut [75] (fun v75 wc => ∃ (kq : Nat) (x75_27 : Bool), v75 = .bool x75_27 ∧ Aside0 (oublietteref10_Shift.j4 kq x2_1 x75_27 = some (r1, r2)) ∧ Aside0 (kq ≤ k1) ∧ Drawn0 w wc)
        case first =>
          have H := HC28.out
          clear HC28
          by_cases c29 : a0 = 0
          · rw [if_pos c29] at H
            have c29b0 : (a0 == 0) = true := beq_iff_eq.mpr c29
            have c29b1 : (a0 != 0) = false := bne_eq_false_iff_eq.mpr c29
            clear c29
            (first | rw [c29b0] | (simp only [i64_w, i32_w]; rw [c29b0]) | skip)
            have H' := Aside0.mk H
            clear H
            go_wp2
            go_meet
            case rel => exact ⟨_, ((a0 == 0)), (by first | rfl | (simp; done) | (simp [*]; done)), H', ⟨by have := HK1.out; first | omega | exact Nat.le_refl _⟩, by repeat (first | exact Drawn0.refl _ | apply Drawn0.step)⟩
          · rw [if_neg c29] at H
            have c29b0 : (a0 == 0) = false := beq_eq_false_iff_ne.mpr c29
            have c29b1 : (a0 != 0) = true := bne_iff_ne.mpr c29
            (first | rw [c29b0] | (simp only [i64_w, i32_w]; rw [c29b0]) | skip)
            by_cases c30 : a0 = 1
            · rw [if_pos c30] at H
              have c30b0 : (a0 == 1) = true := beq_iff_eq.mpr c30
              have c30b1 : (a0 != 1) = false := bne_eq_false_iff_eq.mpr c30
              clear c30
              have H' := Aside0.mk H
              clear H
              go_wp2
              go_meet
              case rel => exact ⟨_, ((a0 == 1)), (by first | rfl | (simp; done) | (simp [*]; done)), H', ⟨by have := HK1.out; first | omega | exact Nat.le_refl _⟩, by repeat (first | exact Drawn0.refl _ | apply Drawn0.step)⟩
            · rw [if_neg c30] at H
              have c30b0 : (a0 == 1) = false := beq_eq_false_iff_ne.mpr c30
              have c30b1 : (a0 != 1) = true := bne_iff_ne.mpr c30
              by_cases c31 : a0 = 4
              · rw [if_pos c31] at H
                have c31b0 : (a0 == 4) = true := beq_iff_eq.mpr c31
                have c31b1 : (a0 != 4) = false := bne_eq_false_iff_eq.mpr c31
                clear c31
                have H' := Aside0.mk H
                clear H
                go_wp2
                go_meet
                case rel => exact ⟨_, ((a0 == 4)), (by first | rfl | (simp; done) | (simp [*]; done)), H', ⟨by have := HK1.out; first | omega | exact Nat.le_refl _⟩, by repeat (first | exact Drawn0.refl _ | apply Drawn0.step)⟩
              · rw [if_neg c31] at H
                have c31b0 : (a0 == 4) = false := beq_eq_false_iff_ne.mpr c31
                have c31b1 : (a0 != 4) = true := bne_iff_ne.mpr c31
                by_cases c32 : a0 = 5
                · rw [if_pos c32] at H
                  have c32b0 : (a0 == 5) = true := beq_iff_eq.mpr c32
                  have c32b1 : (a0 != 5) = false := bne_eq_false_iff_eq.mpr c32
                  clear c32
                  have H' := Aside0.mk H
                  clear H
                  go_wp2
                  go_meet
                  case rel => exact ⟨_, ((a0 == 5)), (by first | rfl | (simp; done) | (simp [*]; done)), H', ⟨by have := HK1.out; first | omega | exact Nat.le_refl _⟩, by repeat (first | exact Drawn0.refl _ | apply Drawn0.step)⟩
                · rw [if_neg c32] at H
                  have c32b0 : (a0 == 5) = false := beq_eq_false_iff_ne.mpr c32
                  have c32b1 : (a0 != 5) = true := bne_iff_ne.mpr c32
                  have H' := Aside0.mk H
                  clear H
                  go_wp2
                  go_meet
                  case rel => exact ⟨_, ((a0 == 7)), (by first | rfl | (simp; done) | (simp [*]; done)), H', ⟨by have := HK1.out; first | omega | exact Nat.le_refl _⟩, by repeat (first | exact Drawn0.refl _ | apply Drawn0.step)⟩
        case rest =>
          clear HC28
          try clear c1
          try clear c2
          try clear p2
          try clear c3
          try clear p6
          try clear c7
          try clear c7b0
          try clear c8
          try clear c10
          try clear c10b0
          try clear c10b1
          try clear c11
          try clear c13
          try clear c13b0
          try clear c13b1
          try clear c14
          try clear c16
          try clear c16b0
          try clear c16b1
          try clear c17
          try clear c17b0
          try clear c17b1
          try clear c18
          try clear c20
          try clear c20b0
          try clear c20b1
          try clear c21
          try clear c21b0
          try clear c21b1
          try clear c21b2
          try clear c22
          try clear c22b0
          try clear c22b1
          try clear c23
          try clear c23b0
          try clear c23b1
          try clear c24
          try clear c26
          try clear c26b0
          try clear c26b1
          try clear c28
          try clear c29
          try clear c29b0
          try clear c29b1
          try clear c30
          try clear c30b0
          try clear c30b1
          try clear c31
          try clear c31b0
          try clear c31b1
          try clear c32
          try clear c32b0
          try clear c32b1
          try clear p2
          try clear p6
          obtain ⟨kq, x75_27, rfl, HA, HJ27, ⟨mc27, rfl⟩⟩ := hcut
          cases kq with
          | zero => exact absurd HA.out (by simp [oublietteref10_Shift.j4])
          | succ kj27 =>
            have H := HA.out
            clear HA
            simp only [oublietteref10_Shift.j4] at H
            by_cases c33 : x75_27 = true
            · subst c33
              have H1 : (some (x2_1, true)) = some (r1, r2) := by rw [if_pos rfl] at H; exact H
              clear H
              have H := H1
              clear H1
              simp only [Option.some.injEq, Prod.mk.injEq] at H
              obtain ⟨rfl, rfl⟩ := H
              go_wp2
              go_ret2
              exact ⟨by first | rfl | (simp; done) | (simp [*]; done), by repeat (first | exact Drawn0.refl _ | apply Drawn0.step)⟩
            · replace c33 := Bool.eq_false_iff.mpr c33
              subst c33
              (try simp only [Bool.false_beq, Bool.true_beq] at *)
              have H1 : (some (0, false)) = some (r1, r2) := by rw [if_neg (show ¬ (false = true) by decide)] at H; exact H
              clear H
              have H := H1
              clear H1
              simp only [Option.some.injEq, Prod.mk.injEq] at H
              obtain ⟨rfl, rfl⟩ := H
              go_wp2
              go_ret2
              exact ⟨by first | rfl | (simp; done) | (simp [*]; done), by repeat (first | exact Drawn0.refl _ | apply Drawn0.step)⟩

/-! ### oubliettelaw10_FlagsShift: function 10 -/
def oubliettelaw10_FlagsShift.f (k : Nat) (a0 : Int) (a1 : Bool) (a2 : Int) (a3 : Int) : Option (Bool) := (oubliettelaw10_examples.f k).bind fun t144 => ((flags_Shift.f a0 a1 a2 a3).bind fun bt145 => ((oublietteref10_Shift.f k a0 a1 a2 a3).bind fun bt147 => (if t144 = true then (if bt145.1 = bt147.1 then (some (bt145.2 == bt147.2)) else (some false)) else (some false))))
theorem oubliettelaw10_FlagsShift.mono : ∀ a0 a1 a2 a3 k, LeO (oubliettelaw10_FlagsShift.f k a0 a1 a2 a3) (oubliettelaw10_FlagsShift.f (k + 1) a0 a1 a2 a3) := by
  intro a0 a1 a2 a3 k
  unfold oubliettelaw10_FlagsShift.f
  repeat' first
      | (with_reducible exact oubliettelaw10_examples.mono _)
      | (with_reducible exact oublietteref10_Shift.mono _ _ _ _ _)
      | (with_reducible exact LeO.refl _)
      | (with_reducible exact LeO.none _)
      | (with_reducible refine LeO.ite ?_ ?_)
      | (with_reducible refine LeO.bind ?_ (fun _ => ?_))
      | exact oubliettelaw10_examples.mono _
      | exact oublietteref10_Shift.mono _ _ _ _ _
      | exact LeO.none _
      | refine LeO.ite ?_ ?_
      | refine LeO.bind ?_ (fun _ => ?_)
set_option maxHeartbeats 60000000 in
set_option maxRecDepth 100000 in
theorem oubliettelaw10_FlagsShift.calls (k : Nat) (a0 : Int) (a1 : Bool) (a2 : Int) (a3 : Int) (r : Bool) (w : World) (h : oubliettelaw10_FlagsShift.f k a0 a1 a2 a3 = some r) (hr_ : r = true) :
    Calls Try.prog 10 #[.int .i64 a0, .bool a1, .int .i64 a2, .int .i64 a3] w fun e w' => e = .returned (.bool r) ∧ Below w.heap.size w w' := by
  have HR_ := Aside0.mk hr_
  clear hr_
  have HB := Aside0.mk (Below.refl w.heap.size w)
  have H : ((oubliettelaw10_examples.f k).bind fun t144 => ((flags_Shift.f a0 a1 a2 a3).bind fun bt145 => ((oublietteref10_Shift.f k a0 a1 a2 a3).bind fun bt147 => (if t144 = true then (if bt145.1 = bt147.1 then (some (bt145.2 == bt147.2)) else (some false)) else (some false))))) = some r := h
  clear h
  replace H := Option.bind_eq_some_iff.mp H
  obtain ⟨t144, A50, H⟩ := H
  replace H : ((flags_Shift.f a0 a1 a2 a3).bind fun bt145 => ((oublietteref10_Shift.f k a0 a1 a2 a3).bind fun bt147 => (if t144 = true then (if bt145.1 = bt147.1 then (some (bt145.2 == bt147.2)) else (some false)) else (some false)))) = some r := H
  have A5 := Aside0.mk A50
  clear A50
  replace H := Option.bind_eq_some_iff.mp H
  obtain ⟨⟨t145, t146⟩, A60, H⟩ := H
  replace H : ((oublietteref10_Shift.f k a0 a1 a2 a3).bind fun bt147 => (if t144 = true then (if t145 = bt147.1 then (some (t146 == bt147.2)) else (some false)) else (some false))) = some r := H
  have A6 := Aside0.mk A60
  clear A60
  replace H := Option.bind_eq_some_iff.mp H
  obtain ⟨⟨t147, t148⟩, A70, H⟩ := H
  replace H : (if t144 = true then (if t145 = t147 then (some (t146 == t148)) else (some false)) else (some false)) = some r := H
  have A7 := Aside0.mk A70
  clear A70
  by_cases c8 : t144 = true
  · subst c8
    have H1 : (if t145 = t147 then (some (t146 == t148)) else (some false)) = some r := by rw [if_pos rfl] at H; exact H
    clear H
    have H := H1
    clear H1
    by_cases c9 : t145 = t147
    · rw [if_pos c9] at H
      have c9b0 : (t145 == t147) = true := beq_iff_eq.mpr c9
      have c9b1 : (t145 != t147) = false := bne_eq_false_iff_eq.mpr c9
      clear c9
      obtain rfl := Option.some.inj H
      go_enter Try.func10, Try.ntmps10
      go_wp2_with (first | ((with_reducible refine gate_callee (f := 12) rfl ?_); refine goesL_ (some 14) rfl rfl Try.func12 (by kernel_rfl) rfl #[] rfl (by (try simp only [List.map_toArray, List.map_cons, List.map_nil]); first | done | rfl | (simp only [List.length_drop, List.length_take]; rfl)) ?_; (with_reducible refine (oubliettelaw10_examples.calls k  true _ A5.out).mono ?_); rintro e w10 ⟨rfl, hb⟩; refine ⟨_, rfl, ?_⟩; have n0_ := Aside0.mk (below_step (by repeat (first | (with_reducible first | exact HB.out | apply below_alloc | apply pw_below_drewN | apply below_drew1) | exact HB.out)) hb); clear HB; have HB := n0_; clear n0_; (try clear hb); (try clear hb2); (try clear hk); (try clear hi)) | ((with_reducible refine gate_callee (f := 23) rfl ?_); refine goesL_ (some 20) rfl rfl Try.func23 (by kernel_rfl) rfl #[.int .i64 a0, .bool a1, .int .i64 a2, .int .i64 a3] rfl (by (try simp only [List.map_toArray, List.map_cons, List.map_nil]); first | done | rfl | (simp only [List.length_drop, List.length_take]; rfl)) ?_; (with_reducible refine (flags_Shift.calls a0 a1 a2 a3 t145 t146 _ A6.out).mono ?_); rintro e w11 ⟨rfl, hb⟩; refine ⟨_, rfl, ?_⟩; have n0_ := Aside0.mk (below_step (by repeat (first | (with_reducible first | exact HB.out | apply below_alloc | apply pw_below_drewN | apply below_drew1) | exact HB.out)) hb); clear HB; have HB := n0_; clear n0_; (try clear hb); (try clear hb2); (try clear hk); (try clear hi)) | ((with_reducible refine gate_callee (f := 24) rfl ?_); refine goesL_ (some 28) rfl rfl Try.func24 (by kernel_rfl) rfl #[.int .i64 a0, .bool a1, .int .i64 a2, .int .i64 a3] rfl (by (try simp only [List.map_toArray, List.map_cons, List.map_nil]); first | done | rfl | (simp only [List.length_drop, List.length_take]; rfl)) ?_; (with_reducible refine (oublietteref10_Shift.calls k a0 a1 a2 a3 t147 t148 _ A7.out).mono ?_); rintro e w' ⟨rfl, ⟨nd, rfl⟩⟩; refine ⟨_, rfl, ?_⟩))
      go_ret
      exact ⟨by first | rfl | (simp [errW_none, errW_some] <;> (first | rfl | grind)) | (simp [*, errW_none, errW_some] <;> rfl), by repeat (first | (with_reducible first | exact HB.out | apply below_alloc | apply pw_below_drewN | apply below_drew1) | exact HB.out)⟩
    · rw [if_neg c9] at H
      have c9b0 : (t145 == t147) = false := beq_eq_false_iff_ne.mpr c9
      have c9b1 : (t145 != t147) = true := bne_iff_ne.mpr c9
      exact absurd (Option.some.inj H) (by rw [HR_.out]; simp)
  · replace c8 := Bool.eq_false_iff.mpr c8
    subst c8
    (try simp only [Bool.false_beq, Bool.true_beq] at *)
    have H1 : (some false) = some r := by rw [if_neg (show ¬ (false = true) by decide)] at H; exact H
    clear H
    have H := H1
    clear H1
    exact absurd (Option.some.inj H) (by rw [HR_.out]; simp)

/-- THE ONE PURE STATEMENT of oubliettelaw10_FlagsShift: yours. -/
def oubliettelaw10_FlagsShift.Pure : Prop := ∀ (a0 : Int) (a1 : Bool) (a2 : Int) (a3 : Int), (Lit.int .i64 a0).wf = true → (Lit.int .i64 a2).wf = true → (Lit.int .i64 a3).wf = true → ∃ k, oubliettelaw10_FlagsShift.f k a0 a1 a2 a3 = some true
theorem oubliettelaw10_FlagsShift.walk (P : oubliettelaw10_FlagsShift.Pure) (a0 : Int) (a1 : Bool) (a2 : Int) (a3 : Int) (w : World) (w0 : (Lit.int .i64 a0).wf = true) (w2 : (Lit.int .i64 a2).wf = true) (w3 : (Lit.int .i64 a3).wf = true) :
    Calls Try.prog 10 #[.int .i64 a0, .bool a1, .int .i64 a2, .int .i64 a3] w fun e w' => e = .returned (.bool true) ∧ Below w.heap.size w w' := by
  obtain ⟨k, h⟩ := P a0 a1 a2 a3 w0 w2 w3
  refine (oubliettelaw10_FlagsShift.calls k a0 a1 a2 a3 true w h rfl).mono ?_
  rintro e w' ⟨rfl, hd⟩
  exact ⟨rfl, hd⟩

end Go.Proofs.Ytmmbhhapkgnlfaa.MH

-- printed for this claim by a program of this session, after the form of the printed texts
import Derived.Test.YtmmbhhapkgnlfaaMHx0
import Derived.Test.YtmmbhhapkgnlfaaMHx2
import Derived.Test.YtmmbhhapkgnlfaaMHx4
namespace Go.Proofs.Ytmmbhhapkgnlfaa.MH
open Go.RowKit Go.Proofs.YtmmbhhapkgnlfaaW.PrintWords Go.Proofs.YtmmbhhapkgnlfaaW.PrintLast Go.Proofs.YtmmbhhapkgnlfaaW.PrintMore
attribute [local go_sem] max2_int min2_int max_two min_two max_three min_three max_four min_four   -- for this text's walks alone
set_option linter.unusedVariables false
set_option linter.unusedSimpArgs false

/-! ### oubliettelaw10_FlagsTurns: function 11 -/
def oubliettelaw10_FlagsTurns.f (k : Nat) (a0 : Bool) (a1 : Int) (a2 : Int) : Option (Bool) := (oubliettelaw10_examples.f k).bind fun t149 => ((flags_Trim.f a0 a1).bind fun t150 => ((flags_Shift.f 0 a0 a1 a2).bind fun bt151 => ((flags_Shift.f 1 a0 bt151.1 a2).bind fun bt153 => ((flags_Shift.f 4 a0 a1 64).bind fun bt155 => ((flags_Shift.f 7 a0 a1 (-64)).bind fun bt157 => (if t149 = true then (if bt151.2 = true then (if bt153.2 = true then (if bt153.1 = t150 then (if bt155.2 = true then (if bt155.1 = t150 then (if bt157.2 = true then (some (bt157.1 == t150)) else (some false)) else (some false)) else (some false)) else (some false)) else (some false)) else (some false)) else (some false)))))))
theorem oubliettelaw10_FlagsTurns.mono : ∀ a0 a1 a2 k, LeO (oubliettelaw10_FlagsTurns.f k a0 a1 a2) (oubliettelaw10_FlagsTurns.f (k + 1) a0 a1 a2) := by
  intro a0 a1 a2 k
  unfold oubliettelaw10_FlagsTurns.f
  repeat' first
      | (with_reducible exact oubliettelaw10_examples.mono _)
      | (with_reducible exact LeO.refl _)
      | (with_reducible exact LeO.none _)
      | (with_reducible refine LeO.ite ?_ ?_)
      | (with_reducible refine LeO.bind ?_ (fun _ => ?_))
      | exact oubliettelaw10_examples.mono _
      | exact LeO.none _
      | refine LeO.ite ?_ ?_
      | refine LeO.bind ?_ (fun _ => ?_)
set_option maxHeartbeats 60000000 in
set_option maxRecDepth 100000 in
theorem oubliettelaw10_FlagsTurns.calls (k : Nat) (a0 : Bool) (a1 : Int) (a2 : Int) (r : Bool) (w : World) (h : oubliettelaw10_FlagsTurns.f k a0 a1 a2 = some r) (hr_ : r = true) :
    Calls Try.prog 11 #[.bool a0, .int .i64 a1, .int .i64 a2] w fun e w' => e = .returned (.bool r) ∧ Below w.heap.size w w' := by
  have HR_ := Aside0.mk hr_
  clear hr_
  have HB := Aside0.mk (Below.refl w.heap.size w)
  have H : ((oubliettelaw10_examples.f k).bind fun t149 => ((flags_Trim.f a0 a1).bind fun t150 => ((flags_Shift.f 0 a0 a1 a2).bind fun bt151 => ((flags_Shift.f 1 a0 bt151.1 a2).bind fun bt153 => ((flags_Shift.f 4 a0 a1 64).bind fun bt155 => ((flags_Shift.f 7 a0 a1 (-64)).bind fun bt157 => (if t149 = true then (if bt151.2 = true then (if bt153.2 = true then (if bt153.1 = t150 then (if bt155.2 = true then (if bt155.1 = t150 then (if bt157.2 = true then (some (bt157.1 == t150)) else (some false)) else (some false)) else (some false)) else (some false)) else (some false)) else (some false)) else (some false)))))))) = some r := h
  clear h
  replace H := Option.bind_eq_some_iff.mp H
  obtain ⟨t149, A40, H⟩ := H
  replace H : ((flags_Trim.f a0 a1).bind fun t150 => ((flags_Shift.f 0 a0 a1 a2).bind fun bt151 => ((flags_Shift.f 1 a0 bt151.1 a2).bind fun bt153 => ((flags_Shift.f 4 a0 a1 64).bind fun bt155 => ((flags_Shift.f 7 a0 a1 (-64)).bind fun bt157 => (if t149 = true then (if bt151.2 = true then (if bt153.2 = true then (if bt153.1 = t150 then (if bt155.2 = true then (if bt155.1 = t150 then (if bt157.2 = true then (some (bt157.1 == t150)) else (some false)) else (some false)) else (some false)) else (some false)) else (some false)) else (some false)) else (some false))))))) = some r := H
  have A4 := Aside0.mk A40
  clear A40
  replace H := Option.bind_eq_some_iff.mp H
  obtain ⟨t150, A50, H⟩ := H
  replace H : ((flags_Shift.f 0 a0 a1 a2).bind fun bt151 => ((flags_Shift.f 1 a0 bt151.1 a2).bind fun bt153 => ((flags_Shift.f 4 a0 a1 64).bind fun bt155 => ((flags_Shift.f 7 a0 a1 (-64)).bind fun bt157 => (if t149 = true then (if bt151.2 = true then (if bt153.2 = true then (if bt153.1 = t150 then (if bt155.2 = true then (if bt155.1 = t150 then (if bt157.2 = true then (some (bt157.1 == t150)) else (some false)) else (some false)) else (some false)) else (some false)) else (some false)) else (some false)) else (some false)))))) = some r := H
  have A5 := Aside0.mk A50
  clear A50
  replace H := Option.bind_eq_some_iff.mp H
  obtain ⟨⟨t151, t152⟩, A60, H⟩ := H
  replace H : ((flags_Shift.f 1 a0 t151 a2).bind fun bt153 => ((flags_Shift.f 4 a0 a1 64).bind fun bt155 => ((flags_Shift.f 7 a0 a1 (-64)).bind fun bt157 => (if t149 = true then (if t152 = true then (if bt153.2 = true then (if bt153.1 = t150 then (if bt155.2 = true then (if bt155.1 = t150 then (if bt157.2 = true then (some (bt157.1 == t150)) else (some false)) else (some false)) else (some false)) else (some false)) else (some false)) else (some false)) else (some false))))) = some r := H
  have A6 := Aside0.mk A60
  clear A60
  replace H := Option.bind_eq_some_iff.mp H
  obtain ⟨⟨t153, t154⟩, A70, H⟩ := H
  replace H : ((flags_Shift.f 4 a0 a1 64).bind fun bt155 => ((flags_Shift.f 7 a0 a1 (-64)).bind fun bt157 => (if t149 = true then (if t152 = true then (if t154 = true then (if t153 = t150 then (if bt155.2 = true then (if bt155.1 = t150 then (if bt157.2 = true then (some (bt157.1 == t150)) else (some false)) else (some false)) else (some false)) else (some false)) else (some false)) else (some false)) else (some false)))) = some r := H
  have A7 := Aside0.mk A70
  clear A70
  replace H := Option.bind_eq_some_iff.mp H
  obtain ⟨⟨t155, t156⟩, A80, H⟩ := H
  replace H : ((flags_Shift.f 7 a0 a1 (-64)).bind fun bt157 => (if t149 = true then (if t152 = true then (if t154 = true then (if t153 = t150 then (if t156 = true then (if t155 = t150 then (if bt157.2 = true then (some (bt157.1 == t150)) else (some false)) else (some false)) else (some false)) else (some false)) else (some false)) else (some false)) else (some false))) = some r := H
  have A8 := Aside0.mk A80
  clear A80
  replace H := Option.bind_eq_some_iff.mp H
  obtain ⟨⟨t157, t158⟩, A90, H⟩ := H
  replace H : (if t149 = true then (if t152 = true then (if t154 = true then (if t153 = t150 then (if t156 = true then (if t155 = t150 then (if t158 = true then (some (t157 == t150)) else (some false)) else (some false)) else (some false)) else (some false)) else (some false)) else (some false)) else (some false)) = some r := H
  have A9 := Aside0.mk A90
  clear A90
  by_cases c10 : t149 = true
  · subst c10
    have H1 : (if t152 = true then (if t154 = true then (if t153 = t150 then (if t156 = true then (if t155 = t150 then (if t158 = true then (some (t157 == t150)) else (some false)) else (some false)) else (some false)) else (some false)) else (some false)) else (some false)) = some r := by rw [if_pos rfl] at H; exact H
    clear H
    have H := H1
    clear H1
    by_cases c11 : t152 = true
    · subst c11
      have H1 : (if t154 = true then (if t153 = t150 then (if t156 = true then (if t155 = t150 then (if t158 = true then (some (t157 == t150)) else (some false)) else (some false)) else (some false)) else (some false)) else (some false)) = some r := by rw [if_pos rfl] at H; exact H
      clear H
      have H := H1
      clear H1
      by_cases c12 : t154 = true
      · subst c12
        have H1 : (if t153 = t150 then (if t156 = true then (if t155 = t150 then (if t158 = true then (some (t157 == t150)) else (some false)) else (some false)) else (some false)) else (some false)) = some r := by rw [if_pos rfl] at H; exact H
        clear H
        have H := H1
        clear H1
        by_cases c13 : t153 = t150
        · rw [if_pos c13] at H
          have c13b0 : (t153 == t150) = true := beq_iff_eq.mpr c13
          have c13b1 : (t153 != t150) = false := bne_eq_false_iff_eq.mpr c13
          clear c13
          by_cases c14 : t156 = true
          · subst c14
            have H1 : (if t155 = t150 then (if t158 = true then (some (t157 == t150)) else (some false)) else (some false)) = some r := by rw [if_pos rfl] at H; exact H
            clear H
            have H := H1
            clear H1
            by_cases c15 : t155 = t150
            · rw [if_pos c15] at H
              have c15b0 : (t155 == t150) = true := beq_iff_eq.mpr c15
              have c15b1 : (t155 != t150) = false := bne_eq_false_iff_eq.mpr c15
              clear c15
              by_cases c16 : t158 = true
              · subst c16
                have H1 : (some (t157 == t150)) = some r := by rw [if_pos rfl] at H; exact H
                clear H
                have H := H1
                clear H1
                obtain rfl := Option.some.inj H
                go_enter Try.func11, Try.ntmps11
                go_wp2_with (first | ((with_reducible refine gate_callee (f := 12) rfl ?_); refine goesL_ (some 17) rfl rfl Try.func12 (by kernel_rfl) rfl #[] rfl (by (try simp only [List.map_toArray, List.map_cons, List.map_nil]); first | done | rfl | (simp only [List.length_drop, List.length_take]; rfl)) ?_; (with_reducible refine (oubliettelaw10_examples.calls k  true _ A4.out).mono ?_); rintro e w17 ⟨rfl, hb⟩; refine ⟨_, rfl, ?_⟩; have n0_ := Aside0.mk (below_step (by repeat (first | (with_reducible first | exact HB.out | apply below_alloc | apply pw_below_drewN | apply below_drew1) | exact HB.out)) hb); clear HB; have HB := n0_; clear n0_; (try clear hb); (try clear hb2); (try clear hk); (try clear hi)) | ((with_reducible refine gate_callee (f := 15) rfl ?_); refine goesL_ (some 20) rfl rfl Try.func15 (by kernel_rfl) rfl #[.bool a0, .int .i64 a1] rfl (by (try simp only [List.map_toArray, List.map_cons, List.map_nil]); first | done | rfl | (simp only [List.length_drop, List.length_take]; rfl)) ?_; (with_reducible refine (flags_Trim.calls a0 a1 t150 _ A5.out).mono ?_); rintro e w' ⟨rfl, ⟨nd, rfl⟩⟩; refine ⟨_, rfl, ?_⟩) | ((with_reducible refine gate_callee (f := 23) rfl ?_); refine goesL_ (some 25) rfl rfl Try.func23 (by kernel_rfl) rfl #[.int .i64 0, .bool a0, .int .i64 a1, .int .i64 a2] rfl (by (try simp only [List.map_toArray, List.map_cons, List.map_nil]); first | done | rfl | (simp only [List.length_drop, List.length_take]; rfl)) ?_; (with_reducible refine (flags_Shift.calls 0 a0 a1 a2 t151 true _ A6.out).mono ?_); rintro e w18 ⟨rfl, hb⟩; refine ⟨_, rfl, ?_⟩; have n0_ := Aside0.mk (below_step (by repeat (first | (with_reducible first | exact HB.out | apply below_alloc | apply pw_below_drewN | apply below_drew1) | exact HB.out)) hb); clear HB; have HB := n0_; clear n0_; (try clear hb); (try clear hb2); (try clear hk); (try clear hi)) | ((with_reducible refine gate_callee (f := 23) rfl ?_); refine goesL_ (some 32) rfl rfl Try.func23 (by kernel_rfl) rfl #[.int .i64 1, .bool a0, .int .i64 t151, .int .i64 a2] rfl (by (try simp only [List.map_toArray, List.map_cons, List.map_nil]); first | done | rfl | (simp only [List.length_drop, List.length_take]; rfl)) ?_; (with_reducible refine (flags_Shift.calls 1 a0 t151 a2 t153 true _ A7.out).mono ?_); rintro e w19 ⟨rfl, hb⟩; refine ⟨_, rfl, ?_⟩; have n0_ := Aside0.mk (below_step (by repeat (first | (with_reducible first | exact HB.out | apply below_alloc | apply pw_below_drewN | apply below_drew1) | exact HB.out)) hb); clear HB; have HB := n0_; clear n0_; (try clear hb); (try clear hb2); (try clear hk); (try clear hi)) | ((with_reducible refine gate_callee (f := 23) rfl ?_); refine goesL_ (some 38) rfl rfl Try.func23 (by kernel_rfl) rfl #[.int .i64 4, .bool a0, .int .i64 a1, .int .i64 64] rfl (by (try simp only [List.map_toArray, List.map_cons, List.map_nil]); first | done | rfl | (simp only [List.length_drop, List.length_take]; rfl)) ?_; (with_reducible refine (flags_Shift.calls 4 a0 a1 64 t155 true _ A8.out).mono ?_); rintro e w20 ⟨rfl, hb⟩; refine ⟨_, rfl, ?_⟩; have n0_ := Aside0.mk (below_step (by repeat (first | (with_reducible first | exact HB.out | apply below_alloc | apply pw_below_drewN | apply below_drew1) | exact HB.out)) hb); clear HB; have HB := n0_; clear n0_; (try clear hb); (try clear hb2); (try clear hk); (try clear hi)) | ((with_reducible refine gate_callee (f := 23) rfl ?_); refine goesL_ (some 44) rfl rfl Try.func23 (by kernel_rfl) rfl #[.int .i64 7, .bool a0, .int .i64 a1, .int .i64 (-64)] rfl (by (try simp only [List.map_toArray, List.map_cons, List.map_nil]); first | done | rfl | (simp only [List.length_drop, List.length_take]; rfl)) ?_; (with_reducible refine (flags_Shift.calls 7 a0 a1 (-64) t157 true _ A9.out).mono ?_); rintro e w21 ⟨rfl, hb⟩; refine ⟨_, rfl, ?_⟩; have n0_ := Aside0.mk (below_step (by repeat (first | (with_reducible first | exact HB.out | apply below_alloc | apply pw_below_drewN | apply below_drew1) | exact HB.out)) hb); clear HB; have HB := n0_; clear n0_; (try clear hb); (try clear hb2); (try clear hk); (try clear hi)))
                go_ret
                exact ⟨by first | rfl | (simp [errW_none, errW_some] <;> (first | rfl | grind)) | (simp [*, errW_none, errW_some] <;> rfl), by repeat (first | (with_reducible first | exact HB.out | apply below_alloc | apply pw_below_drewN | apply below_drew1) | exact HB.out)⟩
              · replace c16 := Bool.eq_false_iff.mpr c16
                subst c16
                (try simp only [Bool.false_beq, Bool.true_beq] at *)
                have H1 : (some false) = some r := by rw [if_neg (show ¬ (false = true) by decide)] at H; exact H
                clear H
                have H := H1
                clear H1
                exact absurd (Option.some.inj H) (by rw [HR_.out]; simp)
            · rw [if_neg c15] at H
              have c15b0 : (t155 == t150) = false := beq_eq_false_iff_ne.mpr c15
              have c15b1 : (t155 != t150) = true := bne_iff_ne.mpr c15
              exact absurd (Option.some.inj H) (by rw [HR_.out]; simp)
          · replace c14 := Bool.eq_false_iff.mpr c14
            subst c14
            (try simp only [Bool.false_beq, Bool.true_beq] at *)
            have H1 : (some false) = some r := by rw [if_neg (show ¬ (false = true) by decide)] at H; exact H
            clear H
            have H := H1
            clear H1
            exact absurd (Option.some.inj H) (by rw [HR_.out]; simp)
        · rw [if_neg c13] at H
          have c13b0 : (t153 == t150) = false := beq_eq_false_iff_ne.mpr c13
          have c13b1 : (t153 != t150) = true := bne_iff_ne.mpr c13
          exact absurd (Option.some.inj H) (by rw [HR_.out]; simp)
      · replace c12 := Bool.eq_false_iff.mpr c12
        subst c12
        (try simp only [Bool.false_beq, Bool.true_beq] at *)
        have H1 : (some false) = some r := by rw [if_neg (show ¬ (false = true) by decide)] at H; exact H
        clear H
        have H := H1
        clear H1
        exact absurd (Option.some.inj H) (by rw [HR_.out]; simp)
    · replace c11 := Bool.eq_false_iff.mpr c11
      subst c11
      (try simp only [Bool.false_beq, Bool.true_beq] at *)
      have H1 : (some false) = some r := by rw [if_neg (show ¬ (false = true) by decide)] at H; exact H
      clear H
      have H := H1
      clear H1
      exact absurd (Option.some.inj H) (by rw [HR_.out]; simp)
  · replace c10 := Bool.eq_false_iff.mpr c10
    subst c10
    (try simp only [Bool.false_beq, Bool.true_beq] at *)
    have H1 : (some false) = some r := by rw [if_neg (show ¬ (false = true) by decide)] at H; exact H
    clear H
    have H := H1
    clear H1
    exact absurd (Option.some.inj H) (by rw [HR_.out]; simp)

/-- THE ONE PURE STATEMENT of oubliettelaw10_FlagsTurns: yours. -/
def oubliettelaw10_FlagsTurns.Pure : Prop := ∀ (a0 : Bool) (a1 : Int) (a2 : Int), (Lit.int .i64 a1).wf = true → (Lit.int .i64 a2).wf = true → ∃ k, oubliettelaw10_FlagsTurns.f k a0 a1 a2 = some true
theorem oubliettelaw10_FlagsTurns.walk (P : oubliettelaw10_FlagsTurns.Pure) (a0 : Bool) (a1 : Int) (a2 : Int) (w : World) (w1 : (Lit.int .i64 a1).wf = true) (w2 : (Lit.int .i64 a2).wf = true) :
    Calls Try.prog 11 #[.bool a0, .int .i64 a1, .int .i64 a2] w fun e w' => e = .returned (.bool true) ∧ Below w.heap.size w w' := by
  obtain ⟨k, h⟩ := P a0 a1 a2 w1 w2
  refine (oubliettelaw10_FlagsTurns.calls k a0 a1 a2 true w h rfl).mono ?_
  rintro e w' ⟨rfl, hd⟩
  exact ⟨rfl, hd⟩

end Go.Proofs.Ytmmbhhapkgnlfaa.MH

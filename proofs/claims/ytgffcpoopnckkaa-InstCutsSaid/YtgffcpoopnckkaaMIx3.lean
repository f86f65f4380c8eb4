-- printed for this claim by a program of this session, after the form of the printed texts
import Derived.Test.YtgffcpoopnckkaaMIx0
import Derived.Test.YtgffcpoopnckkaaMIx2
namespace Go.Proofs.Ytgffcpoopnckkaa.MI
open Go.RowKit Go.Proofs.YtgffcpoopnckkaaW.PrintWords Go.Proofs.YtgffcpoopnckkaaW.PrintLast Go.Proofs.YtgffcpoopnckkaaW.PrintMore
attribute [local go_sem] max2_int min2_int max_two min_two max_three min_three max_four min_four   -- for this text's walks alone
set_option linter.unusedVariables false
set_option linter.unusedSimpArgs false

/-! ### inst_Right: function 14 -/
theorem inst_Right.old {W w1 : World} (hb : Below W.heap.size W w1) : (∀ b o, b < W.heap.size → w1.cell? ⟨b, o, none⟩ = W.cell? ⟨b, o, none⟩) ∧ (∀ b o, b < W.heap.size → w1.frozen? ⟨b, o, none⟩ = W.frozen? ⟨b, o, none⟩) :=
  ⟨fun b o h => hb.cell (p := ⟨b, o, none⟩) h, fun b o h => hb.frozen (p := ⟨b, o, none⟩) h⟩
def inst_Right.lo (t n : Int) : Int := if t = 5 then -2147483648 else if t = 6 then n else 0
def inst_Right.hi (t n : Int) : Int := if t = 4 then 4294967295 else if t = 3 then 4294967295 else if t = 5 then 2147483647 else if t = 6 then n else 0
def inst_Right.top (t : Int) : Int := if t = 2 then 4 else if t = 4 then 1 else 0
def inst_Right.f (k : Nat) (a0_0 a0_1 a0_2 : Int) : Option Bool := (inst_Kind.f k a0_0).bind fun t => if t = 0 then some false else
  some (decide (a0_1 ≥ inst_Right.lo t a0_1) && (decide (a0_1 ≤ inst_Right.hi t a0_1) && (decide (a0_2 ≥ 0) && decide (a0_2 ≤ inst_Right.top t))))
theorem inst_Right.mono : ∀ a0 a1 a2 k, LeO (inst_Right.f k a0 a1 a2) (inst_Right.f (k + 1) a0 a1 a2) := by
  intro a0 a1 a2 k
  unfold inst_Right.f
  exact LeO.bind (inst_Kind.mono _ _) (fun _ => LeO.refl _)
set_option maxHeartbeats 4000000 in
set_option maxRecDepth 100000 in
theorem inst_Right.w0 (k : Nat) (a0 a1 a2 : Int) (w : World) (hk : Aside0 (inst_Kind.f k a0 = some 0)) :
    Calls Try.prog 14 #[.agg #[.int .i64 a0, .int .i64 a1, .int .i64 a2]] w fun e w' => e = .returned (.bool false) ∧ Below w.heap.size w w' := by
  go_enter Try.func14, Try.ntmps14
  go_wp2_with (go_at_call 12; (with_reducible refine (inst_Kind.calls k a0 0 _ hk.out).mono ?_); rintro e w1 ⟨rfl, hb⟩; obtain ⟨hc, hf⟩ := inst_Right.old hb; have HB := Aside0.mk hb; clear hb)
  go_ret
  exact ⟨rfl, ((Below.refl _ _).alloc (Nat.le_refl _) _).trans (HB.out.mono (by simp))⟩
set_option maxHeartbeats 4000000 in
set_option maxRecDepth 100000 in
theorem inst_Right.w2 (k : Nat) (a0 a1 a2 : Int) (w : World) (hk : Aside0 (inst_Kind.f k a0 = some 2)) (c1 c2 c3 c4 : Bool) (h1 : decide (a1 ≥ 0) = c1) (h2 : decide (a1 ≤ 0) = c2) (h3 : decide (a2 ≥ 0) = c3) (h4 : decide (a2 ≤ 4) = c4) :
    Calls Try.prog 14 #[.agg #[.int .i64 a0, .int .i64 a1, .int .i64 a2]] w fun e w' => e = .returned (.bool (c1 && (c2 && (c3 && c4)))) ∧ Below w.heap.size w w' := by
  cases c1 with
  | false =>
    go_enter Try.func14, Try.ntmps14
    go_wp2_with (go_at_call 12; (with_reducible refine (inst_Kind.calls k a0 2 _ hk.out).mono ?_); rintro e w1 ⟨rfl, hb⟩; obtain ⟨hc, hf⟩ := inst_Right.old hb; have HB := Aside0.mk hb; clear hb)
    go_ret
    exact ⟨by first | rfl | (simp; done), by repeat (first | (with_reducible first | exact ((Below.refl _ _).alloc (Nat.le_refl _) _).trans (HB.out.mono (by simp)) | apply below_alloc | apply pw_below_drewN | apply below_drew1) | exact ((Below.refl _ _).alloc (Nat.le_refl _) _).trans (HB.out.mono (by simp)))⟩
  | true =>
    cases c2 with
    | false =>
      go_enter Try.func14, Try.ntmps14
      go_wp2_with (go_at_call 12; (with_reducible refine (inst_Kind.calls k a0 2 _ hk.out).mono ?_); rintro e w1 ⟨rfl, hb⟩; obtain ⟨hc, hf⟩ := inst_Right.old hb; have HB := Aside0.mk hb; clear hb)
      go_ret
      exact ⟨by first | rfl | (simp; done), by repeat (first | (with_reducible first | exact ((Below.refl _ _).alloc (Nat.le_refl _) _).trans (HB.out.mono (by simp)) | apply below_alloc | apply pw_below_drewN | apply below_drew1) | exact ((Below.refl _ _).alloc (Nat.le_refl _) _).trans (HB.out.mono (by simp)))⟩
    | true =>
      cases c3 with
      | false =>
        go_enter Try.func14, Try.ntmps14
        go_wp2_with (go_at_call 12; (with_reducible refine (inst_Kind.calls k a0 2 _ hk.out).mono ?_); rintro e w1 ⟨rfl, hb⟩; obtain ⟨hc, hf⟩ := inst_Right.old hb; have HB := Aside0.mk hb; clear hb)
        go_ret
        exact ⟨by first | rfl | (simp; done), by repeat (first | (with_reducible first | exact ((Below.refl _ _).alloc (Nat.le_refl _) _).trans (HB.out.mono (by simp)) | apply below_alloc | apply pw_below_drewN | apply below_drew1) | exact ((Below.refl _ _).alloc (Nat.le_refl _) _).trans (HB.out.mono (by simp)))⟩
      | true =>
        go_enter Try.func14, Try.ntmps14
        go_wp2_with (go_at_call 12; (with_reducible refine (inst_Kind.calls k a0 2 _ hk.out).mono ?_); rintro e w1 ⟨rfl, hb⟩; obtain ⟨hc, hf⟩ := inst_Right.old hb; have HB := Aside0.mk hb; clear hb)
        go_ret
        exact ⟨by first | rfl | (simp; done), by repeat (first | (with_reducible first | exact ((Below.refl _ _).alloc (Nat.le_refl _) _).trans (HB.out.mono (by simp)) | apply below_alloc | apply pw_below_drewN | apply below_drew1) | exact ((Below.refl _ _).alloc (Nat.le_refl _) _).trans (HB.out.mono (by simp)))⟩
set_option maxHeartbeats 4000000 in
set_option maxRecDepth 100000 in
theorem inst_Right.w4 (k : Nat) (a0 a1 a2 : Int) (w : World) (hk : Aside0 (inst_Kind.f k a0 = some 4)) (c1 c2 c3 c4 : Bool) (h1 : decide (a1 ≥ 0) = c1) (h2 : decide (a1 ≤ 4294967295) = c2) (h3 : decide (a2 ≥ 0) = c3) (h4 : decide (a2 ≤ 1) = c4) :
    Calls Try.prog 14 #[.agg #[.int .i64 a0, .int .i64 a1, .int .i64 a2]] w fun e w' => e = .returned (.bool (c1 && (c2 && (c3 && c4)))) ∧ Below w.heap.size w w' := by
  cases c1 with
  | false =>
    go_enter Try.func14, Try.ntmps14
    go_wp2_with (go_at_call 12; (with_reducible refine (inst_Kind.calls k a0 4 _ hk.out).mono ?_); rintro e w1 ⟨rfl, hb⟩; obtain ⟨hc, hf⟩ := inst_Right.old hb; have HB := Aside0.mk hb; clear hb)
    go_ret
    exact ⟨by first | rfl | (simp; done), by repeat (first | (with_reducible first | exact ((Below.refl _ _).alloc (Nat.le_refl _) _).trans (HB.out.mono (by simp)) | apply below_alloc | apply pw_below_drewN | apply below_drew1) | exact ((Below.refl _ _).alloc (Nat.le_refl _) _).trans (HB.out.mono (by simp)))⟩
  | true =>
    cases c2 with
    | false =>
      go_enter Try.func14, Try.ntmps14
      go_wp2_with (go_at_call 12; (with_reducible refine (inst_Kind.calls k a0 4 _ hk.out).mono ?_); rintro e w1 ⟨rfl, hb⟩; obtain ⟨hc, hf⟩ := inst_Right.old hb; have HB := Aside0.mk hb; clear hb)
      go_ret
      exact ⟨by first | rfl | (simp; done), by repeat (first | (with_reducible first | exact ((Below.refl _ _).alloc (Nat.le_refl _) _).trans (HB.out.mono (by simp)) | apply below_alloc | apply pw_below_drewN | apply below_drew1) | exact ((Below.refl _ _).alloc (Nat.le_refl _) _).trans (HB.out.mono (by simp)))⟩
    | true =>
      cases c3 with
      | false =>
        go_enter Try.func14, Try.ntmps14
        go_wp2_with (go_at_call 12; (with_reducible refine (inst_Kind.calls k a0 4 _ hk.out).mono ?_); rintro e w1 ⟨rfl, hb⟩; obtain ⟨hc, hf⟩ := inst_Right.old hb; have HB := Aside0.mk hb; clear hb)
        go_ret
        exact ⟨by first | rfl | (simp; done), by repeat (first | (with_reducible first | exact ((Below.refl _ _).alloc (Nat.le_refl _) _).trans (HB.out.mono (by simp)) | apply below_alloc | apply pw_below_drewN | apply below_drew1) | exact ((Below.refl _ _).alloc (Nat.le_refl _) _).trans (HB.out.mono (by simp)))⟩
      | true =>
        go_enter Try.func14, Try.ntmps14
        go_wp2_with (go_at_call 12; (with_reducible refine (inst_Kind.calls k a0 4 _ hk.out).mono ?_); rintro e w1 ⟨rfl, hb⟩; obtain ⟨hc, hf⟩ := inst_Right.old hb; have HB := Aside0.mk hb; clear hb)
        go_ret
        exact ⟨by first | rfl | (simp; done), by repeat (first | (with_reducible first | exact ((Below.refl _ _).alloc (Nat.le_refl _) _).trans (HB.out.mono (by simp)) | apply below_alloc | apply pw_below_drewN | apply below_drew1) | exact ((Below.refl _ _).alloc (Nat.le_refl _) _).trans (HB.out.mono (by simp)))⟩
set_option maxHeartbeats 4000000 in
set_option maxRecDepth 100000 in
theorem inst_Right.w3 (k : Nat) (a0 a1 a2 : Int) (w : World) (hk : Aside0 (inst_Kind.f k a0 = some 3)) (c1 c2 c3 c4 : Bool) (h1 : decide (a1 ≥ 0) = c1) (h2 : decide (a1 ≤ 4294967295) = c2) (h3 : decide (a2 ≥ 0) = c3) (h4 : decide (a2 ≤ 0) = c4) :
    Calls Try.prog 14 #[.agg #[.int .i64 a0, .int .i64 a1, .int .i64 a2]] w fun e w' => e = .returned (.bool (c1 && (c2 && (c3 && c4)))) ∧ Below w.heap.size w w' := by
  cases c1 with
  | false =>
    go_enter Try.func14, Try.ntmps14
    go_wp2_with (go_at_call 12; (with_reducible refine (inst_Kind.calls k a0 3 _ hk.out).mono ?_); rintro e w1 ⟨rfl, hb⟩; obtain ⟨hc, hf⟩ := inst_Right.old hb; have HB := Aside0.mk hb; clear hb)
    go_ret
    exact ⟨by first | rfl | (simp; done), by repeat (first | (with_reducible first | exact ((Below.refl _ _).alloc (Nat.le_refl _) _).trans (HB.out.mono (by simp)) | apply below_alloc | apply pw_below_drewN | apply below_drew1) | exact ((Below.refl _ _).alloc (Nat.le_refl _) _).trans (HB.out.mono (by simp)))⟩
  | true =>
    cases c2 with
    | false =>
      go_enter Try.func14, Try.ntmps14
      go_wp2_with (go_at_call 12; (with_reducible refine (inst_Kind.calls k a0 3 _ hk.out).mono ?_); rintro e w1 ⟨rfl, hb⟩; obtain ⟨hc, hf⟩ := inst_Right.old hb; have HB := Aside0.mk hb; clear hb)
      go_ret
      exact ⟨by first | rfl | (simp; done), by repeat (first | (with_reducible first | exact ((Below.refl _ _).alloc (Nat.le_refl _) _).trans (HB.out.mono (by simp)) | apply below_alloc | apply pw_below_drewN | apply below_drew1) | exact ((Below.refl _ _).alloc (Nat.le_refl _) _).trans (HB.out.mono (by simp)))⟩
    | true =>
      cases c3 with
      | false =>
        go_enter Try.func14, Try.ntmps14
        go_wp2_with (go_at_call 12; (with_reducible refine (inst_Kind.calls k a0 3 _ hk.out).mono ?_); rintro e w1 ⟨rfl, hb⟩; obtain ⟨hc, hf⟩ := inst_Right.old hb; have HB := Aside0.mk hb; clear hb)
        go_ret
        exact ⟨by first | rfl | (simp; done), by repeat (first | (with_reducible first | exact ((Below.refl _ _).alloc (Nat.le_refl _) _).trans (HB.out.mono (by simp)) | apply below_alloc | apply pw_below_drewN | apply below_drew1) | exact ((Below.refl _ _).alloc (Nat.le_refl _) _).trans (HB.out.mono (by simp)))⟩
      | true =>
        go_enter Try.func14, Try.ntmps14
        go_wp2_with (go_at_call 12; (with_reducible refine (inst_Kind.calls k a0 3 _ hk.out).mono ?_); rintro e w1 ⟨rfl, hb⟩; obtain ⟨hc, hf⟩ := inst_Right.old hb; have HB := Aside0.mk hb; clear hb)
        go_ret
        exact ⟨by first | rfl | (simp; done), by repeat (first | (with_reducible first | exact ((Below.refl _ _).alloc (Nat.le_refl _) _).trans (HB.out.mono (by simp)) | apply below_alloc | apply pw_below_drewN | apply below_drew1) | exact ((Below.refl _ _).alloc (Nat.le_refl _) _).trans (HB.out.mono (by simp)))⟩
set_option maxHeartbeats 4000000 in
set_option maxRecDepth 100000 in
theorem inst_Right.w5 (k : Nat) (a0 a1 a2 : Int) (w : World) (hk : Aside0 (inst_Kind.f k a0 = some 5)) (c1 c2 c3 c4 : Bool) (h1 : decide (a1 ≥ -2147483648) = c1) (h2 : decide (a1 ≤ 2147483647) = c2) (h3 : decide (a2 ≥ 0) = c3) (h4 : decide (a2 ≤ 0) = c4) :
    Calls Try.prog 14 #[.agg #[.int .i64 a0, .int .i64 a1, .int .i64 a2]] w fun e w' => e = .returned (.bool (c1 && (c2 && (c3 && c4)))) ∧ Below w.heap.size w w' := by
  cases c1 with
  | false =>
    go_enter Try.func14, Try.ntmps14
    go_wp2_with (go_at_call 12; (with_reducible refine (inst_Kind.calls k a0 5 _ hk.out).mono ?_); rintro e w1 ⟨rfl, hb⟩; obtain ⟨hc, hf⟩ := inst_Right.old hb; have HB := Aside0.mk hb; clear hb)
    go_ret
    exact ⟨by first | rfl | (simp; done), by repeat (first | (with_reducible first | exact ((Below.refl _ _).alloc (Nat.le_refl _) _).trans (HB.out.mono (by simp)) | apply below_alloc | apply pw_below_drewN | apply below_drew1) | exact ((Below.refl _ _).alloc (Nat.le_refl _) _).trans (HB.out.mono (by simp)))⟩
  | true =>
    cases c2 with
    | false =>
      go_enter Try.func14, Try.ntmps14
      go_wp2_with (go_at_call 12; (with_reducible refine (inst_Kind.calls k a0 5 _ hk.out).mono ?_); rintro e w1 ⟨rfl, hb⟩; obtain ⟨hc, hf⟩ := inst_Right.old hb; have HB := Aside0.mk hb; clear hb)
      go_ret
      exact ⟨by first | rfl | (simp; done), by repeat (first | (with_reducible first | exact ((Below.refl _ _).alloc (Nat.le_refl _) _).trans (HB.out.mono (by simp)) | apply below_alloc | apply pw_below_drewN | apply below_drew1) | exact ((Below.refl _ _).alloc (Nat.le_refl _) _).trans (HB.out.mono (by simp)))⟩
    | true =>
      cases c3 with
      | false =>
        go_enter Try.func14, Try.ntmps14
        go_wp2_with (go_at_call 12; (with_reducible refine (inst_Kind.calls k a0 5 _ hk.out).mono ?_); rintro e w1 ⟨rfl, hb⟩; obtain ⟨hc, hf⟩ := inst_Right.old hb; have HB := Aside0.mk hb; clear hb)
        go_ret
        exact ⟨by first | rfl | (simp; done), by repeat (first | (with_reducible first | exact ((Below.refl _ _).alloc (Nat.le_refl _) _).trans (HB.out.mono (by simp)) | apply below_alloc | apply pw_below_drewN | apply below_drew1) | exact ((Below.refl _ _).alloc (Nat.le_refl _) _).trans (HB.out.mono (by simp)))⟩
      | true =>
        go_enter Try.func14, Try.ntmps14
        go_wp2_with (go_at_call 12; (with_reducible refine (inst_Kind.calls k a0 5 _ hk.out).mono ?_); rintro e w1 ⟨rfl, hb⟩; obtain ⟨hc, hf⟩ := inst_Right.old hb; have HB := Aside0.mk hb; clear hb)
        go_ret
        exact ⟨by first | rfl | (simp; done), by repeat (first | (with_reducible first | exact ((Below.refl _ _).alloc (Nat.le_refl _) _).trans (HB.out.mono (by simp)) | apply below_alloc | apply pw_below_drewN | apply below_drew1) | exact ((Below.refl _ _).alloc (Nat.le_refl _) _).trans (HB.out.mono (by simp)))⟩
set_option maxHeartbeats 4000000 in
set_option maxRecDepth 100000 in
theorem inst_Right.w6 (k : Nat) (a0 a1 a2 : Int) (w : World) (hk : Aside0 (inst_Kind.f k a0 = some 6)) (c3 c4 : Bool) (h3 : decide (a2 ≥ 0) = c3) (h4 : decide (a2 ≤ 0) = c4) :
    Calls Try.prog 14 #[.agg #[.int .i64 a0, .int .i64 a1, .int .i64 a2]] w fun e w' => e = .returned (.bool (c3 && c4)) ∧ Below w.heap.size w w' := by
  cases c3 with
  | false =>
    go_enter Try.func14, Try.ntmps14
    go_wp2_with (go_at_call 12; (with_reducible refine (inst_Kind.calls k a0 6 _ hk.out).mono ?_); rintro e w1 ⟨rfl, hb⟩; obtain ⟨hc, hf⟩ := inst_Right.old hb; have HB := Aside0.mk hb; clear hb)
    go_quiet (fail)
    go_wp2
    go_ret
    exact ⟨by first | rfl | (simp; done), by repeat (first | (with_reducible first | exact ((Below.refl _ _).alloc (Nat.le_refl _) _).trans (HB.out.mono (by simp)) | apply below_alloc | apply pw_below_drewN | apply below_drew1) | exact ((Below.refl _ _).alloc (Nat.le_refl _) _).trans (HB.out.mono (by simp)))⟩
  | true =>
    go_enter Try.func14, Try.ntmps14
    go_wp2_with (go_at_call 12; (with_reducible refine (inst_Kind.calls k a0 6 _ hk.out).mono ?_); rintro e w1 ⟨rfl, hb⟩; obtain ⟨hc, hf⟩ := inst_Right.old hb; have HB := Aside0.mk hb; clear hb)
    go_quiet (fail)
    go_wp2
    go_ret
    exact ⟨by first | rfl | (simp; done), by repeat (first | (with_reducible first | exact ((Below.refl _ _).alloc (Nat.le_refl _) _).trans (HB.out.mono (by simp)) | apply below_alloc | apply pw_below_drewN | apply below_drew1) | exact ((Below.refl _ _).alloc (Nat.le_refl _) _).trans (HB.out.mono (by simp)))⟩
set_option maxHeartbeats 4000000 in
set_option maxRecDepth 100000 in
theorem inst_Right.wt (k : Nat) (a0 a1 a2 : Int) (t : Int) (t0 : (t == 0) = false) (t2 : (t == 2) = false) (t3 : (t == 3) = false) (t4 : (t == 4) = false) (t5 : (t == 5) = false) (t6 : (t == 6) = false) (w : World) (hk : Aside0 (inst_Kind.f k a0 = some t)) (c1 c2 c3 c4 : Bool) (h1 : decide (a1 ≥ 0) = c1) (h2 : decide (a1 ≤ 0) = c2) (h3 : decide (a2 ≥ 0) = c3) (h4 : decide (a2 ≤ 0) = c4) :
    Calls Try.prog 14 #[.agg #[.int .i64 a0, .int .i64 a1, .int .i64 a2]] w fun e w' => e = .returned (.bool (c1 && (c2 && (c3 && c4)))) ∧ Below w.heap.size w w' := by
  cases c1 with
  | false =>
    go_enter Try.func14, Try.ntmps14
    go_wp2_with (go_at_call 12; (with_reducible refine (inst_Kind.calls k a0 t _ hk.out).mono ?_); rintro e w1 ⟨rfl, hb⟩; obtain ⟨hc, hf⟩ := inst_Right.old hb; have HB := Aside0.mk hb; clear hb)
    go_ret
    exact ⟨by first | rfl | (simp; done), by repeat (first | (with_reducible first | exact ((Below.refl _ _).alloc (Nat.le_refl _) _).trans (HB.out.mono (by simp)) | apply below_alloc | apply pw_below_drewN | apply below_drew1) | exact ((Below.refl _ _).alloc (Nat.le_refl _) _).trans (HB.out.mono (by simp)))⟩
  | true =>
    cases c2 with
    | false =>
      go_enter Try.func14, Try.ntmps14
      go_wp2_with (go_at_call 12; (with_reducible refine (inst_Kind.calls k a0 t _ hk.out).mono ?_); rintro e w1 ⟨rfl, hb⟩; obtain ⟨hc, hf⟩ := inst_Right.old hb; have HB := Aside0.mk hb; clear hb)
      go_ret
      exact ⟨by first | rfl | (simp; done), by repeat (first | (with_reducible first | exact ((Below.refl _ _).alloc (Nat.le_refl _) _).trans (HB.out.mono (by simp)) | apply below_alloc | apply pw_below_drewN | apply below_drew1) | exact ((Below.refl _ _).alloc (Nat.le_refl _) _).trans (HB.out.mono (by simp)))⟩
    | true =>
      cases c3 with
      | false =>
        go_enter Try.func14, Try.ntmps14
        go_wp2_with (go_at_call 12; (with_reducible refine (inst_Kind.calls k a0 t _ hk.out).mono ?_); rintro e w1 ⟨rfl, hb⟩; obtain ⟨hc, hf⟩ := inst_Right.old hb; have HB := Aside0.mk hb; clear hb)
        go_ret
        exact ⟨by first | rfl | (simp; done), by repeat (first | (with_reducible first | exact ((Below.refl _ _).alloc (Nat.le_refl _) _).trans (HB.out.mono (by simp)) | apply below_alloc | apply pw_below_drewN | apply below_drew1) | exact ((Below.refl _ _).alloc (Nat.le_refl _) _).trans (HB.out.mono (by simp)))⟩
      | true =>
        go_enter Try.func14, Try.ntmps14
        go_wp2_with (go_at_call 12; (with_reducible refine (inst_Kind.calls k a0 t _ hk.out).mono ?_); rintro e w1 ⟨rfl, hb⟩; obtain ⟨hc, hf⟩ := inst_Right.old hb; have HB := Aside0.mk hb; clear hb)
        go_ret
        exact ⟨by first | rfl | (simp; done), by repeat (first | (with_reducible first | exact ((Below.refl _ _).alloc (Nat.le_refl _) _).trans (HB.out.mono (by simp)) | apply below_alloc | apply pw_below_drewN | apply below_drew1) | exact ((Below.refl _ _).alloc (Nat.le_refl _) _).trans (HB.out.mono (by simp)))⟩
theorem inst_Right.calls (k : Nat) (a0_0 : Int) (a0_1 : Int) (a0_2 : Int) (r : Bool) (w : World) (h : inst_Right.f k a0_0 a0_1 a0_2 = some r) :
    Calls Try.prog 14 #[.agg #[.int .i64 a0_0, .int .i64 a0_1, .int .i64 a0_2]] w fun e w' => e = .returned (.bool r) ∧ Below w.heap.size w w' := by
  unfold inst_Right.f at h
  obtain ⟨t, ht, h⟩ := Option.bind_eq_some_iff.mp h
  by_cases h0 : t = 0
  · subst h0
    obtain rfl : false = r := by simpa using h
    exact inst_Right.w0 k a0_0 a0_1 a0_2 w ⟨ht⟩
  · rw [if_neg h0] at h
    obtain rfl := Option.some.inj h
    by_cases h2 : t = 2
    · subst h2; exact inst_Right.w2 k a0_0 a0_1 a0_2 w ⟨ht⟩ _ _ _ _ rfl rfl rfl rfl
    by_cases h3 : t = 3
    · subst h3; exact inst_Right.w3 k a0_0 a0_1 a0_2 w ⟨ht⟩ _ _ _ _ rfl rfl rfl rfl
    by_cases h4 : t = 4
    · subst h4; exact inst_Right.w4 k a0_0 a0_1 a0_2 w ⟨ht⟩ _ _ _ _ rfl rfl rfl rfl
    by_cases h5 : t = 5
    · subst h5; exact inst_Right.w5 k a0_0 a0_1 a0_2 w ⟨ht⟩ _ _ _ _ rfl rfl rfl rfl
    by_cases h6 : t = 6
    · subst h6
      have e : (decide (a0_1 ≥ inst_Right.lo 6 a0_1) && (decide (a0_1 ≤ inst_Right.hi 6 a0_1) && (decide (a0_2 ≥ 0) && decide (a0_2 ≤ inst_Right.top 6)))) = (decide (a0_2 ≥ 0) && decide (a0_2 ≤ 0)) := by
        simp [inst_Right.lo, inst_Right.hi, inst_Right.top]
      rw [e]
      exact inst_Right.w6 k a0_0 a0_1 a0_2 w ⟨ht⟩ _ _ rfl rfl
    have e1 : inst_Right.lo t a0_1 = 0 := by unfold inst_Right.lo; rw [if_neg h5, if_neg h6]
    have e2 : inst_Right.hi t a0_1 = 0 := by unfold inst_Right.hi; rw [if_neg h4, if_neg h3, if_neg h5, if_neg h6]
    have e3 : inst_Right.top t = 0 := by unfold inst_Right.top; rw [if_neg h2, if_neg h4]
    rw [e1, e2, e3]
    exact inst_Right.wt k a0_0 a0_1 a0_2 t (beq_eq_false_iff_ne.mpr h0) (beq_eq_false_iff_ne.mpr h2) (beq_eq_false_iff_ne.mpr h3) (beq_eq_false_iff_ne.mpr h4) (beq_eq_false_iff_ne.mpr h5) (beq_eq_false_iff_ne.mpr h6) w ⟨ht⟩ _ _ _ _ rfl rfl rfl rfl

/-! ### leb_U: function 20 -/
def leb_U.l0 : Nat → Int → List Int → Option (ByteArray × Int)
  | 0, _, _ => none
  | k + 1, x0, x4 => if x0 > 127 then (if x4.length < 140737488355328 then (leb_U.l0 k (x0 / 128) (x4 ++ [Go.bits .or .u8 ((x0) % 256) 128])) else (none)) else (if x4.length < 140737488355328 then (some (strOfNums (x4 ++ [(x0) % 256]), 0)) else (none))
def leb_U.f (k : Nat) (a0 : Int) : Option (ByteArray × Int) := if a0 < 0 then (some ((⟨#[]⟩ : ByteArray), 4)) else (leb_U.l0 k a0 ([] : List Int))
theorem leb_U.mono_l : ∀ k, (∀ y0 y1, LeO (leb_U.l0 k y0 y1) (leb_U.l0 (k + 1) y0 y1))
  | 0 => fun _ _ r h => by simp [leb_U.l0] at h
  | k + 1 => by
    have ih0 := leb_U.mono_l k
    · intro y0 y1
      unfold leb_U.l0
      repeat' first
      | (with_reducible exact ih0 _ _)
      | (with_reducible exact LeO.refl _)
      | (with_reducible exact LeO.none _)
      | (with_reducible refine LeO.ite ?_ ?_)
      | (with_reducible refine LeO.bind ?_ (fun _ => ?_))
      | exact ih0 _ _
      | exact LeO.none _
      | refine LeO.ite ?_ ?_
      | refine LeO.bind ?_ (fun _ => ?_)
theorem leb_U.mono : ∀ a0 k, LeO (leb_U.f k a0) (leb_U.f (k + 1) a0) := by
  intro a0 k
  have ih0 := leb_U.mono_l k
  unfold leb_U.f
  repeat' first
      | (with_reducible exact ih0 _ _)
      | (with_reducible exact LeO.refl _)
      | (with_reducible exact LeO.none _)
      | (with_reducible refine LeO.ite ?_ ?_)
      | (with_reducible refine LeO.bind ?_ (fun _ => ?_))
      | exact ih0 _ _
      | exact LeO.none _
      | refine LeO.ite ?_ ?_
      | refine LeO.bind ?_ (fun _ => ?_)
set_option maxHeartbeats 8000000 in
set_option maxRecDepth 100000 in
theorem leb_U.calls (k : Nat) (a0 : Int) (r1 : ByteArray) (r2 : Int) (w : World) (h : leb_U.f k a0 = some (r1, r2)) :
    Calls Try.prog 20 #[.int .i64 a0] w fun e w' => e = .returned (.tuple #[.string r1, .int .i64 r2]) ∧ Below w.heap.size w w' := by
  have HB := Aside0.mk (Below.refl w.heap.size w)
  have H : (if a0 < 0 then (some ((⟨#[]⟩ : ByteArray), 4)) else (leb_U.l0 k a0 ([] : List Int))) = some (r1, r2) := h
  clear h
  by_cases c2 : a0 < 0
  · rw [if_pos c2] at H
    have c2b0 : decide (a0 < 0) = true := decide_eq_true c2
    clear c2
    simp only [Option.some.injEq, Prod.mk.injEq] at H
    obtain ⟨rfl, rfl⟩ := H
    go_enter Try.func20, Try.ntmps20
    go_wp2
    go_ret2
    exact ⟨by first | rfl | (simp [errW_none, errW_some] <;> (first | rfl | grind)) | (simp [*, errW_none, errW_some] <;> rfl), by repeat (first | (with_reducible first | exact HB.out | apply below_alloc | apply pw_below_drewN | apply below_drew1) | exact HB.out)⟩
  · rw [if_neg c2] at H
    have c2b0 : decide (a0 < 0) = false := decide_eq_false c2
    clear c2
    have H' := Aside0.mk H
    clear H
    go_enter Try.func20, Try.ntmps20
    go_wp2
    go_loopg [0, 4] k (fun kq v0 v4 w' => ∃ (x0_1 : Int) (x4_1 : List Int), v0 = .int .i64 x0_1 ∧ Aside0 (leb_U.l0 kq x0_1 x4_1 = some (r1, r2)) ∧ Aside0 (kq ≤ k) ∧ Aside0 (Kd.R (Kd.int .u8) 5 w' w.heap.size (fun _ => True) v4 x4_1) ∧ Aside0 (Below w.heap.size w w'))
    case atStart => exact ⟨(a0), (([] : List Int)), (by first | rfl | (simp; done) | (simp [*]; done)), H', ⟨Nat.le_refl _⟩, ⟨by first | exact Kd.R_nil _ _ _ _ _ | exact Kd.N_nil _ _ _ _ _ | exact Kd.V_nil _ _ _ _ _ | exact Kd.Q_nil _ _ _ _ _ | exact Kd.S_nil _ _ _ _ _⟩, ⟨by repeat (first | (with_reducible first | exact HB.out | apply below_alloc | apply pw_below_drewN | apply below_drew1) | exact HB.out)⟩⟩
    case round =>
      clear H'
      try clear c2
      try clear c2b0
      try clear p2
      obtain ⟨x0_1, x4_1, rfl, HA, HK1, HO_4, HB⟩ := hrel
      cases gk with
      | zero => exact absurd HA.out (by simp [leb_U.l0])
      | succ k1 =>
        have H := HA.out
        clear HA
        simp only [leb_U.l0] at H
        by_cases c3 : x0_1 > 127
        · rw [if_pos c3] at H
          have c3b0 : decide (127 < x0_1) = true := decide_eq_true c3
          clear c3
          by_cases c4 : x4_1.length < 140737488355328
          · rw [if_pos c4] at H
            have LMc4 := Aside0.mk c4
            clear c4
            obtain ⟨y105, hy105⟩ : ∃ y_ : List Int, y_ = (x4_1 ++ [Go.bits .or .u8 ((x0_1) % 256) 128]) := ⟨_, rfl⟩
            replace H : (leb_U.l0 k1 (x0_1 / 128) y105) = some (r1, r2) := by first | (rw [hy105]; with_reducible exact H) | (have H2_ := (Option.bind_some _ _).symm.trans H; rw [hy105]; with_reducible exact H2_) | (have H2_ := (Option.bind_some _ _).symm.trans H; with_reducible exact H2_) | with_reducible exact H | (rw [hy105]; exact H) | exact H
            have Ny105 := Aside0.mk hy105
            clear hy105
            have H' := Aside0.mk H
            clear H
            go_wp2_with (first | ((with_reducible refine gate_builtin (b := .append) (xs := #[.tmp 11, .tmp 15]) rfl ?_); at_builtin; refine Kd.R_append (Kd.int .u8) (w0 := w) w.heap.size rfl (.tmp 11) (.tmp 15) 44 5 (.int .u8 0) 1 rfl Try.underlying44 info5 rfl (by decide) (by omega) u4 x4_1 (Go.bits .or .u8 ((x0_1) % 256) 128) [.int .u8 (Go.bits .or .u8 ((x0_1) % 256) 128)] (fun _ => True) (fun _ => False) rfl rfl ?aP (fun _ hk => hk.elim) ?aF ?aO ?aB ?aS ?aL ?_; (case aP => exact rfl); (case aB => exact (by repeat (first | (with_reducible first | exact HB.out | apply below_alloc | apply pw_below_drewN | apply below_drew1) | exact HB.out))); (case aF => exact (fun _ _ => trivial)); (case aO => exact (by (with_reducible repeat (first | apply Kd.R_alloc | apply Kd.R_drewN | apply Kd.R_drew)); exact HO_4.out)); (case aS => exact (below_size (by repeat (first | (with_reducible first | exact HB.out | apply below_alloc | apply pw_below_drewN | apply below_drew1) | exact HB.out)))); (case aL => have := LMc4.out; omega); intro v106 w5 ho hb hg hat; rw [← Ny105.out] at ho; have n0_ := Aside0.mk (hb); have n1_ := Aside0.mk (ho); clear HB; clear HO_4; have HB := n0_; have HO107 := n1_; clear n0_ n1_; clear ho hb hg hat))
            go_roundg k1
            case measure => have := HK1.out; omega
            case rel => exact ⟨(x0_1 / 128), (y105), (by first | rfl | (simp; done) | (simp [*]; done)), H', ⟨by have := HK1.out; omega⟩, ⟨by (with_reducible repeat (first | apply Kd.R_alloc | apply Kd.R_drewN | apply Kd.R_drew)); exact HO107.out⟩, ⟨by repeat (first | (with_reducible first | exact HB.out | apply below_alloc | apply pw_below_drewN | apply below_drew1) | exact HB.out)⟩⟩
          · rw [if_neg c4] at H
            exact absurd H (by simp)
        · rw [if_neg c3] at H
          have c3b0 : decide (127 < x0_1) = false := decide_eq_false c3
          clear c3
          by_cases c6 : x4_1.length < 140737488355328
          · rw [if_pos c6] at H
            have LMc6 := Aside0.mk c6
            clear c6
            obtain ⟨y108, hy108⟩ : ∃ y_ : List Int, y_ = (x4_1 ++ [(x0_1) % 256]) := ⟨_, rfl⟩
            replace H : (some (strOfNums y108, 0)) = some (r1, r2) := by first | (rw [hy108]; with_reducible exact H) | (have H2_ := (Option.bind_some _ _).symm.trans H; rw [hy108]; with_reducible exact H2_) | (have H2_ := (Option.bind_some _ _).symm.trans H; with_reducible exact H2_) | with_reducible exact H | (rw [hy108]; exact H) | exact H
            have Ny108 := Aside0.mk hy108
            clear hy108
            simp only [Option.some.injEq, Prod.mk.injEq] at H
            obtain ⟨rfl, rfl⟩ := H
            go_wp2_with (first | ((with_reducible refine gate_builtin (b := .append) (xs := #[.tmp 17, .tmp 20]) rfl ?_); at_builtin; refine Kd.R_append (Kd.int .u8) (w0 := w) w.heap.size rfl (.tmp 17) (.tmp 20) 44 5 (.int .u8 0) 1 rfl Try.underlying44 info5 rfl (by decide) (by omega) u4 x4_1 ((x0_1) % 256) [.int .u8 ((x0_1) % 256)] (fun _ => True) (fun _ => False) rfl rfl ?aP (fun _ hk => hk.elim) ?aF ?aO ?aB ?aS ?aL ?_; (case aP => exact rfl); (case aB => exact (by repeat (first | (with_reducible first | exact HB.out | apply below_alloc | apply pw_below_drewN | apply below_drew1) | exact HB.out))); (case aF => exact (fun _ _ => trivial)); (case aO => exact (by (with_reducible repeat (first | apply Kd.R_alloc | apply Kd.R_drewN | apply Kd.R_drew)); exact HO_4.out)); (case aS => exact (below_size (by repeat (first | (with_reducible first | exact HB.out | apply below_alloc | apply pw_below_drewN | apply below_drew1) | exact HB.out)))); (case aL => have := LMc6.out; omega); intro v109 w7 ho hb hg hat; rw [← Ny108.out] at ho; have n0_ := Aside0.mk (hb); have n1_ := Aside0.mk (ho); clear HB; clear HO_4; have HB := n0_; have HO110 := n1_; clear n0_ n1_; clear ho hb hg hat; have hcv8 := own_string (P := Try.prog) Try.underlying44 Try.underlying5 Try.underlying9 (Kd.own_of_R HO110.out)))
            go_ret2
            exact ⟨by first | rfl | (simp [errW_none, errW_some] <;> (first | rfl | grind)) | (simp [*, errW_none, errW_some] <;> rfl), by repeat (first | (with_reducible first | exact HB.out | apply below_alloc | apply pw_below_drewN | apply below_drew1) | exact HB.out)⟩
          · rw [if_neg c6] at H
            exact absurd H (by simp)

/-! ### leb_S: function 21 -/
def leb_S.l0 : Nat → Int → List Int → Option (ByteArray)
  | 0, _, _ => none
  | k + 1, x0, x3 => if (x0 / 64) = 0 then (if x3.length < 140737488355328 then (some (strOfNums (x3 ++ [Go.bits .and .u8 ((x0) % 256) 127]))) else (none)) else (if (x0 / 64) = (-1) then (if x3.length < 140737488355328 then (some (strOfNums (x3 ++ [Go.bits .and .u8 ((x0) % 256) 127]))) else (none)) else (if x3.length < 140737488355328 then (leb_S.l0 k (x0 / 128) (x3 ++ [Go.bits .or .u8 ((x0) % 256) 128])) else (none)))
def leb_S.f (k : Nat) (a0 : Int) : Option (ByteArray) := leb_S.l0 k a0 ([] : List Int)
theorem leb_S.mono_l : ∀ k, (∀ y0 y1, LeO (leb_S.l0 k y0 y1) (leb_S.l0 (k + 1) y0 y1))
  | 0 => fun _ _ r h => by simp [leb_S.l0] at h
  | k + 1 => by
    have ih0 := leb_S.mono_l k
    · intro y0 y1
      unfold leb_S.l0
      repeat' first
      | (with_reducible exact ih0 _ _)
      | (with_reducible exact LeO.refl _)
      | (with_reducible exact LeO.none _)
      | (with_reducible refine LeO.ite ?_ ?_)
      | (with_reducible refine LeO.bind ?_ (fun _ => ?_))
      | exact ih0 _ _
      | exact LeO.none _
      | refine LeO.ite ?_ ?_
      | refine LeO.bind ?_ (fun _ => ?_)
theorem leb_S.mono : ∀ a0 k, LeO (leb_S.f k a0) (leb_S.f (k + 1) a0) := by
  intro a0 k
  have ih0 := leb_S.mono_l k
  unfold leb_S.f
  repeat' first
      | (with_reducible exact ih0 _ _)
      | (with_reducible exact LeO.refl _)
      | (with_reducible exact LeO.none _)
      | (with_reducible refine LeO.ite ?_ ?_)
      | (with_reducible refine LeO.bind ?_ (fun _ => ?_))
      | exact ih0 _ _
      | exact LeO.none _
      | refine LeO.ite ?_ ?_
      | refine LeO.bind ?_ (fun _ => ?_)
set_option maxHeartbeats 8000000 in
set_option maxRecDepth 100000 in
theorem leb_S.calls (k : Nat) (a0 : Int) (r : ByteArray) (w : World) (h : leb_S.f k a0 = some r) :
    Calls Try.prog 21 #[.int .i64 a0] w fun e w' => e = .returned (.string r) ∧ Below w.heap.size w w' := by
  have HB := Aside0.mk (Below.refl w.heap.size w)
  have H : (leb_S.l0 k a0 ([] : List Int)) = some r := h
  clear h
  have H' := Aside0.mk H
  clear H
  go_enter Try.func21, Try.ntmps21
  go_wp2
  go_loopg [0, 3] k (fun kq v0 v3 w' => ∃ (x0_1 : Int) (x3_1 : List Int), v0 = .int .i64 x0_1 ∧ Aside0 (leb_S.l0 kq x0_1 x3_1 = some r) ∧ Aside0 (kq ≤ k) ∧ Aside0 (Kd.R (Kd.int .u8) 5 w' w.heap.size (fun _ => True) v3 x3_1) ∧ Aside0 (Below w.heap.size w w'))
  case atStart => exact ⟨(a0), (([] : List Int)), (by first | rfl | (simp; done) | (simp [*]; done)), H', ⟨Nat.le_refl _⟩, ⟨by first | exact Kd.R_nil _ _ _ _ _ | exact Kd.N_nil _ _ _ _ _ | exact Kd.V_nil _ _ _ _ _ | exact Kd.Q_nil _ _ _ _ _ | exact Kd.S_nil _ _ _ _ _⟩, ⟨by repeat (first | (with_reducible first | exact HB.out | apply below_alloc | apply pw_below_drewN | apply below_drew1) | exact HB.out)⟩⟩
  case round =>
    clear H'
    obtain ⟨x0_1, x3_1, rfl, HA, HK1, HO_3, HB⟩ := hrel
    cases gk with
    | zero => exact absurd HA.out (by simp [leb_S.l0])
    | succ k1 =>
      have H := HA.out
      clear HA
      simp only [leb_S.l0] at H
      by_cases c2 : (x0_1 / 64) = 0
      · rw [if_pos c2] at H
        have c2b0 : ((x0_1 / 64) == 0) = true := beq_iff_eq.mpr c2
        have c2b1 : ((x0_1 / 64) != 0) = false := bne_eq_false_iff_eq.mpr c2
        clear c2
        by_cases c3 : x3_1.length < 140737488355328
        · rw [if_pos c3] at H
          have LMc3 := Aside0.mk c3
          clear c3
          obtain ⟨y111, hy111⟩ : ∃ y_ : List Int, y_ = (x3_1 ++ [Go.bits .and .u8 ((x0_1) % 256) 127]) := ⟨_, rfl⟩
          replace H : (some (strOfNums y111)) = some r := by first | (rw [hy111]; with_reducible exact H) | (have H2_ := (Option.bind_some _ _).symm.trans H; rw [hy111]; with_reducible exact H2_) | (have H2_ := (Option.bind_some _ _).symm.trans H; with_reducible exact H2_) | with_reducible exact H | (rw [hy111]; exact H) | exact H
          have Ny111 := Aside0.mk hy111
          clear hy111
          obtain rfl := Option.some.inj H
          go_wp2_with (first | ((with_reducible refine gate_builtin (b := .append) (xs := #[.tmp 20, .tmp 24]) rfl ?_); at_builtin; refine Kd.R_append (Kd.int .u8) (w0 := w) w.heap.size rfl (.tmp 20) (.tmp 24) 44 5 (.int .u8 0) 1 rfl Try.underlying44 info5 rfl (by decide) (by omega) u3 x3_1 (Go.bits .and .u8 ((x0_1) % 256) 127) [.int .u8 (Go.bits .and .u8 ((x0_1) % 256) 127)] (fun _ => True) (fun _ => False) rfl rfl ?aP (fun _ hk => hk.elim) ?aF ?aO ?aB ?aS ?aL ?_; (case aP => exact rfl); (case aB => exact (by repeat (first | (with_reducible first | exact HB.out | apply below_alloc | apply pw_below_drewN | apply below_drew1) | exact HB.out))); (case aF => exact (fun _ _ => trivial)); (case aO => exact (by (with_reducible repeat (first | apply Kd.R_alloc | apply Kd.R_drewN | apply Kd.R_drew)); exact HO_3.out)); (case aS => exact (below_size (by repeat (first | (with_reducible first | exact HB.out | apply below_alloc | apply pw_below_drewN | apply below_drew1) | exact HB.out)))); (case aL => have := LMc3.out; omega); intro v112 w4 ho hb hg hat; rw [← Ny111.out] at ho; have n0_ := Aside0.mk (hb); have n1_ := Aside0.mk (ho); clear HB; clear HO_3; have HB := n0_; have HO113 := n1_; clear n0_ n1_; clear ho hb hg hat; have hcv5 := own_string (P := Try.prog) Try.underlying44 Try.underlying5 Try.underlying9 (Kd.own_of_R HO113.out)))
          go_ret
          exact ⟨by first | rfl | (simp [errW_none, errW_some] <;> (first | rfl | grind)) | (simp [*, errW_none, errW_some] <;> rfl), by repeat (first | (with_reducible first | exact HB.out | apply below_alloc | apply pw_below_drewN | apply below_drew1) | exact HB.out)⟩
        · rw [if_neg c3] at H
          exact absurd H (by simp)
      · rw [if_neg c2] at H
        have c2b0 : ((x0_1 / 64) == 0) = false := beq_eq_false_iff_ne.mpr c2
        have c2b1 : ((x0_1 / 64) != 0) = true := bne_iff_ne.mpr c2
        by_cases c6 : (x0_1 / 64) = (-1)
        · rw [if_pos c6] at H
          have c6b0 : ((x0_1 / 64) == (-1)) = true := beq_iff_eq.mpr c6
          have c6b1 : ((x0_1 / 64) != (-1)) = false := bne_eq_false_iff_eq.mpr c6
          clear c6
          by_cases c7 : x3_1.length < 140737488355328
          · rw [if_pos c7] at H
            have LMc7 := Aside0.mk c7
            clear c7
            obtain ⟨y114, hy114⟩ : ∃ y_ : List Int, y_ = (x3_1 ++ [Go.bits .and .u8 ((x0_1) % 256) 127]) := ⟨_, rfl⟩
            replace H : (some (strOfNums y114)) = some r := by first | (rw [hy114]; with_reducible exact H) | (have H2_ := (Option.bind_some _ _).symm.trans H; rw [hy114]; with_reducible exact H2_) | (have H2_ := (Option.bind_some _ _).symm.trans H; with_reducible exact H2_) | with_reducible exact H | (rw [hy114]; exact H) | exact H
            have Ny114 := Aside0.mk hy114
            clear hy114
            obtain rfl := Option.some.inj H
            go_wp2_with (first | ((with_reducible refine gate_builtin (b := .append) (xs := #[.tmp 20, .tmp 24]) rfl ?_); at_builtin; refine Kd.R_append (Kd.int .u8) (w0 := w) w.heap.size rfl (.tmp 20) (.tmp 24) 44 5 (.int .u8 0) 1 rfl Try.underlying44 info5 rfl (by decide) (by omega) u3 x3_1 (Go.bits .and .u8 ((x0_1) % 256) 127) [.int .u8 (Go.bits .and .u8 ((x0_1) % 256) 127)] (fun _ => True) (fun _ => False) rfl rfl ?aP (fun _ hk => hk.elim) ?aF ?aO ?aB ?aS ?aL ?_; (case aP => exact rfl); (case aB => exact (by repeat (first | (with_reducible first | exact HB.out | apply below_alloc | apply pw_below_drewN | apply below_drew1) | exact HB.out))); (case aF => exact (fun _ _ => trivial)); (case aO => exact (by (with_reducible repeat (first | apply Kd.R_alloc | apply Kd.R_drewN | apply Kd.R_drew)); exact HO_3.out)); (case aS => exact (below_size (by repeat (first | (with_reducible first | exact HB.out | apply below_alloc | apply pw_below_drewN | apply below_drew1) | exact HB.out)))); (case aL => have := LMc7.out; omega); intro v115 w8 ho hb hg hat; rw [← Ny114.out] at ho; have n0_ := Aside0.mk (hb); have n1_ := Aside0.mk (ho); clear HB; clear HO_3; have HB := n0_; have HO116 := n1_; clear n0_ n1_; clear ho hb hg hat; have hcv9 := own_string (P := Try.prog) Try.underlying44 Try.underlying5 Try.underlying9 (Kd.own_of_R HO116.out)))
            go_ret
            exact ⟨by first | rfl | (simp [errW_none, errW_some] <;> (first | rfl | grind)) | (simp [*, errW_none, errW_some] <;> rfl), by repeat (first | (with_reducible first | exact HB.out | apply below_alloc | apply pw_below_drewN | apply below_drew1) | exact HB.out)⟩
          · rw [if_neg c7] at H
            exact absurd H (by simp)
        · rw [if_neg c6] at H
          have c6b0 : ((x0_1 / 64) == (-1)) = false := beq_eq_false_iff_ne.mpr c6
          have c6b1 : ((x0_1 / 64) != (-1)) = true := bne_iff_ne.mpr c6
          by_cases c10 : x3_1.length < 140737488355328
          · rw [if_pos c10] at H
            have LMc10 := Aside0.mk c10
            clear c10
            obtain ⟨y117, hy117⟩ : ∃ y_ : List Int, y_ = (x3_1 ++ [Go.bits .or .u8 ((x0_1) % 256) 128]) := ⟨_, rfl⟩
            replace H : (leb_S.l0 k1 (x0_1 / 128) y117) = some r := by first | (rw [hy117]; with_reducible exact H) | (have H2_ := (Option.bind_some _ _).symm.trans H; rw [hy117]; with_reducible exact H2_) | (have H2_ := (Option.bind_some _ _).symm.trans H; with_reducible exact H2_) | with_reducible exact H | (rw [hy117]; exact H) | exact H
            have Ny117 := Aside0.mk hy117
            clear hy117
            have H' := Aside0.mk H
            clear H
            go_wp2_with (first | ((with_reducible refine gate_builtin (b := .append) (xs := #[.tmp 14, .tmp 18]) rfl ?_); at_builtin; refine Kd.R_append (Kd.int .u8) (w0 := w) w.heap.size rfl (.tmp 14) (.tmp 18) 44 5 (.int .u8 0) 1 rfl Try.underlying44 info5 rfl (by decide) (by omega) u3 x3_1 (Go.bits .or .u8 ((x0_1) % 256) 128) [.int .u8 (Go.bits .or .u8 ((x0_1) % 256) 128)] (fun _ => True) (fun _ => False) rfl rfl ?aP (fun _ hk => hk.elim) ?aF ?aO ?aB ?aS ?aL ?_; (case aP => exact rfl); (case aB => exact (by repeat (first | (with_reducible first | exact HB.out | apply below_alloc | apply pw_below_drewN | apply below_drew1) | exact HB.out))); (case aF => exact (fun _ _ => trivial)); (case aO => exact (by (with_reducible repeat (first | apply Kd.R_alloc | apply Kd.R_drewN | apply Kd.R_drew)); exact HO_3.out)); (case aS => exact (below_size (by repeat (first | (with_reducible first | exact HB.out | apply below_alloc | apply pw_below_drewN | apply below_drew1) | exact HB.out)))); (case aL => have := LMc10.out; omega); intro v118 w11 ho hb hg hat; rw [← Ny117.out] at ho; have n0_ := Aside0.mk (hb); have n1_ := Aside0.mk (ho); clear HB; clear HO_3; have HB := n0_; have HO119 := n1_; clear n0_ n1_; clear ho hb hg hat))
            go_roundg k1
            case measure => have := HK1.out; omega
            case rel => exact ⟨(x0_1 / 128), (y117), (by first | rfl | (simp; done) | (simp [*]; done)), H', ⟨by have := HK1.out; omega⟩, ⟨by (with_reducible repeat (first | apply Kd.R_alloc | apply Kd.R_drewN | apply Kd.R_drew)); exact HO119.out⟩, ⟨by repeat (first | (with_reducible first | exact HB.out | apply below_alloc | apply pw_below_drewN | apply below_drew1) | exact HB.out)⟩⟩
          · rw [if_neg c10] at H
            exact absurd H (by simp)

end Go.Proofs.Ytgffcpoopnckkaa.MI

-- printed for this claim by a program of this session, after the form of the printed texts
import Derived.Test.YtgffcpoopnckkaaMIx0
namespace Go.Proofs.Ytgffcpoopnckkaa.MI
open Go.RowKit Go.Proofs.YtgffcpoopnckkaaW.PrintWords Go.Proofs.YtgffcpoopnckkaaW.PrintLast Go.Proofs.YtgffcpoopnckkaaW.PrintMore
attribute [local go_sem] max2_int min2_int max_two min_two max_three min_three max_four min_four   -- for this text's walks alone
set_option linter.unusedVariables false
set_option linter.unusedSimpArgs false

/-! ### word_Arity: function 24 -/
def word_Arity.in (a b op : Int) : Bool := decide (a ≤ op) && decide (op ≤ b)
def word_Arity.f (a0 : Int) : Option (Int × Int × Int × Bool) :=
  if a0 = 69 then some (1, 0, 0, true) else if a0 = 80 then some (1, 1, 0, true) else if (word_Arity.in 70 79 a0 = true ∨ word_Arity.in 106 120 a0 = true) then some (2, 0, 0, true)
  else if word_Arity.in 81 90 a0 = true then some (2, 1, 0, true) else if word_Arity.in 124 138 a0 = true then some (2, 1, 1, true) else if a0 = 167 then some (1, 1, 0, true)
  else if (a0 = 172 ∨ a0 = 173) then some (1, 0, 1, true) else some (0, 0, 0, false)
theorem word_Arity.in_calls (a b op : Int) (A : Addr) (w : World) (h : w.cell? A = some (.int .i64 op)) (r : Bool) (hr : word_Arity.in a b op = r) :
    Calls Try.prog 32 #[.int .i64 a, .int .i64 b, .pointer (some A)] w fun e w' => e = .returned (.bool r) ∧ w = w' := by
  by_cases h1 : a ≤ op
  · have d1 : decide (op ≥ a) = true := decide_eq_true h1
    by_cases h2 : op ≤ b
    · obtain rfl : r = true := by rw [← hr]; simp [word_Arity.in, h1, h2]
      go_enter Try.func32, Try.ntmps32
      go_wp2
      go_ret
      exact ⟨rfl, rfl⟩
    · have d2 : decide (op ≤ b) = false := decide_eq_false h2
      obtain rfl : r = false := by rw [← hr]; simp [word_Arity.in, h2]
      go_enter Try.func32, Try.ntmps32
      go_wp2
      go_ret
      exact ⟨rfl, rfl⟩
  · obtain rfl : r = false := by rw [← hr]; simp [word_Arity.in, h1]
    go_enter Try.func32, Try.ntmps32
    go_wp2
    go_ret
    exact ⟨rfl, rfl⟩
set_option maxHeartbeats 4000000 in
set_option maxRecDepth 100000 in
theorem word_Arity.walk (a0 : Int) (b1 b2 b3 b4 : Bool) (h1 : word_Arity.in 70 79 a0 = b1) (h2 : word_Arity.in 106 120 a0 = b2) (h3 : word_Arity.in 81 90 a0 = b3) (h4 : word_Arity.in 124 138 a0 = b4) (r1 r2 r3 : Int) (r4 : Bool) (w : World)
    (h : word_Arity.f a0 = some (r1, r2, r3, r4)) :
    Calls Try.prog 24 #[.int .i64 a0] w fun e w' => e = .returned (.tuple #[.int .i64 r1, .int .i64 r2, .int .i64 r3, .bool r4]) ∧ Below w.heap.size w w' := by
  have hmf : ∀ (fn : Fn) (first cap : Array Value) (w : World), (Instr.makeFunc fn first cap).run Try.prog w = .ok (.func fn first cap) w := fun _ _ _ _ => rfl
  have hc : (w.alloc (.cells #[.int .i64 a0] 3)).cell? ⟨w.heap.size, 0, none⟩ = some (.int .i64 a0) := by simp
  unfold word_Arity.f at h
  rw [h1, h2, h3, h4] at h
  have H1 := Aside0.mk (word_Arity.in_calls 70 79 a0 ⟨w.heap.size, 0, none⟩ _ hc b1 h1)
  have H2 := Aside0.mk (word_Arity.in_calls 106 120 a0 ⟨w.heap.size, 0, none⟩ _ hc b2 h2)
  have H3 := Aside0.mk (word_Arity.in_calls 81 90 a0 ⟨w.heap.size, 0, none⟩ _ hc b3 h3)
  have H4 := Aside0.mk (word_Arity.in_calls 124 138 a0 ⟨w.heap.size, 0, none⟩ _ hc b4 h4)
  clear h1 h2 h3 h4 hc
  by_cases e0 : a0 = 69
  · rw [if_pos e0] at h
    have E0 : (a0 == 69) = true := beq_iff_eq.mpr e0
    clear e0
    simp only [if_true, if_false, Bool.false_eq_true, or_false, or_true, false_or, true_or, Option.some.injEq, Prod.mk.injEq] at h
    obtain ⟨rfl, rfl, rfl, rfl⟩ := h
    go_enter Try.func24, Try.ntmps24
    go_wp2_with (first | (go_at_call 32; (with_reducible refine H1.out.mono ?_); rintro e w1 ⟨rfl, rfl⟩) | (go_at_call 32; (with_reducible refine H2.out.mono ?_); rintro e w1 ⟨rfl, rfl⟩) | (go_at_call 32; (with_reducible refine H3.out.mono ?_); rintro e w1 ⟨rfl, rfl⟩) | (go_at_call 32; (with_reducible refine H4.out.mono ?_); rintro e w1 ⟨rfl, rfl⟩))
    exact bodyPost_ret (v := .tuple #[.int .i64 1, .int .i64 0, .int .i64 0, .bool true]) (by simp [results, Try.results24, go_sem]) rfl ⟨rfl, (Below.refl _ _).alloc (Nat.le_refl _) _⟩
  rw [if_neg e0] at h
  have E0 : (a0 == 69) = false := beq_eq_false_iff_ne.mpr e0
  clear e0
  by_cases e1 : a0 = 80
  · rw [if_pos e1] at h
    have E1 : (a0 == 80) = true := beq_iff_eq.mpr e1
    clear e1
    simp only [if_true, if_false, Bool.false_eq_true, or_false, or_true, false_or, true_or, Option.some.injEq, Prod.mk.injEq] at h
    obtain ⟨rfl, rfl, rfl, rfl⟩ := h
    go_enter Try.func24, Try.ntmps24
    go_wp2_with (first | (go_at_call 32; (with_reducible refine H1.out.mono ?_); rintro e w1 ⟨rfl, rfl⟩) | (go_at_call 32; (with_reducible refine H2.out.mono ?_); rintro e w1 ⟨rfl, rfl⟩) | (go_at_call 32; (with_reducible refine H3.out.mono ?_); rintro e w1 ⟨rfl, rfl⟩) | (go_at_call 32; (with_reducible refine H4.out.mono ?_); rintro e w1 ⟨rfl, rfl⟩))
    exact bodyPost_ret (v := .tuple #[.int .i64 1, .int .i64 1, .int .i64 0, .bool true]) (by simp [results, Try.results24, go_sem]) rfl ⟨rfl, (Below.refl _ _).alloc (Nat.le_refl _) _⟩
  rw [if_neg e1] at h
  have E1 : (a0 == 80) = false := beq_eq_false_iff_ne.mpr e1
  clear e1
  cases b1 with
  | true =>
    simp only [if_true, if_false, Bool.false_eq_true, or_false, or_true, false_or, true_or, Option.some.injEq, Prod.mk.injEq] at h
    obtain ⟨rfl, rfl, rfl, rfl⟩ := h
    go_enter Try.func24, Try.ntmps24
    go_wp2_with (first | (go_at_call 32; (with_reducible refine H1.out.mono ?_); rintro e w1 ⟨rfl, rfl⟩) | (go_at_call 32; (with_reducible refine H2.out.mono ?_); rintro e w1 ⟨rfl, rfl⟩) | (go_at_call 32; (with_reducible refine H3.out.mono ?_); rintro e w1 ⟨rfl, rfl⟩) | (go_at_call 32; (with_reducible refine H4.out.mono ?_); rintro e w1 ⟨rfl, rfl⟩))
    exact bodyPost_ret (v := .tuple #[.int .i64 2, .int .i64 0, .int .i64 0, .bool true]) (by simp [results, Try.results24, go_sem]) rfl ⟨rfl, (Below.refl _ _).alloc (Nat.le_refl _) _⟩
  | false =>
    cases b2 with
    | true =>
      simp only [if_true, if_false, Bool.false_eq_true, or_false, or_true, false_or, true_or, Option.some.injEq, Prod.mk.injEq] at h
      obtain ⟨rfl, rfl, rfl, rfl⟩ := h
      go_enter Try.func24, Try.ntmps24
      go_wp2_with (first | (go_at_call 32; (with_reducible refine H1.out.mono ?_); rintro e w1 ⟨rfl, rfl⟩) | (go_at_call 32; (with_reducible refine H2.out.mono ?_); rintro e w1 ⟨rfl, rfl⟩) | (go_at_call 32; (with_reducible refine H3.out.mono ?_); rintro e w1 ⟨rfl, rfl⟩) | (go_at_call 32; (with_reducible refine H4.out.mono ?_); rintro e w1 ⟨rfl, rfl⟩))
      exact bodyPost_ret (v := .tuple #[.int .i64 2, .int .i64 0, .int .i64 0, .bool true]) (by simp [results, Try.results24, go_sem]) rfl ⟨rfl, (Below.refl _ _).alloc (Nat.le_refl _) _⟩
    | false =>
      simp only [Bool.false_eq_true, or_false, if_false] at h
      cases b3 with
      | true =>
        simp only [if_true, if_false, Bool.false_eq_true, or_false, or_true, false_or, true_or, Option.some.injEq, Prod.mk.injEq] at h
        obtain ⟨rfl, rfl, rfl, rfl⟩ := h
        go_enter Try.func24, Try.ntmps24
        go_wp2_with (first | (go_at_call 32; (with_reducible refine H1.out.mono ?_); rintro e w1 ⟨rfl, rfl⟩) | (go_at_call 32; (with_reducible refine H2.out.mono ?_); rintro e w1 ⟨rfl, rfl⟩) | (go_at_call 32; (with_reducible refine H3.out.mono ?_); rintro e w1 ⟨rfl, rfl⟩) | (go_at_call 32; (with_reducible refine H4.out.mono ?_); rintro e w1 ⟨rfl, rfl⟩))
        exact bodyPost_ret (v := .tuple #[.int .i64 2, .int .i64 1, .int .i64 0, .bool true]) (by simp [results, Try.results24, go_sem]) rfl ⟨rfl, (Below.refl _ _).alloc (Nat.le_refl _) _⟩
      | false =>
        simp only [Bool.false_eq_true, or_false, if_false] at h
        cases b4 with
        | true =>
          simp only [if_true, if_false, Bool.false_eq_true, or_false, or_true, false_or, true_or, Option.some.injEq, Prod.mk.injEq] at h
          obtain ⟨rfl, rfl, rfl, rfl⟩ := h
          go_enter Try.func24, Try.ntmps24
          go_wp2_with (first | (go_at_call 32; (with_reducible refine H1.out.mono ?_); rintro e w1 ⟨rfl, rfl⟩) | (go_at_call 32; (with_reducible refine H2.out.mono ?_); rintro e w1 ⟨rfl, rfl⟩) | (go_at_call 32; (with_reducible refine H3.out.mono ?_); rintro e w1 ⟨rfl, rfl⟩) | (go_at_call 32; (with_reducible refine H4.out.mono ?_); rintro e w1 ⟨rfl, rfl⟩))
          exact bodyPost_ret (v := .tuple #[.int .i64 2, .int .i64 1, .int .i64 1, .bool true]) (by simp [results, Try.results24, go_sem]) rfl ⟨rfl, (Below.refl _ _).alloc (Nat.le_refl _) _⟩
        | false =>
          simp only [Bool.false_eq_true, or_false, if_false] at h
          by_cases e6 : a0 = 167
          · rw [if_pos e6] at h
            have E6 : (a0 == 167) = true := beq_iff_eq.mpr e6
            clear e6
            simp only [if_true, if_false, Bool.false_eq_true, or_false, or_true, false_or, true_or, Option.some.injEq, Prod.mk.injEq] at h
            obtain ⟨rfl, rfl, rfl, rfl⟩ := h
            go_enter Try.func24, Try.ntmps24
            go_wp2_with (first | (go_at_call 32; (with_reducible refine H1.out.mono ?_); rintro e w1 ⟨rfl, rfl⟩) | (go_at_call 32; (with_reducible refine H2.out.mono ?_); rintro e w1 ⟨rfl, rfl⟩) | (go_at_call 32; (with_reducible refine H3.out.mono ?_); rintro e w1 ⟨rfl, rfl⟩) | (go_at_call 32; (with_reducible refine H4.out.mono ?_); rintro e w1 ⟨rfl, rfl⟩))
            exact bodyPost_ret (v := .tuple #[.int .i64 1, .int .i64 1, .int .i64 0, .bool true]) (by simp [results, Try.results24, go_sem]) rfl ⟨rfl, (Below.refl _ _).alloc (Nat.le_refl _) _⟩
          rw [if_neg e6] at h
          have E6 : (a0 == 167) = false := beq_eq_false_iff_ne.mpr e6
          clear e6
          by_cases e7 : a0 = 172
          · rw [if_pos (.inl e7)] at h
            have E7 : (a0 == 172) = true := beq_iff_eq.mpr e7
            clear e7
            simp only [if_true, if_false, Bool.false_eq_true, or_false, or_true, false_or, true_or, Option.some.injEq, Prod.mk.injEq] at h
            obtain ⟨rfl, rfl, rfl, rfl⟩ := h
            go_enter Try.func24, Try.ntmps24
            go_wp2_with (first | (go_at_call 32; (with_reducible refine H1.out.mono ?_); rintro e w1 ⟨rfl, rfl⟩) | (go_at_call 32; (with_reducible refine H2.out.mono ?_); rintro e w1 ⟨rfl, rfl⟩) | (go_at_call 32; (with_reducible refine H3.out.mono ?_); rintro e w1 ⟨rfl, rfl⟩) | (go_at_call 32; (with_reducible refine H4.out.mono ?_); rintro e w1 ⟨rfl, rfl⟩))
            exact bodyPost_ret (v := .tuple #[.int .i64 1, .int .i64 0, .int .i64 1, .bool true]) (by simp [results, Try.results24, go_sem]) rfl ⟨rfl, (Below.refl _ _).alloc (Nat.le_refl _) _⟩
          have E7 : (a0 == 172) = false := beq_eq_false_iff_ne.mpr e7
          by_cases e8 : a0 = 173
          · rw [if_pos (.inr e8)] at h
            have E8 : (a0 == 173) = true := beq_iff_eq.mpr e8
            clear e8
            simp only [if_true, if_false, Bool.false_eq_true, or_false, or_true, false_or, true_or, Option.some.injEq, Prod.mk.injEq] at h
            obtain ⟨rfl, rfl, rfl, rfl⟩ := h
            go_enter Try.func24, Try.ntmps24
            go_wp2_with (first | (go_at_call 32; (with_reducible refine H1.out.mono ?_); rintro e w1 ⟨rfl, rfl⟩) | (go_at_call 32; (with_reducible refine H2.out.mono ?_); rintro e w1 ⟨rfl, rfl⟩) | (go_at_call 32; (with_reducible refine H3.out.mono ?_); rintro e w1 ⟨rfl, rfl⟩) | (go_at_call 32; (with_reducible refine H4.out.mono ?_); rintro e w1 ⟨rfl, rfl⟩))
            exact bodyPost_ret (v := .tuple #[.int .i64 1, .int .i64 0, .int .i64 1, .bool true]) (by simp [results, Try.results24, go_sem]) rfl ⟨rfl, (Below.refl _ _).alloc (Nat.le_refl _) _⟩
          rw [if_neg (fun h_ => h_.elim e7 e8)] at h
          have E8 : (a0 == 173) = false := beq_eq_false_iff_ne.mpr e8
          clear e8
          clear e7
          simp only [Option.some.injEq, Prod.mk.injEq] at h
          obtain ⟨rfl, rfl, rfl, rfl⟩ := h
          go_enter Try.func24, Try.ntmps24
          go_wp2_with (first | (go_at_call 32; (with_reducible refine H1.out.mono ?_); rintro e w1 ⟨rfl, rfl⟩) | (go_at_call 32; (with_reducible refine H2.out.mono ?_); rintro e w1 ⟨rfl, rfl⟩) | (go_at_call 32; (with_reducible refine H3.out.mono ?_); rintro e w1 ⟨rfl, rfl⟩) | (go_at_call 32; (with_reducible refine H4.out.mono ?_); rintro e w1 ⟨rfl, rfl⟩))
          exact bodyPost_ret (v := .tuple #[.int .i64 0, .int .i64 0, .int .i64 0, .bool false]) (by simp [results, Try.results24, go_sem]) rfl ⟨rfl, (Below.refl _ _).alloc (Nat.le_refl _) _⟩
theorem word_Arity.calls (a0 : Int) (r1 r2 r3 : Int) (r4 : Bool) (w : World) (h : word_Arity.f a0 = some (r1, r2, r3, r4)) :
    Calls Try.prog 24 #[.int .i64 a0] w fun e w' => e = .returned (.tuple #[.int .i64 r1, .int .i64 r2, .int .i64 r3, .bool r4]) ∧ Below w.heap.size w w' :=
  word_Arity.walk a0 _ _ _ _ rfl rfl rfl rfl r1 r2 r3 r4 w h

/-! ### inst_Kind: function 12 -/
mutual
def inst_Kind.j0 : Nat → Int → Int → Bool → Option (Int)
  | 0, _, _, _ => none
  | k + 1, x0, x7, x8 => if x8 = true then (some 2) else (if x7 = 12 then (inst_Kind.j1 k x0 x7 (x7 == 12)) else (if x7 = 13 then (inst_Kind.j1 k x0 x7 (x7 == 13)) else (if x7 = 16 then (inst_Kind.j1 k x0 x7 (x7 == 16)) else (if x7 = 32 then (inst_Kind.j1 k x0 x7 (x7 == 32)) else (if x7 = 33 then (inst_Kind.j1 k x0 x7 (x7 == 33)) else (if x7 = 34 then (inst_Kind.j1 k x0 x7 (x7 == 34)) else (if x7 = 35 then (inst_Kind.j1 k x0 x7 (x7 == 35)) else (inst_Kind.j1 k x0 x7 (x7 == 36)))))))))
def inst_Kind.j1 : Nat → Int → Int → Bool → Option (Int)
  | 0, _, _, _ => none
  | k + 1, x0, x7, x12 => if x12 = true then (some 3) else (if x7 = 40 then (inst_Kind.j2 k x0 x7 (x7 == 40)) else (if x7 = 41 then (inst_Kind.j2 k x0 x7 (x7 == 41)) else (if x7 = 54 then (inst_Kind.j2 k x0 x7 (x7 == 54)) else (inst_Kind.j2 k x0 x7 (x7 == 55)))))
def inst_Kind.j2 : Nat → Int → Int → Bool → Option (Int)
  | 0, _, _, _ => none
  | k + 1, x0, x7, x21 => if x21 = true then (some 4) else (if x7 = 65 then (some 5) else (if x7 = 66 then (some 6) else (if x7 = 0 then (inst_Kind.j3 k x0 (x7 == 0)) else (if x7 = 1 then (inst_Kind.j3 k x0 (x7 == 1)) else (if x7 = 5 then (inst_Kind.j3 k x0 (x7 == 5)) else (if x7 = 11 then (inst_Kind.j3 k x0 (x7 == 11)) else (if x7 = 15 then (inst_Kind.j3 k x0 (x7 == 15)) else (if x7 = 26 then (inst_Kind.j3 k x0 (x7 == 26)) else (if x7 = 27 then (inst_Kind.j3 k x0 (x7 == 27)) else (if x7 = 240 then (inst_Kind.j3 k x0 (x7 == 240)) else (inst_Kind.j3 k x0 (x7 == 241))))))))))))
def inst_Kind.j3 : Nat → Int → Bool → Option (Int)
  | 0, _, _ => none
  | k + 1, x0, x30 => if x30 = true then (some 1) else ((word_Arity.f x0).bind fun bt101 => (if bt101.2.2.2 = true then (some 1) else (some 0)))
end
def inst_Kind.f (k : Nat) (a0 : Int) : Option (Int) := if a0 = 2 then (inst_Kind.j0 k a0 a0 (a0 == 2)) else (if a0 = 3 then (inst_Kind.j0 k a0 a0 (a0 == 3)) else (inst_Kind.j0 k a0 a0 (a0 == 4)))
theorem inst_Kind.mono_l : ∀ k, (∀ y0 y1 y2, LeO (inst_Kind.j0 k y0 y1 y2) (inst_Kind.j0 (k + 1) y0 y1 y2)) ∧ (∀ y0 y1 y2, LeO (inst_Kind.j1 k y0 y1 y2) (inst_Kind.j1 (k + 1) y0 y1 y2)) ∧ (∀ y0 y1 y2, LeO (inst_Kind.j2 k y0 y1 y2) (inst_Kind.j2 (k + 1) y0 y1 y2)) ∧ (∀ y0 y1, LeO (inst_Kind.j3 k y0 y1) (inst_Kind.j3 (k + 1) y0 y1))
  | 0 => ⟨fun _ _ _ r h => by simp [inst_Kind.j0] at h, fun _ _ _ r h => by simp [inst_Kind.j1] at h, fun _ _ _ r h => by simp [inst_Kind.j2] at h, fun _ _ r h => by simp [inst_Kind.j3] at h⟩
  | k + 1 => by
    obtain ⟨ih0, ih1, ih2, ih3⟩ := inst_Kind.mono_l k
    refine ⟨?_, ?_, ?_, ?_⟩
    · intro y0 y1 y2
      unfold inst_Kind.j0
      repeat' first
      | (with_reducible exact ih0 _ _ _)
      | (with_reducible exact ih1 _ _ _)
      | (with_reducible exact ih2 _ _ _)
      | (with_reducible exact ih3 _ _)
      | (with_reducible exact LeO.refl _)
      | (with_reducible exact LeO.none _)
      | (with_reducible refine LeO.ite ?_ ?_)
      | (with_reducible refine LeO.bind ?_ (fun _ => ?_))
      | exact ih0 _ _ _
      | exact ih1 _ _ _
      | exact ih2 _ _ _
      | exact ih3 _ _
      | exact LeO.none _
      | refine LeO.ite ?_ ?_
      | refine LeO.bind ?_ (fun _ => ?_)
    · intro y0 y1 y2
      unfold inst_Kind.j1
      repeat' first
      | (with_reducible exact ih0 _ _ _)
      | (with_reducible exact ih1 _ _ _)
      | (with_reducible exact ih2 _ _ _)
      | (with_reducible exact ih3 _ _)
      | (with_reducible exact LeO.refl _)
      | (with_reducible exact LeO.none _)
      | (with_reducible refine LeO.ite ?_ ?_)
      | (with_reducible refine LeO.bind ?_ (fun _ => ?_))
      | exact ih0 _ _ _
      | exact ih1 _ _ _
      | exact ih2 _ _ _
      | exact ih3 _ _
      | exact LeO.none _
      | refine LeO.ite ?_ ?_
      | refine LeO.bind ?_ (fun _ => ?_)
    · intro y0 y1 y2
      unfold inst_Kind.j2
      repeat' first
      | (with_reducible exact ih0 _ _ _)
      | (with_reducible exact ih1 _ _ _)
      | (with_reducible exact ih2 _ _ _)
      | (with_reducible exact ih3 _ _)
      | (with_reducible exact LeO.refl _)
      | (with_reducible exact LeO.none _)
      | (with_reducible refine LeO.ite ?_ ?_)
      | (with_reducible refine LeO.bind ?_ (fun _ => ?_))
      | exact ih0 _ _ _
      | exact ih1 _ _ _
      | exact ih2 _ _ _
      | exact ih3 _ _
      | exact LeO.none _
      | refine LeO.ite ?_ ?_
      | refine LeO.bind ?_ (fun _ => ?_)
    · intro y0 y1
      unfold inst_Kind.j3
      repeat' first
      | (with_reducible exact ih0 _ _ _)
      | (with_reducible exact ih1 _ _ _)
      | (with_reducible exact ih2 _ _ _)
      | (with_reducible exact ih3 _ _)
      | (with_reducible exact LeO.refl _)
      | (with_reducible exact LeO.none _)
      | (with_reducible refine LeO.ite ?_ ?_)
      | (with_reducible refine LeO.bind ?_ (fun _ => ?_))
      | exact ih0 _ _ _
      | exact ih1 _ _ _
      | exact ih2 _ _ _
      | exact ih3 _ _
      | exact LeO.none _
      | refine LeO.ite ?_ ?_
      | refine LeO.bind ?_ (fun _ => ?_)
theorem inst_Kind.mono : ∀ a0 k, LeO (inst_Kind.f k a0) (inst_Kind.f (k + 1) a0) := by
  intro a0 k
  obtain ⟨ih0, ih1, ih2, ih3⟩ := inst_Kind.mono_l k
  unfold inst_Kind.f
  repeat' first
      | (with_reducible exact ih0 _ _ _)
      | (with_reducible exact ih1 _ _ _)
      | (with_reducible exact ih2 _ _ _)
      | (with_reducible exact ih3 _ _)
      | (with_reducible exact LeO.refl _)
      | (with_reducible exact LeO.none _)
      | (with_reducible refine LeO.ite ?_ ?_)
      | (with_reducible refine LeO.bind ?_ (fun _ => ?_))
      | exact ih0 _ _ _
      | exact ih1 _ _ _
      | exact ih2 _ _ _
      | exact ih3 _ _
      | exact LeO.none _
      | refine LeO.ite ?_ ?_
      | refine LeO.bind ?_ (fun _ => ?_)
set_option maxHeartbeats 8000000 in
set_option maxRecDepth 100000 in
theorem inst_Kind.calls (k : Nat) (a0 : Int) (r : Int) (w : World) (h : inst_Kind.f k a0 = some r) :
    Calls Try.prog 12 #[.int .i64 a0] w fun e w' => e = .returned (.int .i64 r) ∧ Below w.heap.size w w' := by
  have HB := Aside0.mk (Below.refl w.heap.size w)
  have H : (if a0 = 2 then (inst_Kind.j0 k a0 a0 (a0 == 2)) else (if a0 = 3 then (inst_Kind.j0 k a0 a0 (a0 == 3)) else (inst_Kind.j0 k a0 a0 (a0 == 4)))) = some r := h
  clear h
  have HC2 := Aside0.mk H
  clear H
  go_enter Try.func12, Try.ntmps12
  go_upto_if 8 with (fail)
  go_cut [8] (fun v8 wc => ∃ (kq : Nat) (x8_1 : Bool), v8 = .bool x8_1 ∧ Aside0 (inst_Kind.j0 kq a0 a0 x8_1 = some r) ∧ Aside0 (kq ≤ k) ∧ Aside0 (Below w.heap.size w wc))
  case first =>
    have H := HC2.out
    clear HC2
    by_cases c3 : a0 = 2
    · rw [if_pos c3] at H
      have c3b0 : (a0 == 2) = true := beq_iff_eq.mpr c3
      have c3b1 : (a0 != 2) = false := bne_eq_false_iff_eq.mpr c3
      clear c3
      (first | rw [c3b0] | (simp only [i64_w, i32_w]; rw [c3b0]) | skip)
      have H' := Aside0.mk H
      clear H
      go_wp2
      go_meet
      case rel => exact ⟨_, ((a0 == 2)), (by first | rfl | (simp; done) | (simp [*]; done)), H', ⟨by first | omega | exact Nat.le_refl _⟩, ⟨by repeat (first | (with_reducible first | exact HB.out | apply below_alloc | apply pw_below_drewN | apply below_drew1) | exact HB.out)⟩⟩
    · rw [if_neg c3] at H
      have c3b0 : (a0 == 2) = false := beq_eq_false_iff_ne.mpr c3
      have c3b1 : (a0 != 2) = true := bne_iff_ne.mpr c3
      (first | rw [c3b0] | (simp only [i64_w, i32_w]; rw [c3b0]) | skip)
      by_cases c4 : a0 = 3
      · rw [if_pos c4] at H
        have c4b0 : (a0 == 3) = true := beq_iff_eq.mpr c4
        have c4b1 : (a0 != 3) = false := bne_eq_false_iff_eq.mpr c4
        clear c4
        have H' := Aside0.mk H
        clear H
        go_wp2
        go_meet
        case rel => exact ⟨_, ((a0 == 3)), (by first | rfl | (simp; done) | (simp [*]; done)), H', ⟨by first | omega | exact Nat.le_refl _⟩, ⟨by repeat (first | (with_reducible first | exact HB.out | apply below_alloc | apply pw_below_drewN | apply below_drew1) | exact HB.out)⟩⟩
      · rw [if_neg c4] at H
        have c4b0 : (a0 == 3) = false := beq_eq_false_iff_ne.mpr c4
        have c4b1 : (a0 != 3) = true := bne_iff_ne.mpr c4
        have H' := Aside0.mk H
        clear H
        go_wp2
        go_meet
        case rel => exact ⟨_, ((a0 == 4)), (by first | rfl | (simp; done) | (simp [*]; done)), H', ⟨by first | omega | exact Nat.le_refl _⟩, ⟨by repeat (first | (with_reducible first | exact HB.out | apply below_alloc | apply pw_below_drewN | apply below_drew1) | exact HB.out)⟩⟩
  case rest =>
    clear HC2
    try clear c1
    try clear p2
    try clear c3
    try clear c3b0
    try clear c3b1
    try clear c4
    try clear c4b0
    try clear c4b1
    obtain ⟨kq, x8_1, rfl, HA, HJ1, HB⟩ := hcut
    cases kq with
    | zero => exact absurd HA.out (by simp [inst_Kind.j0])
    | succ kj1 =>
      have H := HA.out
      clear HA
      simp only [inst_Kind.j0] at H
      by_cases c5 : x8_1 = true
      · subst c5
        have H1 : (some 2) = some r := by rw [if_pos rfl] at H; exact H
        clear H
        have H := H1
        clear H1
        obtain rfl := Option.some.inj H
        go_wp2
        go_ret
        exact ⟨by first | rfl | (simp [errW_none, errW_some] <;> (first | rfl | grind)) | (simp [*, errW_none, errW_some] <;> rfl), by repeat (first | (with_reducible first | exact HB.out | apply below_alloc | apply pw_below_drewN | apply below_drew1) | exact HB.out)⟩
      · replace c5 := Bool.eq_false_iff.mpr c5
        subst c5
        have H1 : (if a0 = 12 then (inst_Kind.j1 kj1 a0 a0 (a0 == 12)) else (if a0 = 13 then (inst_Kind.j1 kj1 a0 a0 (a0 == 13)) else (if a0 = 16 then (inst_Kind.j1 kj1 a0 a0 (a0 == 16)) else (if a0 = 32 then (inst_Kind.j1 kj1 a0 a0 (a0 == 32)) else (if a0 = 33 then (inst_Kind.j1 kj1 a0 a0 (a0 == 33)) else (if a0 = 34 then (inst_Kind.j1 kj1 a0 a0 (a0 == 34)) else (if a0 = 35 then (inst_Kind.j1 kj1 a0 a0 (a0 == 35)) else (inst_Kind.j1 kj1 a0 a0 (a0 == 36))))))))) = some r := by rw [if_neg (show ¬ (false = true) by decide)] at H; exact H
        clear H
        have H := H1
        clear H1
        have HC6 := Aside0.mk H
        clear H
        go_upto_if 12 with (fail)
        go_cut [12] (fun v12 wc => ∃ (kq : Nat) (x12_5 : Bool), v12 = .bool x12_5 ∧ Aside0 (inst_Kind.j1 kq a0 a0 x12_5 = some r) ∧ Aside0 (kq ≤ kj1) ∧ Aside0 (Below w.heap.size w wc))
        case first =>
          have H := HC6.out
          clear HC6
          by_cases c7 : a0 = 12
          · rw [if_pos c7] at H
            have c7b0 : (a0 == 12) = true := beq_iff_eq.mpr c7
            have c7b1 : (a0 != 12) = false := bne_eq_false_iff_eq.mpr c7
            clear c7
            (first | rw [c7b0] | (simp only [i64_w, i32_w]; rw [c7b0]) | skip)
            have H' := Aside0.mk H
            clear H
            go_wp2
            go_meet
            case rel => exact ⟨_, ((a0 == 12)), (by first | rfl | (simp; done) | (simp [*]; done)), H', ⟨by have := HJ1.out; first | omega | exact Nat.le_refl _⟩, ⟨by repeat (first | (with_reducible first | exact HB.out | apply below_alloc | apply pw_below_drewN | apply below_drew1) | exact HB.out)⟩⟩
          · rw [if_neg c7] at H
            have c7b0 : (a0 == 12) = false := beq_eq_false_iff_ne.mpr c7
            have c7b1 : (a0 != 12) = true := bne_iff_ne.mpr c7
            (first | rw [c7b0] | (simp only [i64_w, i32_w]; rw [c7b0]) | skip)
            by_cases c8 : a0 = 13
            · rw [if_pos c8] at H
              have c8b0 : (a0 == 13) = true := beq_iff_eq.mpr c8
              have c8b1 : (a0 != 13) = false := bne_eq_false_iff_eq.mpr c8
              clear c8
              have H' := Aside0.mk H
              clear H
              go_wp2
              go_meet
              case rel => exact ⟨_, ((a0 == 13)), (by first | rfl | (simp; done) | (simp [*]; done)), H', ⟨by have := HJ1.out; first | omega | exact Nat.le_refl _⟩, ⟨by repeat (first | (with_reducible first | exact HB.out | apply below_alloc | apply pw_below_drewN | apply below_drew1) | exact HB.out)⟩⟩
            · rw [if_neg c8] at H
              have c8b0 : (a0 == 13) = false := beq_eq_false_iff_ne.mpr c8
              have c8b1 : (a0 != 13) = true := bne_iff_ne.mpr c8
              by_cases c9 : a0 = 16
              · rw [if_pos c9] at H
                have c9b0 : (a0 == 16) = true := beq_iff_eq.mpr c9
                have c9b1 : (a0 != 16) = false := bne_eq_false_iff_eq.mpr c9
                clear c9
                have H' := Aside0.mk H
                clear H
                go_wp2
                go_meet
                case rel => exact ⟨_, ((a0 == 16)), (by first | rfl | (simp; done) | (simp [*]; done)), H', ⟨by have := HJ1.out; first | omega | exact Nat.le_refl _⟩, ⟨by repeat (first | (with_reducible first | exact HB.out | apply below_alloc | apply pw_below_drewN | apply below_drew1) | exact HB.out)⟩⟩
              · rw [if_neg c9] at H
                have c9b0 : (a0 == 16) = false := beq_eq_false_iff_ne.mpr c9
                have c9b1 : (a0 != 16) = true := bne_iff_ne.mpr c9
                by_cases c10 : a0 = 32
                · rw [if_pos c10] at H
                  have c10b0 : (a0 == 32) = true := beq_iff_eq.mpr c10
                  have c10b1 : (a0 != 32) = false := bne_eq_false_iff_eq.mpr c10
                  clear c10
                  have H' := Aside0.mk H
                  clear H
                  go_wp2
                  go_meet
                  case rel => exact ⟨_, ((a0 == 32)), (by first | rfl | (simp; done) | (simp [*]; done)), H', ⟨by have := HJ1.out; first | omega | exact Nat.le_refl _⟩, ⟨by repeat (first | (with_reducible first | exact HB.out | apply below_alloc | apply pw_below_drewN | apply below_drew1) | exact HB.out)⟩⟩
                · rw [if_neg c10] at H
                  have c10b0 : (a0 == 32) = false := beq_eq_false_iff_ne.mpr c10
                  have c10b1 : (a0 != 32) = true := bne_iff_ne.mpr c10
                  by_cases c11 : a0 = 33
                  · rw [if_pos c11] at H
                    have c11b0 : (a0 == 33) = true := beq_iff_eq.mpr c11
                    have c11b1 : (a0 != 33) = false := bne_eq_false_iff_eq.mpr c11
                    clear c11
                    have H' := Aside0.mk H
                    clear H
                    go_wp2
                    go_meet
                    case rel => exact ⟨_, ((a0 == 33)), (by first | rfl | (simp; done) | (simp [*]; done)), H', ⟨by have := HJ1.out; first | omega | exact Nat.le_refl _⟩, ⟨by repeat (first | (with_reducible first | exact HB.out | apply below_alloc | apply pw_below_drewN | apply below_drew1) | exact HB.out)⟩⟩
                  · rw [if_neg c11] at H
                    have c11b0 : (a0 == 33) = false := beq_eq_false_iff_ne.mpr c11
                    have c11b1 : (a0 != 33) = true := bne_iff_ne.mpr c11
                    by_cases c12 : a0 = 34
                    · rw [if_pos c12] at H
                      have c12b0 : (a0 == 34) = true := beq_iff_eq.mpr c12
                      have c12b1 : (a0 != 34) = false := bne_eq_false_iff_eq.mpr c12
                      clear c12
                      have H' := Aside0.mk H
                      clear H
                      go_wp2
                      go_meet
                      case rel => exact ⟨_, ((a0 == 34)), (by first | rfl | (simp; done) | (simp [*]; done)), H', ⟨by have := HJ1.out; first | omega | exact Nat.le_refl _⟩, ⟨by repeat (first | (with_reducible first | exact HB.out | apply below_alloc | apply pw_below_drewN | apply below_drew1) | exact HB.out)⟩⟩
                    · rw [if_neg c12] at H
                      have c12b0 : (a0 == 34) = false := beq_eq_false_iff_ne.mpr c12
                      have c12b1 : (a0 != 34) = true := bne_iff_ne.mpr c12
                      by_cases c13 : a0 = 35
                      · rw [if_pos c13] at H
                        have c13b0 : (a0 == 35) = true := beq_iff_eq.mpr c13
                        have c13b1 : (a0 != 35) = false := bne_eq_false_iff_eq.mpr c13
                        clear c13
                        have H' := Aside0.mk H
                        clear H
                        go_wp2
                        go_meet
                        case rel => exact ⟨_, ((a0 == 35)), (by first | rfl | (simp; done) | (simp [*]; done)), H', ⟨by have := HJ1.out; first | omega | exact Nat.le_refl _⟩, ⟨by repeat (first | (with_reducible first | exact HB.out | apply below_alloc | apply pw_below_drewN | apply below_drew1) | exact HB.out)⟩⟩
                      · rw [if_neg c13] at H
                        have c13b0 : (a0 == 35) = false := beq_eq_false_iff_ne.mpr c13
                        have c13b1 : (a0 != 35) = true := bne_iff_ne.mpr c13
                        have H' := Aside0.mk H
                        clear H
                        go_wp2
                        go_meet
                        case rel => exact ⟨_, ((a0 == 36)), (by first | rfl | (simp; done) | (simp [*]; done)), H', ⟨by have := HJ1.out; first | omega | exact Nat.le_refl _⟩, ⟨by repeat (first | (with_reducible first | exact HB.out | apply below_alloc | apply pw_below_drewN | apply below_drew1) | exact HB.out)⟩⟩
        case rest =>
          clear HC6
          try clear c1
          try clear p2
          try clear c3
          try clear c3b0
          try clear c3b1
          try clear c4
          try clear c4b0
          try clear c4b1
          try clear c5
          try clear c7
          try clear c7b0
          try clear c7b1
          try clear c8
          try clear c8b0
          try clear c8b1
          try clear c9
          try clear c9b0
          try clear c9b1
          try clear c10
          try clear c10b0
          try clear c10b1
          try clear c11
          try clear c11b0
          try clear c11b1
          try clear c12
          try clear c12b0
          try clear c12b1
          try clear c13
          try clear c13b0
          try clear c13b1
          try clear p2
          obtain ⟨kq, x12_5, rfl, HA, HJ5, HB⟩ := hcut
          cases kq with
          | zero => exact absurd HA.out (by simp [inst_Kind.j1])
          | succ kj5 =>
            have H := HA.out
            clear HA
            simp only [inst_Kind.j1] at H
            by_cases c14 : x12_5 = true
            · subst c14
              have H1 : (some 3) = some r := by rw [if_pos rfl] at H; exact H
              clear H
              have H := H1
              clear H1
              obtain rfl := Option.some.inj H
              go_wp2
              go_ret
              exact ⟨by first | rfl | (simp [errW_none, errW_some] <;> (first | rfl | grind)) | (simp [*, errW_none, errW_some] <;> rfl), by repeat (first | (with_reducible first | exact HB.out | apply below_alloc | apply pw_below_drewN | apply below_drew1) | exact HB.out)⟩
            · replace c14 := Bool.eq_false_iff.mpr c14
              subst c14
              have H1 : (if a0 = 40 then (inst_Kind.j2 kj5 a0 a0 (a0 == 40)) else (if a0 = 41 then (inst_Kind.j2 kj5 a0 a0 (a0 == 41)) else (if a0 = 54 then (inst_Kind.j2 kj5 a0 a0 (a0 == 54)) else (inst_Kind.j2 kj5 a0 a0 (a0 == 55))))) = some r := by rw [if_neg (show ¬ (false = true) by decide)] at H; exact H
              clear H
              have H := H1
              clear H1
              have HC15 := Aside0.mk H
              clear H
              go_upto_if 21 with (fail)
              go_cut [21] (fun v21 wc => ∃ (kq : Nat) (x21_14 : Bool), v21 = .bool x21_14 ∧ Aside0 (inst_Kind.j2 kq a0 a0 x21_14 = some r) ∧ Aside0 (kq ≤ kj5) ∧ Aside0 (Below w.heap.size w wc))
              case first =>
                have H := HC15.out
                clear HC15
                by_cases c16 : a0 = 40
                · rw [if_pos c16] at H
                  have c16b0 : (a0 == 40) = true := beq_iff_eq.mpr c16
                  have c16b1 : (a0 != 40) = false := bne_eq_false_iff_eq.mpr c16
                  clear c16
                  (first | rw [c16b0] | (simp only [i64_w, i32_w]; rw [c16b0]) | skip)
                  have H' := Aside0.mk H
                  clear H
                  go_wp2
                  go_meet
                  case rel => exact ⟨_, ((a0 == 40)), (by first | rfl | (simp; done) | (simp [*]; done)), H', ⟨by have := HJ1.out; have := HJ5.out; first | omega | exact Nat.le_refl _⟩, ⟨by repeat (first | (with_reducible first | exact HB.out | apply below_alloc | apply pw_below_drewN | apply below_drew1) | exact HB.out)⟩⟩
                · rw [if_neg c16] at H
                  have c16b0 : (a0 == 40) = false := beq_eq_false_iff_ne.mpr c16
                  have c16b1 : (a0 != 40) = true := bne_iff_ne.mpr c16
                  (first | rw [c16b0] | (simp only [i64_w, i32_w]; rw [c16b0]) | skip)
                  by_cases c17 : a0 = 41
                  · rw [if_pos c17] at H
                    have c17b0 : (a0 == 41) = true := beq_iff_eq.mpr c17
                    have c17b1 : (a0 != 41) = false := bne_eq_false_iff_eq.mpr c17
                    clear c17
                    have H' := Aside0.mk H
                    clear H
                    go_wp2
                    go_meet
                    case rel => exact ⟨_, ((a0 == 41)), (by first | rfl | (simp; done) | (simp [*]; done)), H', ⟨by have := HJ1.out; have := HJ5.out; first | omega | exact Nat.le_refl _⟩, ⟨by repeat (first | (with_reducible first | exact HB.out | apply below_alloc | apply pw_below_drewN | apply below_drew1) | exact HB.out)⟩⟩
                  · rw [if_neg c17] at H
                    have c17b0 : (a0 == 41) = false := beq_eq_false_iff_ne.mpr c17
                    have c17b1 : (a0 != 41) = true := bne_iff_ne.mpr c17
                    by_cases c18 : a0 = 54
                    · rw [if_pos c18] at H
                      have c18b0 : (a0 == 54) = true := beq_iff_eq.mpr c18
                      have c18b1 : (a0 != 54) = false := bne_eq_false_iff_eq.mpr c18
                      clear c18
                      have H' := Aside0.mk H
                      clear H
                      go_wp2
                      go_meet
                      case rel => exact ⟨_, ((a0 == 54)), (by first | rfl | (simp; done) | (simp [*]; done)), H', ⟨by have := HJ1.out; have := HJ5.out; first | omega | exact Nat.le_refl _⟩, ⟨by repeat (first | (with_reducible first | exact HB.out | apply below_alloc | apply pw_below_drewN | apply below_drew1) | exact HB.out)⟩⟩
                    · rw [if_neg c18] at H
                      have c18b0 : (a0 == 54) = false := beq_eq_false_iff_ne.mpr c18
                      have c18b1 : (a0 != 54) = true := bne_iff_ne.mpr c18
                      have H' := Aside0.mk H
                      clear H
                      go_wp2
                      go_meet
                      case rel => exact ⟨_, ((a0 == 55)), (by first | rfl | (simp; done) | (simp [*]; done)), H', ⟨by have := HJ1.out; have := HJ5.out; first | omega | exact Nat.le_refl _⟩, ⟨by repeat (first | (with_reducible first | exact HB.out | apply below_alloc | apply pw_below_drewN | apply below_drew1) | exact HB.out)⟩⟩
              case rest =>
                clear HC15
                try clear c1
                try clear p2
                try clear c3
                try clear c3b0
                try clear c3b1
                try clear c4
                try clear c4b0
                try clear c4b1
                try clear c5
                try clear c7
                try clear c7b0
                try clear c7b1
                try clear c8
                try clear c8b0
                try clear c8b1
                try clear c9
                try clear c9b0
                try clear c9b1
                try clear c10
                try clear c10b0
                try clear c10b1
                try clear c11
                try clear c11b0
                try clear c11b1
                try clear c12
                try clear c12b0
                try clear c12b1
                try clear c13
                try clear c13b0
                try clear c13b1
                try clear c14
                try clear c16
                try clear c16b0
                try clear c16b1
                try clear c17
                try clear c17b0
                try clear c17b1
                try clear c18
                try clear c18b0
                try clear c18b1
                try clear p2
                obtain ⟨kq, x21_14, rfl, HA, HJ14, HB⟩ := hcut
                cases kq with
                | zero => exact absurd HA.out (by simp [inst_Kind.j2])
                | succ kj14 =>
                  have H := HA.out
                  clear HA
                  simp only [inst_Kind.j2] at H
                  by_cases c19 : x21_14 = true
                  · subst c19
                    have H1 : (some 4) = some r := by rw [if_pos rfl] at H; exact H
                    clear H
                    have H := H1
                    clear H1
                    obtain rfl := Option.some.inj H
                    go_wp2
                    go_ret
                    exact ⟨by first | rfl | (simp [errW_none, errW_some] <;> (first | rfl | grind)) | (simp [*, errW_none, errW_some] <;> rfl), by repeat (first | (with_reducible first | exact HB.out | apply below_alloc | apply pw_below_drewN | apply below_drew1) | exact HB.out)⟩
                  · replace c19 := Bool.eq_false_iff.mpr c19
                    subst c19
                    have H1 : (if a0 = 65 then (some 5) else (if a0 = 66 then (some 6) else (if a0 = 0 then (inst_Kind.j3 kj14 a0 (a0 == 0)) else (if a0 = 1 then (inst_Kind.j3 kj14 a0 (a0 == 1)) else (if a0 = 5 then (inst_Kind.j3 kj14 a0 (a0 == 5)) else (if a0 = 11 then (inst_Kind.j3 kj14 a0 (a0 == 11)) else (if a0 = 15 then (inst_Kind.j3 kj14 a0 (a0 == 15)) else (if a0 = 26 then (inst_Kind.j3 kj14 a0 (a0 == 26)) else (if a0 = 27 then (inst_Kind.j3 kj14 a0 (a0 == 27)) else (if a0 = 240 then (inst_Kind.j3 kj14 a0 (a0 == 240)) else (inst_Kind.j3 kj14 a0 (a0 == 241)))))))))))) = some r := by rw [if_neg (show ¬ (false = true) by decide)] at H; exact H
                    clear H
                    have H := H1
                    clear H1
                    by_cases c20 : a0 = 65
                    · rw [if_pos c20] at H
                      have c20b0 : (a0 == 65) = true := beq_iff_eq.mpr c20
                      have c20b1 : (a0 != 65) = false := bne_eq_false_iff_eq.mpr c20
                      clear c20
                      obtain rfl := Option.some.inj H
                      go_wp2
                      go_ret
                      exact ⟨by first | rfl | (simp [errW_none, errW_some] <;> (first | rfl | grind)) | (simp [*, errW_none, errW_some] <;> rfl), by repeat (first | (with_reducible first | exact HB.out | apply below_alloc | apply pw_below_drewN | apply below_drew1) | exact HB.out)⟩
                    · rw [if_neg c20] at H
                      have c20b0 : (a0 == 65) = false := beq_eq_false_iff_ne.mpr c20
                      have c20b1 : (a0 != 65) = true := bne_iff_ne.mpr c20
                      by_cases c21 : a0 = 66
                      · rw [if_pos c21] at H
                        have c21b0 : (a0 == 66) = true := beq_iff_eq.mpr c21
                        have c21b1 : (a0 != 66) = false := bne_eq_false_iff_eq.mpr c21
                        clear c21
                        obtain rfl := Option.some.inj H
                        go_wp2
                        go_ret
                        exact ⟨by first | rfl | (simp [errW_none, errW_some] <;> (first | rfl | grind)) | (simp [*, errW_none, errW_some] <;> rfl), by repeat (first | (with_reducible first | exact HB.out | apply below_alloc | apply pw_below_drewN | apply below_drew1) | exact HB.out)⟩
                      · rw [if_neg c21] at H
                        have c21b0 : (a0 == 66) = false := beq_eq_false_iff_ne.mpr c21
                        have c21b1 : (a0 != 66) = true := bne_iff_ne.mpr c21
                        have HC22 := Aside0.mk H
                        clear H
                        go_upto_if 30 with (fail)
                        go_cut [30] (fun v30 wc => ∃ (kq : Nat) (x30_21 : Bool), v30 = .bool x30_21 ∧ Aside0 (inst_Kind.j3 kq a0 x30_21 = some r) ∧ Aside0 (kq ≤ kj14) ∧ Aside0 (Below w.heap.size w wc))
                        case first =>
                          have H := HC22.out
                          clear HC22
                          by_cases c23 : a0 = 0
                          · rw [if_pos c23] at H
                            have c23b0 : (a0 == 0) = true := beq_iff_eq.mpr c23
                            have c23b1 : (a0 != 0) = false := bne_eq_false_iff_eq.mpr c23
                            clear c23
                            (first | rw [c23b0] | (simp only [i64_w, i32_w]; rw [c23b0]) | skip)
                            have H' := Aside0.mk H
                            clear H
                            go_wp2
                            go_meet
                            case rel => exact ⟨_, ((a0 == 0)), (by first | rfl | (simp; done) | (simp [*]; done)), H', ⟨by have := HJ1.out; have := HJ5.out; have := HJ14.out; first | omega | exact Nat.le_refl _⟩, ⟨by repeat (first | (with_reducible first | exact HB.out | apply below_alloc | apply pw_below_drewN | apply below_drew1) | exact HB.out)⟩⟩
                          · rw [if_neg c23] at H
                            have c23b0 : (a0 == 0) = false := beq_eq_false_iff_ne.mpr c23
                            have c23b1 : (a0 != 0) = true := bne_iff_ne.mpr c23
                            (first | rw [c23b0] | (simp only [i64_w, i32_w]; rw [c23b0]) | skip)
                            by_cases c24 : a0 = 1
                            · rw [if_pos c24] at H
                              have c24b0 : (a0 == 1) = true := beq_iff_eq.mpr c24
                              have c24b1 : (a0 != 1) = false := bne_eq_false_iff_eq.mpr c24
                              clear c24
                              have H' := Aside0.mk H
                              clear H
                              go_wp2
                              go_meet
                              case rel => exact ⟨_, ((a0 == 1)), (by first | rfl | (simp; done) | (simp [*]; done)), H', ⟨by have := HJ1.out; have := HJ5.out; have := HJ14.out; first | omega | exact Nat.le_refl _⟩, ⟨by repeat (first | (with_reducible first | exact HB.out | apply below_alloc | apply pw_below_drewN | apply below_drew1) | exact HB.out)⟩⟩
                            · rw [if_neg c24] at H
                              have c24b0 : (a0 == 1) = false := beq_eq_false_iff_ne.mpr c24
                              have c24b1 : (a0 != 1) = true := bne_iff_ne.mpr c24
                              by_cases c25 : a0 = 5
                              · rw [if_pos c25] at H
                                have c25b0 : (a0 == 5) = true := beq_iff_eq.mpr c25
                                have c25b1 : (a0 != 5) = false := bne_eq_false_iff_eq.mpr c25
                                clear c25
                                have H' := Aside0.mk H
                                clear H
                                go_wp2
                                go_meet
                                case rel => exact ⟨_, ((a0 == 5)), (by first | rfl | (simp; done) | (simp [*]; done)), H', ⟨by have := HJ1.out; have := HJ5.out; have := HJ14.out; first | omega | exact Nat.le_refl _⟩, ⟨by repeat (first | (with_reducible first | exact HB.out | apply below_alloc | apply pw_below_drewN | apply below_drew1) | exact HB.out)⟩⟩
                              · rw [if_neg c25] at H
                                have c25b0 : (a0 == 5) = false := beq_eq_false_iff_ne.mpr c25
                                have c25b1 : (a0 != 5) = true := bne_iff_ne.mpr c25
                                by_cases c26 : a0 = 11
                                · rw [if_pos c26] at H
                                  have c26b0 : (a0 == 11) = true := beq_iff_eq.mpr c26
                                  have c26b1 : (a0 != 11) = false := bne_eq_false_iff_eq.mpr c26
                                  clear c26
                                  have H' := Aside0.mk H
                                  clear H
                                  go_wp2
                                  go_meet
                                  case rel => exact ⟨_, ((a0 == 11)), (by first | rfl | (simp; done) | (simp [*]; done)), H', ⟨by have := HJ1.out; have := HJ5.out; have := HJ14.out; first | omega | exact Nat.le_refl _⟩, ⟨by repeat (first | (with_reducible first | exact HB.out | apply below_alloc | apply pw_below_drewN | apply below_drew1) | exact HB.out)⟩⟩
                                · rw [if_neg c26] at H
                                  have c26b0 : (a0 == 11) = false := beq_eq_false_iff_ne.mpr c26
                                  have c26b1 : (a0 != 11) = true := bne_iff_ne.mpr c26
                                  by_cases c27 : a0 = 15
                                  · rw [if_pos c27] at H
                                    have c27b0 : (a0 == 15) = true := beq_iff_eq.mpr c27
                                    have c27b1 : (a0 != 15) = false := bne_eq_false_iff_eq.mpr c27
                                    clear c27
                                    have H' := Aside0.mk H
                                    clear H
                                    go_wp2
                                    go_meet
                                    case rel => exact ⟨_, ((a0 == 15)), (by first | rfl | (simp; done) | (simp [*]; done)), H', ⟨by have := HJ1.out; have := HJ5.out; have := HJ14.out; first | omega | exact Nat.le_refl _⟩, ⟨by repeat (first | (with_reducible first | exact HB.out | apply below_alloc | apply pw_below_drewN | apply below_drew1) | exact HB.out)⟩⟩
                                  · rw [if_neg c27] at H
                                    have c27b0 : (a0 == 15) = false := beq_eq_false_iff_ne.mpr c27
                                    have c27b1 : (a0 != 15) = true := bne_iff_ne.mpr c27
                                    by_cases c28 : a0 = 26
                                    · rw [if_pos c28] at H
                                      have c28b0 : (a0 == 26) = true := beq_iff_eq.mpr c28
                                      have c28b1 : (a0 != 26) = false := bne_eq_false_iff_eq.mpr c28
                                      clear c28
                                      have H' := Aside0.mk H
                                      clear H
                                      go_wp2
                                      go_meet
                                      case rel => exact ⟨_, ((a0 == 26)), (by first | rfl | (simp; done) | (simp [*]; done)), H', ⟨by have := HJ1.out; have := HJ5.out; have := HJ14.out; first | omega | exact Nat.le_refl _⟩, ⟨by repeat (first | (with_reducible first | exact HB.out | apply below_alloc | apply pw_below_drewN | apply below_drew1) | exact HB.out)⟩⟩
                                    · rw [if_neg c28] at H
                                      have c28b0 : (a0 == 26) = false := beq_eq_false_iff_ne.mpr c28
                                      have c28b1 : (a0 != 26) = true := bne_iff_ne.mpr c28
                                      by_cases c29 : a0 = 27
                                      · rw [if_pos c29] at H
                                        have c29b0 : (a0 == 27) = true := beq_iff_eq.mpr c29
                                        have c29b1 : (a0 != 27) = false := bne_eq_false_iff_eq.mpr c29
                                        clear c29
                                        have H' := Aside0.mk H
                                        clear H
                                        go_wp2
                                        go_meet
                                        case rel => exact ⟨_, ((a0 == 27)), (by first | rfl | (simp; done) | (simp [*]; done)), H', ⟨by have := HJ1.out; have := HJ5.out; have := HJ14.out; first | omega | exact Nat.le_refl _⟩, ⟨by repeat (first | (with_reducible first | exact HB.out | apply below_alloc | apply pw_below_drewN | apply below_drew1) | exact HB.out)⟩⟩
                                      · rw [if_neg c29] at H
                                        have c29b0 : (a0 == 27) = false := beq_eq_false_iff_ne.mpr c29
                                        have c29b1 : (a0 != 27) = true := bne_iff_ne.mpr c29
                                        by_cases c30 : a0 = 240
                                        · rw [if_pos c30] at H
                                          have c30b0 : (a0 == 240) = true := beq_iff_eq.mpr c30
                                          have c30b1 : (a0 != 240) = false := bne_eq_false_iff_eq.mpr c30
                                          clear c30
                                          have H' := Aside0.mk H
                                          clear H
                                          go_wp2
                                          go_meet
                                          case rel => exact ⟨_, ((a0 == 240)), (by first | rfl | (simp; done) | (simp [*]; done)), H', ⟨by have := HJ1.out; have := HJ5.out; have := HJ14.out; first | omega | exact Nat.le_refl _⟩, ⟨by repeat (first | (with_reducible first | exact HB.out | apply below_alloc | apply pw_below_drewN | apply below_drew1) | exact HB.out)⟩⟩
                                        · rw [if_neg c30] at H
                                          have c30b0 : (a0 == 240) = false := beq_eq_false_iff_ne.mpr c30
                                          have c30b1 : (a0 != 240) = true := bne_iff_ne.mpr c30
                                          have H' := Aside0.mk H
                                          clear H
                                          go_wp2
                                          go_meet
                                          case rel => exact ⟨_, ((a0 == 241)), (by first | rfl | (simp; done) | (simp [*]; done)), H', ⟨by have := HJ1.out; have := HJ5.out; have := HJ14.out; first | omega | exact Nat.le_refl _⟩, ⟨by repeat (first | (with_reducible first | exact HB.out | apply below_alloc | apply pw_below_drewN | apply below_drew1) | exact HB.out)⟩⟩
                        case rest =>
                          clear HC22
                          try clear c1
                          try clear c2
                          try clear p2
                          try clear c3
                          try clear c3b0
                          try clear c3b1
                          try clear c4
                          try clear c4b0
                          try clear c4b1
                          try clear c5
                          try clear c7
                          try clear c7b0
                          try clear c7b1
                          try clear c8
                          try clear c8b0
                          try clear c8b1
                          try clear c9
                          try clear c9b0
                          try clear c9b1
                          try clear c10
                          try clear c10b0
                          try clear c10b1
                          try clear c11
                          try clear c11b0
                          try clear c11b1
                          try clear c12
                          try clear c12b0
                          try clear c12b1
                          try clear c13
                          try clear c13b0
                          try clear c13b1
                          try clear c14
                          try clear c16
                          try clear c16b0
                          try clear c16b1
                          try clear c17
                          try clear c17b0
                          try clear c17b1
                          try clear c18
                          try clear c18b0
                          try clear c18b1
                          try clear c19
                          try clear c20
                          try clear c20b0
                          try clear c20b1
                          try clear c21
                          try clear c21b0
                          try clear c21b1
                          try clear c23
                          try clear c23b0
                          try clear c23b1
                          try clear c24
                          try clear c24b0
                          try clear c24b1
                          try clear c25
                          try clear c25b0
                          try clear c25b1
                          try clear c26
                          try clear c26b0
                          try clear c26b1
                          try clear c27
                          try clear c27b0
                          try clear c27b1
                          try clear c28
                          try clear c28b0
                          try clear c28b1
                          try clear c29
                          try clear c29b0
                          try clear c29b1
                          try clear c30
                          try clear c30b0
                          try clear c30b1
                          try clear p2
                          obtain ⟨kq, x30_21, rfl, HA, HJ21, HB⟩ := hcut
                          cases kq with
                          | zero => exact absurd HA.out (by simp [inst_Kind.j3])
                          | succ kj21 =>
                            have H := HA.out
                            clear HA
                            simp only [inst_Kind.j3] at H
                            by_cases c31 : x30_21 = true
                            · subst c31
                              have H1 : (some 1) = some r := by rw [if_pos rfl] at H; exact H
                              clear H
                              have H := H1
                              clear H1
                              obtain rfl := Option.some.inj H
                              go_wp2
                              go_ret
                              exact ⟨by first | rfl | (simp [errW_none, errW_some] <;> (first | rfl | grind)) | (simp [*, errW_none, errW_some] <;> rfl), by repeat (first | (with_reducible first | exact HB.out | apply below_alloc | apply pw_below_drewN | apply below_drew1) | exact HB.out)⟩
                            · replace c31 := Bool.eq_false_iff.mpr c31
                              subst c31
                              have H1 : ((word_Arity.f a0).bind fun bt101 => (if bt101.2.2.2 = true then (some 1) else (some 0))) = some r := by rw [if_neg (show ¬ (false = true) by decide)] at H; exact H
                              clear H
                              have H := H1
                              clear H1
                              replace H := Option.bind_eq_some_iff.mp H
                              obtain ⟨⟨t101, t102, t103, t104⟩, A320, H⟩ := H
                              replace H : (if t104 = true then (some 1) else (some 0)) = some r := H
                              have A32 := Aside0.mk A320
                              clear A320
                              by_cases c33 : t104 = true
                              · subst c33
                                have H1 : (some 1) = some r := by rw [if_pos rfl] at H; exact H
                                clear H
                                have H := H1
                                clear H1
                                obtain rfl := Option.some.inj H
                                go_wp2_with (first | ((with_reducible refine gate_callee (f := 24) rfl ?_); refine goesL_ (some 42) rfl rfl Try.func24 (by kernel_rfl) rfl #[.int .i64 a0] rfl (by (try simp only [List.map_toArray, List.map_cons, List.map_nil]); first | done | rfl | (simp only [List.length_drop, List.length_take]; rfl)) ?_; (with_reducible refine (word_Arity.calls a0 t101 t102 t103 true _ A32.out).mono ?_); rintro e w34 ⟨rfl, hb⟩; refine ⟨_, rfl, ?_⟩; have n0_ := Aside0.mk (below_step (by repeat (first | (with_reducible first | exact HB.out | apply below_alloc | apply pw_below_drewN | apply below_drew1) | exact HB.out)) hb); clear HB; have HB := n0_; clear n0_; (try clear hb); (try clear hb2); (try clear hk); (try clear hi)))
                                go_ret
                                exact ⟨by first | rfl | (simp [errW_none, errW_some] <;> (first | rfl | grind)) | (simp [*, errW_none, errW_some] <;> rfl), by repeat (first | (with_reducible first | exact HB.out | apply below_alloc | apply pw_below_drewN | apply below_drew1) | exact HB.out)⟩
                              · replace c33 := Bool.eq_false_iff.mpr c33
                                subst c33
                                have H1 : (some 0) = some r := by rw [if_neg (show ¬ (false = true) by decide)] at H; exact H
                                clear H
                                have H := H1
                                clear H1
                                obtain rfl := Option.some.inj H
                                go_wp2_with (first | ((with_reducible refine gate_callee (f := 24) rfl ?_); refine goesL_ (some 42) rfl rfl Try.func24 (by kernel_rfl) rfl #[.int .i64 a0] rfl (by (try simp only [List.map_toArray, List.map_cons, List.map_nil]); first | done | rfl | (simp only [List.length_drop, List.length_take]; rfl)) ?_; (with_reducible refine (word_Arity.calls a0 t101 t102 t103 false _ A32.out).mono ?_); rintro e w35 ⟨rfl, hb⟩; refine ⟨_, rfl, ?_⟩; have n0_ := Aside0.mk (below_step (by repeat (first | (with_reducible first | exact HB.out | apply below_alloc | apply pw_below_drewN | apply below_drew1) | exact HB.out)) hb); clear HB; have HB := n0_; clear n0_; (try clear hb); (try clear hb2); (try clear hk); (try clear hi)))
                                go_ret
                                exact ⟨by first | rfl | (simp [errW_none, errW_some] <;> (first | rfl | grind)) | (simp [*, errW_none, errW_some] <;> rfl), by repeat (first | (with_reducible first | exact HB.out | apply below_alloc | apply pw_below_drewN | apply below_drew1) | exact HB.out)⟩

end Go.Proofs.Ytgffcpoopnckkaa.MI

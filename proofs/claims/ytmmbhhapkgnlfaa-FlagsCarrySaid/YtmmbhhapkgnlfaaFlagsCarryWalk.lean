/- The carry of a sum says whether it is less than what was added to, without signs; the overflow whether its sign is unlike that of both: the walk of the law's own Go function. -/
import Derived.Test.YtmmbhhapkgnlfaaMSx4
import Derived.Test.YtmmbhhapkgnlfaaFlagsAluMS
import Derived.Deep.QuietTactic
import Derived.BigQuiet
import Derived.Outline
namespace Go.Proofs.Ytmmbhhapkgnlfaa.CarryWalk
open Go.RowKit Go.Proofs.Ytmmbhhapkgnlfaa.MS Go.Proofs.YtmmbhhapkgnlfaaW.PrintWords Go.Proofs.YtmmbhhapkgnlfaaW.PrintLast Go.Proofs.YtmmbhhapkgnlfaaW.PrintMore
attribute [local go_sem] max2_int min2_int max_two min_two max_three min_three max_four min_four
attribute [local go_sem high] eqA24
set_option linter.unusedVariables false
set_option linter.unusedSimpArgs false
theorem bel {w w1 w2 : World} (h1 : Aside0 (Below w.heap.size w w1)) (h2 : Below w1.heap.size w1 w2) : Aside0 (Below w.heap.size w w2) := ⟨below_step h1.out h2⟩
theorem old {W w1 : World} (hb : Below W.heap.size W w1) : (∀ b o, b < W.heap.size → w1.cell? ⟨b, o, none⟩ = W.cell? ⟨b, o, none⟩) ∧ (∀ b o, b < W.heap.size → w1.frozen? ⟨b, o, none⟩ = W.frozen? ⟨b, o, none⟩) :=
  ⟨fun b o h => hb.cell (p := ⟨b, o, none⟩) h, fun b o h => hb.frozen (p := ⟨b, o, none⟩) h⟩
set_option maxHeartbeats 8000000 in
set_option maxRecDepth 100000 in
theorem w_true_true_true (k : Nat) (a1 a2 x y v v2 : Int) (r s : Bool) (hp : (Go.bits .and .i64 (x / 9223372036854775808) 1 == 1) = true) (hq : (Go.bits .and .i64 (y / 9223372036854775808) 1 == 1) = true) (hr : (Go.bits .and .i64 (v / 9223372036854775808) 1 == 1) = r) (hs : (Go.bits .and .i64 (v2 / 9223372036854775808) 1 == 1) = s)
    (hex : Aside0 (oubliettelaw10_examples.f k = some true)) (hX : Aside0 (flags_Trim.f true a1 = some x)) (hY : Aside0 (flags_Trim.f true a2 = some y))
    (hA : Aside0 (flags_Alu.f k 0 true a1 a2 = some (v, (v == 0), r, decide (IntKind.u64.wrap v < IntKind.u64.wrap x), (!r), true)))
    (hS : Aside0 (flags_Alu.f k 5 true a1 a2 = some (v2, (v2 == 0), s, decide (IntKind.u64.wrap x < IntKind.u64.wrap y), false, true))) (w : World) :
    Calls Try.prog 7 #[.bool true, .int .i64 a1, .int .i64 a2] w fun e w' => e = .returned (.bool true) ∧ Below w.heap.size w w' := by
  have HB := Aside0.mk (Below.refl w.heap.size w)
  go_enter Try.func7, Try.ntmps7
  go_wp2_with (first
    | (go_at_call 12; (with_reducible refine (oubliettelaw10_examples.calls k true _ hex.out).mono ?_); rintro e w1 ⟨rfl, hb⟩; replace HB := bel HB hb; clear hb)
    | (go_at_call 13; (with_reducible refine (flags_Alu.calls k 0 _ a1 a2 _ _ _ _ _ _ _ hA.out).mono ?_); rintro e w2 ⟨rfl, hb⟩; obtain ⟨hc2, hf2⟩ := old hb; have HB2 := Aside0.mk hb; clear hb)
    | (go_at_call 13; (with_reducible refine (flags_Alu.calls k 5 _ a1 a2 _ _ _ _ _ _ _ hS.out).mono ?_); rintro e w3 ⟨rfl, hb3⟩; obtain ⟨hc3, hf3⟩ := old hb3; have hz3 : w2.heap.size < w3.heap.size := (by have := hb3.size; simp at this; omega); have HB3 := Aside0.mk hb3; clear hb3)
    | (go_at_call 15; (with_reducible refine (flags_Trim.calls _ a1 x _ hX.out).mono ?_); rintro e w4 ⟨rfl, ⟨nd1, rfl⟩⟩)
    | (go_at_call 15; (with_reducible refine (flags_Trim.calls _ a2 y _ hY.out).mono ?_); rintro e w5 ⟨rfl, ⟨nd2, rfl⟩⟩))
  go_ret
  have BF : Aside0 (Below w.heap.size w w3) := bel ⟨below_alloc (bel HB HB2.out).out _⟩ HB3.out
  exact ⟨by first | rfl | (simp; done), by repeat (first | exact BF.out | apply below_alloc | apply pw_below_drewN | apply below_drew1)⟩
set_option maxHeartbeats 8000000 in
set_option maxRecDepth 100000 in
theorem w_true_true_false (k : Nat) (a1 a2 x y v v2 : Int) (r s : Bool) (hp : (Go.bits .and .i64 (x / 9223372036854775808) 1 == 1) = true) (hq : (Go.bits .and .i64 (y / 9223372036854775808) 1 == 1) = false) (hr : (Go.bits .and .i64 (v / 9223372036854775808) 1 == 1) = r) (hs : (Go.bits .and .i64 (v2 / 9223372036854775808) 1 == 1) = s)
    (hex : Aside0 (oubliettelaw10_examples.f k = some true)) (hX : Aside0 (flags_Trim.f true a1 = some x)) (hY : Aside0 (flags_Trim.f true a2 = some y))
    (hA : Aside0 (flags_Alu.f k 0 true a1 a2 = some (v, (v == 0), r, decide (IntKind.u64.wrap v < IntKind.u64.wrap x), false, true)))
    (hS : Aside0 (flags_Alu.f k 5 true a1 a2 = some (v2, (v2 == 0), s, decide (IntKind.u64.wrap x < IntKind.u64.wrap y), (!s), true))) (w : World) :
    Calls Try.prog 7 #[.bool true, .int .i64 a1, .int .i64 a2] w fun e w' => e = .returned (.bool true) ∧ Below w.heap.size w w' := by
  have HB := Aside0.mk (Below.refl w.heap.size w)
  go_enter Try.func7, Try.ntmps7
  go_wp2_with (first
    | (go_at_call 12; (with_reducible refine (oubliettelaw10_examples.calls k true _ hex.out).mono ?_); rintro e w1 ⟨rfl, hb⟩; replace HB := bel HB hb; clear hb)
    | (go_at_call 13; (with_reducible refine (flags_Alu.calls k 0 _ a1 a2 _ _ _ _ _ _ _ hA.out).mono ?_); rintro e w2 ⟨rfl, hb⟩; obtain ⟨hc2, hf2⟩ := old hb; have HB2 := Aside0.mk hb; clear hb)
    | (go_at_call 13; (with_reducible refine (flags_Alu.calls k 5 _ a1 a2 _ _ _ _ _ _ _ hS.out).mono ?_); rintro e w3 ⟨rfl, hb3⟩; obtain ⟨hc3, hf3⟩ := old hb3; have hz3 : w2.heap.size < w3.heap.size := (by have := hb3.size; simp at this; omega); have HB3 := Aside0.mk hb3; clear hb3)
    | (go_at_call 15; (with_reducible refine (flags_Trim.calls _ a1 x _ hX.out).mono ?_); rintro e w4 ⟨rfl, ⟨nd1, rfl⟩⟩)
    | (go_at_call 15; (with_reducible refine (flags_Trim.calls _ a2 y _ hY.out).mono ?_); rintro e w5 ⟨rfl, ⟨nd2, rfl⟩⟩))
  go_ret
  have BF : Aside0 (Below w.heap.size w w3) := bel ⟨below_alloc (bel HB HB2.out).out _⟩ HB3.out
  exact ⟨by first | rfl | (simp; done), by repeat (first | exact BF.out | apply below_alloc | apply pw_below_drewN | apply below_drew1)⟩
set_option maxHeartbeats 8000000 in
set_option maxRecDepth 100000 in
theorem w_true_false_true (k : Nat) (a1 a2 x y v v2 : Int) (r s : Bool) (hp : (Go.bits .and .i64 (x / 9223372036854775808) 1 == 1) = false) (hq : (Go.bits .and .i64 (y / 9223372036854775808) 1 == 1) = true) (hr : (Go.bits .and .i64 (v / 9223372036854775808) 1 == 1) = r) (hs : (Go.bits .and .i64 (v2 / 9223372036854775808) 1 == 1) = s)
    (hex : Aside0 (oubliettelaw10_examples.f k = some true)) (hX : Aside0 (flags_Trim.f true a1 = some x)) (hY : Aside0 (flags_Trim.f true a2 = some y))
    (hA : Aside0 (flags_Alu.f k 0 true a1 a2 = some (v, (v == 0), r, decide (IntKind.u64.wrap v < IntKind.u64.wrap x), false, true)))
    (hS : Aside0 (flags_Alu.f k 5 true a1 a2 = some (v2, (v2 == 0), s, decide (IntKind.u64.wrap x < IntKind.u64.wrap y), s, true))) (w : World) :
    Calls Try.prog 7 #[.bool true, .int .i64 a1, .int .i64 a2] w fun e w' => e = .returned (.bool true) ∧ Below w.heap.size w w' := by
  have HB := Aside0.mk (Below.refl w.heap.size w)
  go_enter Try.func7, Try.ntmps7
  go_wp2_with (first
    | (go_at_call 12; (with_reducible refine (oubliettelaw10_examples.calls k true _ hex.out).mono ?_); rintro e w1 ⟨rfl, hb⟩; replace HB := bel HB hb; clear hb)
    | (go_at_call 13; (with_reducible refine (flags_Alu.calls k 0 _ a1 a2 _ _ _ _ _ _ _ hA.out).mono ?_); rintro e w2 ⟨rfl, hb⟩; obtain ⟨hc2, hf2⟩ := old hb; have HB2 := Aside0.mk hb; clear hb)
    | (go_at_call 13; (with_reducible refine (flags_Alu.calls k 5 _ a1 a2 _ _ _ _ _ _ _ hS.out).mono ?_); rintro e w3 ⟨rfl, hb3⟩; obtain ⟨hc3, hf3⟩ := old hb3; have hz3 : w2.heap.size < w3.heap.size := (by have := hb3.size; simp at this; omega); have HB3 := Aside0.mk hb3; clear hb3)
    | (go_at_call 15; (with_reducible refine (flags_Trim.calls _ a1 x _ hX.out).mono ?_); rintro e w4 ⟨rfl, ⟨nd1, rfl⟩⟩)
    | (go_at_call 15; (with_reducible refine (flags_Trim.calls _ a2 y _ hY.out).mono ?_); rintro e w5 ⟨rfl, ⟨nd2, rfl⟩⟩))
  go_ret
  have BF : Aside0 (Below w.heap.size w w3) := bel ⟨below_alloc (bel HB HB2.out).out _⟩ HB3.out
  exact ⟨by first | rfl | (simp; done), by repeat (first | exact BF.out | apply below_alloc | apply pw_below_drewN | apply below_drew1)⟩
set_option maxHeartbeats 8000000 in
set_option maxRecDepth 100000 in
theorem w_true_false_false (k : Nat) (a1 a2 x y v v2 : Int) (r s : Bool) (hp : (Go.bits .and .i64 (x / 9223372036854775808) 1 == 1) = false) (hq : (Go.bits .and .i64 (y / 9223372036854775808) 1 == 1) = false) (hr : (Go.bits .and .i64 (v / 9223372036854775808) 1 == 1) = r) (hs : (Go.bits .and .i64 (v2 / 9223372036854775808) 1 == 1) = s)
    (hex : Aside0 (oubliettelaw10_examples.f k = some true)) (hX : Aside0 (flags_Trim.f true a1 = some x)) (hY : Aside0 (flags_Trim.f true a2 = some y))
    (hA : Aside0 (flags_Alu.f k 0 true a1 a2 = some (v, (v == 0), r, decide (IntKind.u64.wrap v < IntKind.u64.wrap x), r, true)))
    (hS : Aside0 (flags_Alu.f k 5 true a1 a2 = some (v2, (v2 == 0), s, decide (IntKind.u64.wrap x < IntKind.u64.wrap y), false, true))) (w : World) :
    Calls Try.prog 7 #[.bool true, .int .i64 a1, .int .i64 a2] w fun e w' => e = .returned (.bool true) ∧ Below w.heap.size w w' := by
  have HB := Aside0.mk (Below.refl w.heap.size w)
  go_enter Try.func7, Try.ntmps7
  go_wp2_with (first
    | (go_at_call 12; (with_reducible refine (oubliettelaw10_examples.calls k true _ hex.out).mono ?_); rintro e w1 ⟨rfl, hb⟩; replace HB := bel HB hb; clear hb)
    | (go_at_call 13; (with_reducible refine (flags_Alu.calls k 0 _ a1 a2 _ _ _ _ _ _ _ hA.out).mono ?_); rintro e w2 ⟨rfl, hb⟩; obtain ⟨hc2, hf2⟩ := old hb; have HB2 := Aside0.mk hb; clear hb)
    | (go_at_call 13; (with_reducible refine (flags_Alu.calls k 5 _ a1 a2 _ _ _ _ _ _ _ hS.out).mono ?_); rintro e w3 ⟨rfl, hb3⟩; obtain ⟨hc3, hf3⟩ := old hb3; have hz3 : w2.heap.size < w3.heap.size := (by have := hb3.size; simp at this; omega); have HB3 := Aside0.mk hb3; clear hb3)
    | (go_at_call 15; (with_reducible refine (flags_Trim.calls _ a1 x _ hX.out).mono ?_); rintro e w4 ⟨rfl, ⟨nd1, rfl⟩⟩)
    | (go_at_call 15; (with_reducible refine (flags_Trim.calls _ a2 y _ hY.out).mono ?_); rintro e w5 ⟨rfl, ⟨nd2, rfl⟩⟩))
  go_ret
  have BF : Aside0 (Below w.heap.size w w3) := bel ⟨below_alloc (bel HB HB2.out).out _⟩ HB3.out
  exact ⟨by first | rfl | (simp; done), by repeat (first | exact BF.out | apply below_alloc | apply pw_below_drewN | apply below_drew1)⟩
set_option maxHeartbeats 8000000 in
set_option maxRecDepth 100000 in
theorem w_false_true_true (k : Nat) (a1 a2 x y v v2 : Int) (r s : Bool) (hp : (Go.bits .and .i64 (x / 2147483648) 1 == 1) = true) (hq : (Go.bits .and .i64 (y / 2147483648) 1 == 1) = true) (hr : (Go.bits .and .i64 (v / 2147483648) 1 == 1) = r) (hs : (Go.bits .and .i64 (v2 / 2147483648) 1 == 1) = s)
    (hex : Aside0 (oubliettelaw10_examples.f k = some true)) (hX : Aside0 (flags_Trim.f false a1 = some x)) (hY : Aside0 (flags_Trim.f false a2 = some y))
    (hA : Aside0 (flags_Alu.f k 0 false a1 a2 = some (v, (v == 0), r, decide (IntKind.u64.wrap v < IntKind.u64.wrap x), (!r), true)))
    (hS : Aside0 (flags_Alu.f k 5 false a1 a2 = some (v2, (v2 == 0), s, decide (IntKind.u64.wrap x < IntKind.u64.wrap y), false, true))) (w : World) :
    Calls Try.prog 7 #[.bool false, .int .i64 a1, .int .i64 a2] w fun e w' => e = .returned (.bool true) ∧ Below w.heap.size w w' := by
  have HB := Aside0.mk (Below.refl w.heap.size w)
  go_enter Try.func7, Try.ntmps7
  go_wp2_with (first
    | (go_at_call 12; (with_reducible refine (oubliettelaw10_examples.calls k true _ hex.out).mono ?_); rintro e w1 ⟨rfl, hb⟩; replace HB := bel HB hb; clear hb)
    | (go_at_call 13; (with_reducible refine (flags_Alu.calls k 0 _ a1 a2 _ _ _ _ _ _ _ hA.out).mono ?_); rintro e w2 ⟨rfl, hb⟩; obtain ⟨hc2, hf2⟩ := old hb; have HB2 := Aside0.mk hb; clear hb)
    | (go_at_call 13; (with_reducible refine (flags_Alu.calls k 5 _ a1 a2 _ _ _ _ _ _ _ hS.out).mono ?_); rintro e w3 ⟨rfl, hb3⟩; obtain ⟨hc3, hf3⟩ := old hb3; have hz3 : w2.heap.size < w3.heap.size := (by have := hb3.size; simp at this; omega); have HB3 := Aside0.mk hb3; clear hb3)
    | (go_at_call 15; (with_reducible refine (flags_Trim.calls _ a1 x _ hX.out).mono ?_); rintro e w4 ⟨rfl, ⟨nd1, rfl⟩⟩)
    | (go_at_call 15; (with_reducible refine (flags_Trim.calls _ a2 y _ hY.out).mono ?_); rintro e w5 ⟨rfl, ⟨nd2, rfl⟩⟩))
  go_ret
  have BF : Aside0 (Below w.heap.size w w3) := bel ⟨below_alloc (bel HB HB2.out).out _⟩ HB3.out
  exact ⟨by first | rfl | (simp; done), by repeat (first | exact BF.out | apply below_alloc | apply pw_below_drewN | apply below_drew1)⟩
set_option maxHeartbeats 8000000 in
set_option maxRecDepth 100000 in
theorem w_false_true_false (k : Nat) (a1 a2 x y v v2 : Int) (r s : Bool) (hp : (Go.bits .and .i64 (x / 2147483648) 1 == 1) = true) (hq : (Go.bits .and .i64 (y / 2147483648) 1 == 1) = false) (hr : (Go.bits .and .i64 (v / 2147483648) 1 == 1) = r) (hs : (Go.bits .and .i64 (v2 / 2147483648) 1 == 1) = s)
    (hex : Aside0 (oubliettelaw10_examples.f k = some true)) (hX : Aside0 (flags_Trim.f false a1 = some x)) (hY : Aside0 (flags_Trim.f false a2 = some y))
    (hA : Aside0 (flags_Alu.f k 0 false a1 a2 = some (v, (v == 0), r, decide (IntKind.u64.wrap v < IntKind.u64.wrap x), false, true)))
    (hS : Aside0 (flags_Alu.f k 5 false a1 a2 = some (v2, (v2 == 0), s, decide (IntKind.u64.wrap x < IntKind.u64.wrap y), (!s), true))) (w : World) :
    Calls Try.prog 7 #[.bool false, .int .i64 a1, .int .i64 a2] w fun e w' => e = .returned (.bool true) ∧ Below w.heap.size w w' := by
  have HB := Aside0.mk (Below.refl w.heap.size w)
  go_enter Try.func7, Try.ntmps7
  go_wp2_with (first
    | (go_at_call 12; (with_reducible refine (oubliettelaw10_examples.calls k true _ hex.out).mono ?_); rintro e w1 ⟨rfl, hb⟩; replace HB := bel HB hb; clear hb)
    | (go_at_call 13; (with_reducible refine (flags_Alu.calls k 0 _ a1 a2 _ _ _ _ _ _ _ hA.out).mono ?_); rintro e w2 ⟨rfl, hb⟩; obtain ⟨hc2, hf2⟩ := old hb; have HB2 := Aside0.mk hb; clear hb)
    | (go_at_call 13; (with_reducible refine (flags_Alu.calls k 5 _ a1 a2 _ _ _ _ _ _ _ hS.out).mono ?_); rintro e w3 ⟨rfl, hb3⟩; obtain ⟨hc3, hf3⟩ := old hb3; have hz3 : w2.heap.size < w3.heap.size := (by have := hb3.size; simp at this; omega); have HB3 := Aside0.mk hb3; clear hb3)
    | (go_at_call 15; (with_reducible refine (flags_Trim.calls _ a1 x _ hX.out).mono ?_); rintro e w4 ⟨rfl, ⟨nd1, rfl⟩⟩)
    | (go_at_call 15; (with_reducible refine (flags_Trim.calls _ a2 y _ hY.out).mono ?_); rintro e w5 ⟨rfl, ⟨nd2, rfl⟩⟩))
  go_ret
  have BF : Aside0 (Below w.heap.size w w3) := bel ⟨below_alloc (bel HB HB2.out).out _⟩ HB3.out
  exact ⟨by first | rfl | (simp; done), by repeat (first | exact BF.out | apply below_alloc | apply pw_below_drewN | apply below_drew1)⟩
set_option maxHeartbeats 8000000 in
set_option maxRecDepth 100000 in
theorem w_false_false_true (k : Nat) (a1 a2 x y v v2 : Int) (r s : Bool) (hp : (Go.bits .and .i64 (x / 2147483648) 1 == 1) = false) (hq : (Go.bits .and .i64 (y / 2147483648) 1 == 1) = true) (hr : (Go.bits .and .i64 (v / 2147483648) 1 == 1) = r) (hs : (Go.bits .and .i64 (v2 / 2147483648) 1 == 1) = s)
    (hex : Aside0 (oubliettelaw10_examples.f k = some true)) (hX : Aside0 (flags_Trim.f false a1 = some x)) (hY : Aside0 (flags_Trim.f false a2 = some y))
    (hA : Aside0 (flags_Alu.f k 0 false a1 a2 = some (v, (v == 0), r, decide (IntKind.u64.wrap v < IntKind.u64.wrap x), false, true)))
    (hS : Aside0 (flags_Alu.f k 5 false a1 a2 = some (v2, (v2 == 0), s, decide (IntKind.u64.wrap x < IntKind.u64.wrap y), s, true))) (w : World) :
    Calls Try.prog 7 #[.bool false, .int .i64 a1, .int .i64 a2] w fun e w' => e = .returned (.bool true) ∧ Below w.heap.size w w' := by
  have HB := Aside0.mk (Below.refl w.heap.size w)
  go_enter Try.func7, Try.ntmps7
  go_wp2_with (first
    | (go_at_call 12; (with_reducible refine (oubliettelaw10_examples.calls k true _ hex.out).mono ?_); rintro e w1 ⟨rfl, hb⟩; replace HB := bel HB hb; clear hb)
    | (go_at_call 13; (with_reducible refine (flags_Alu.calls k 0 _ a1 a2 _ _ _ _ _ _ _ hA.out).mono ?_); rintro e w2 ⟨rfl, hb⟩; obtain ⟨hc2, hf2⟩ := old hb; have HB2 := Aside0.mk hb; clear hb)
    | (go_at_call 13; (with_reducible refine (flags_Alu.calls k 5 _ a1 a2 _ _ _ _ _ _ _ hS.out).mono ?_); rintro e w3 ⟨rfl, hb3⟩; obtain ⟨hc3, hf3⟩ := old hb3; have hz3 : w2.heap.size < w3.heap.size := (by have := hb3.size; simp at this; omega); have HB3 := Aside0.mk hb3; clear hb3)
    | (go_at_call 15; (with_reducible refine (flags_Trim.calls _ a1 x _ hX.out).mono ?_); rintro e w4 ⟨rfl, ⟨nd1, rfl⟩⟩)
    | (go_at_call 15; (with_reducible refine (flags_Trim.calls _ a2 y _ hY.out).mono ?_); rintro e w5 ⟨rfl, ⟨nd2, rfl⟩⟩))
  go_ret
  have BF : Aside0 (Below w.heap.size w w3) := bel ⟨below_alloc (bel HB HB2.out).out _⟩ HB3.out
  exact ⟨by first | rfl | (simp; done), by repeat (first | exact BF.out | apply below_alloc | apply pw_below_drewN | apply below_drew1)⟩
set_option maxHeartbeats 8000000 in
set_option maxRecDepth 100000 in
theorem w_false_false_false (k : Nat) (a1 a2 x y v v2 : Int) (r s : Bool) (hp : (Go.bits .and .i64 (x / 2147483648) 1 == 1) = false) (hq : (Go.bits .and .i64 (y / 2147483648) 1 == 1) = false) (hr : (Go.bits .and .i64 (v / 2147483648) 1 == 1) = r) (hs : (Go.bits .and .i64 (v2 / 2147483648) 1 == 1) = s)
    (hex : Aside0 (oubliettelaw10_examples.f k = some true)) (hX : Aside0 (flags_Trim.f false a1 = some x)) (hY : Aside0 (flags_Trim.f false a2 = some y))
    (hA : Aside0 (flags_Alu.f k 0 false a1 a2 = some (v, (v == 0), r, decide (IntKind.u64.wrap v < IntKind.u64.wrap x), r, true)))
    (hS : Aside0 (flags_Alu.f k 5 false a1 a2 = some (v2, (v2 == 0), s, decide (IntKind.u64.wrap x < IntKind.u64.wrap y), false, true))) (w : World) :
    Calls Try.prog 7 #[.bool false, .int .i64 a1, .int .i64 a2] w fun e w' => e = .returned (.bool true) ∧ Below w.heap.size w w' := by
  have HB := Aside0.mk (Below.refl w.heap.size w)
  go_enter Try.func7, Try.ntmps7
  go_wp2_with (first
    | (go_at_call 12; (with_reducible refine (oubliettelaw10_examples.calls k true _ hex.out).mono ?_); rintro e w1 ⟨rfl, hb⟩; replace HB := bel HB hb; clear hb)
    | (go_at_call 13; (with_reducible refine (flags_Alu.calls k 0 _ a1 a2 _ _ _ _ _ _ _ hA.out).mono ?_); rintro e w2 ⟨rfl, hb⟩; obtain ⟨hc2, hf2⟩ := old hb; have HB2 := Aside0.mk hb; clear hb)
    | (go_at_call 13; (with_reducible refine (flags_Alu.calls k 5 _ a1 a2 _ _ _ _ _ _ _ hS.out).mono ?_); rintro e w3 ⟨rfl, hb3⟩; obtain ⟨hc3, hf3⟩ := old hb3; have hz3 : w2.heap.size < w3.heap.size := (by have := hb3.size; simp at this; omega); have HB3 := Aside0.mk hb3; clear hb3)
    | (go_at_call 15; (with_reducible refine (flags_Trim.calls _ a1 x _ hX.out).mono ?_); rintro e w4 ⟨rfl, ⟨nd1, rfl⟩⟩)
    | (go_at_call 15; (with_reducible refine (flags_Trim.calls _ a2 y _ hY.out).mono ?_); rintro e w5 ⟨rfl, ⟨nd2, rfl⟩⟩))
  go_ret
  have BF : Aside0 (Below w.heap.size w w3) := bel ⟨below_alloc (bel HB HB2.out).out _⟩ HB3.out
  exact ⟨by first | rfl | (simp; done), by repeat (first | exact BF.out | apply below_alloc | apply pw_below_drewN | apply below_drew1)⟩
end Go.Proofs.Ytmmbhhapkgnlfaa.CarryWalk

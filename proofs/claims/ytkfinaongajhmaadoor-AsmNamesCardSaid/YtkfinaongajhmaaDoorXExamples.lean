/- The examples of chapter 11: what the law's examples compute. -/
import Derived.Test.YtkfinaongajhmaaDoorXDecode
namespace Go.Proofs.YtkfinaongajhmaaDoor.X
open Go.Ob Go.Ob.Xc Go.RowKit Go.Proofs.YtkfinaongajhmaaDoorW.PrintWords Go.Proofs.YtkfinaongajhmaaDoorW.PrintMore
attribute [local go_sem] max2_int min2_int max_two min_two
set_option linter.unusedVariables false
set_option linter.unusedSimpArgs false
theorem ex1 : strOfNums (enc ⟨1, true, 0, 3, 0, 0, 0⟩) = ⟨#[72, 137, 195]⟩ := by decide +kernel
theorem ex2 : strOfNums (enc ⟨4, true, 0, 4, 0, 5, 16⟩) = ⟨#[72, 129, 236, 16, 0, 0, 0]⟩ := by decide +kernel
theorem ex3 : strOfNums (enc ⟨11, false, 0, 15, 0, 0, 8⟩) = ⟨#[65, 139, 132, 39, 8, 0, 0, 0]⟩ := by decide +kernel
theorem ex4 : decA (bl ⟨#[195, 195]⟩) = .tuple #[xv ⟨20, false, 0, 0, 0, 0, 0⟩, .int .i64 1, .int .i64 0] := by
  have e : bl ⟨#[195, 195]⟩ = enc ⟨20, false, 0, 0, 0, 0, 0⟩ ++ [195] := by decide +kernel
  unfold decA
  rw [e, dec_enc _ _ (by decide) (by decide)]
  rfl
set_option maxHeartbeats 16000000 in
set_option maxRecDepth 100000 in
theorem Examples (w : World) (ht : Tab w) :
    Calls Tryd.prog 15 #[] w fun e w' => e = .returned (.bool true) ∧ Below w.heap.size w w' := by
  have E1 : ∀ W, Tab W → Calls Tryd.prog 16 #[.agg #[.int .i64 1, .bool true, .int .i64 0, .int .i64 3, .int .i64 0, .int .i64 0, .int .i64 0]] W fun e w' => e = .returned (.tuple #[.string ⟨#[72, 137, 195]⟩, .int .i64 0]) ∧ Below W.heap.size W w' := fun W h => by
    have h2 := Encode_ok ⟨1, true, 0, 3, 0, 0, 0⟩ W (by decide) h (by decide)
    rw [ex1] at h2
    exact h2
  have E2 : ∀ W, Tab W → Calls Tryd.prog 16 #[.agg #[.int .i64 4, .bool true, .int .i64 0, .int .i64 4, .int .i64 0, .int .i64 5, .int .i64 16]] W fun e w' => e = .returned (.tuple #[.string ⟨#[72, 129, 236, 16, 0, 0, 0]⟩, .int .i64 0]) ∧ Below W.heap.size W w' := fun W h => by
    have h2 := Encode_ok ⟨4, true, 0, 4, 0, 5, 16⟩ W (by decide) h (by decide)
    rw [ex2] at h2
    exact h2
  have E3 : ∀ W, Tab W → Calls Tryd.prog 16 #[.agg #[.int .i64 11, .bool false, .int .i64 0, .int .i64 15, .int .i64 0, .int .i64 0, .int .i64 8]] W fun e w' => e = .returned (.tuple #[.string ⟨#[65, 139, 132, 39, 8, 0, 0, 0]⟩, .int .i64 0]) ∧ Below W.heap.size W w' := fun W h => by
    have h2 := Encode_ok ⟨11, false, 0, 15, 0, 0, 8⟩ W (by decide) h (by decide)
    rw [ex3] at h2
    exact h2
  have D1 : ∀ W, Tab W → Calls Tryd.prog 20 #[.string ⟨#[195, 195]⟩] W fun e w' => e = .returned (.tuple #[.agg #[.int .i64 20, .bool false, .int .i64 0, .int .i64 0, .int .i64 0, .int .i64 0, .int .i64 0], .int .i64 1, .int .i64 0]) ∧ Below W.heap.size W w' := fun W h => by
    have h2 := Decode ⟨#[195, 195]⟩ W h (by decide)
    rw [ex4] at h2
    exact h2
  have HC := Aside0.mk (And.intro E1 (And.intro E2 (And.intro E3 D1)))
  have HT := Aside0.mk ht
  clear E1 E2 E3 D1 ht
  go_enter Tryd.func15, Tryd.ntmps15
  go_upto_region 2 with (go_at_call 16; (with_reducible refine (HC.out.1 _ HT.out).mono ?_); rintro e w1 ⟨rfl, hb⟩; have H1 := Aside0.mk (And.intro (HT.out.below hb) hb); clear hb)
  go_upto_region 3 with (go_at_call 16; (with_reducible refine (HC.out.2.1 _ H1.out.1).mono ?_); rintro e w2 ⟨rfl, hb⟩; have H2 := Aside0.mk (And.intro (H1.out.1.below hb) (H1.out.2.trans (hb.mono H1.out.2.size))); clear hb)
  go_upto_region 4 with (go_at_call 16; (with_reducible refine (HC.out.2.2.1 _ H2.out.1).mono ?_); rintro e w3 ⟨rfl, hb⟩; have H3 := Aside0.mk (And.intro (H2.out.1.below hb) (H2.out.2.trans (hb.mono H2.out.2.size))); clear hb)
  go_upto_region 5 with (go_at_call 20; (with_reducible refine (HC.out.2.2.2 _ H3.out.1).mono ?_); rintro e w4 ⟨rfl, hb⟩; have H4 := Aside0.mk (H3.out.2.trans (hb.mono H3.out.2.size)); clear hb)
  have hq : ∀ W, (Op.equalIn 10000 23 (.agg #[.int .i64 20, .bool false, .int .i64 0, .int .i64 0, .int .i64 0, .int .i64 0, .int .i64 0]) (.agg #[.int .i64 20, .bool false, .int .i64 0, .int .i64 0, .int .i64 0, .int .i64 0, .int .i64 0])).run Tryd.prog W = .ok true W := fun W => eqx ⟨20, false, 0, 0, 0, 0, 0⟩ ⟨20, false, 0, 0, 0, 0, 0⟩ W
  go_wp2
  go_ret
  exact ⟨rfl, below_alloc H4.out _⟩
end Go.Proofs.YtkfinaongajhmaaDoor.X

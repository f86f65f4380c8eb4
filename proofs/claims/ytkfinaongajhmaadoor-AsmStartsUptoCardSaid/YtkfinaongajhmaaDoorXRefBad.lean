/- The reference's Right of chapter 11: what it computes. No condition but the numbers' bounds. -/
import Derived.Test.YtkfinaongajhmaaDoorXRefRight
import Derived.Test.YtkfinaongajhmaaDoorXRight
namespace Go.Proofs.YtkfinaongajhmaaDoor.X
open Go.Ob Go.Ob.Xc Go.RowKit Go.Proofs.YtkfinaongajhmaaDoorW.PrintWords Go.Proofs.YtkfinaongajhmaaDoorW.PrintMore
attribute [local go_sem] max2_int min2_int max_two min_two
set_option linter.unusedVariables false
set_option linter.unusedSimpArgs false
set_option maxHeartbeats 16000000 in
set_option maxRecDepth 100000 in
/-- an operand that may not be: whatever the kind -/
theorem RRightBad (x : XI) (w : World) (v0 v1 v2 v3 v4 v5 v6 ok : Bool) (hF : ∀ W, Calls Tryd.prog 41 #[.int .i64 x.op] W fun e w' => e = .returned (.tuple #[.agg #[.bool v0, .bool v1, .bool v2, .bool v3, .bool v4, .bool v5, .bool v6], .bool ok]) ∧ Below W.heap.size W w')
    (h : ok = false ∨ x.r < 0 ∨ (0 ≤ x.r ∧ 15 < x.r) ∨ ((0 ≤ x.r ∧ x.r ≤ 15) ∧ x.b < 0) ∨ ((0 ≤ x.r ∧ x.r ≤ 15) ∧ 0 ≤ x.b ∧ 15 < x.b) ∨ ((0 ≤ x.r ∧ x.r ≤ 15) ∧ (0 ≤ x.b ∧ x.b ≤ 15) ∧ x.i < 0) ∨ ((0 ≤ x.r ∧ x.r ≤ 15) ∧ (0 ≤ x.b ∧ x.b ≤ 15) ∧ 0 ≤ x.i ∧ 16 < x.i) ∨ ((0 ≤ x.r ∧ x.r ≤ 15) ∧ (0 ≤ x.b ∧ x.b ≤ 15) ∧ x.i = 5)) :
    Calls Tryd.prog 19 #[xv x] w fun e w' => e = .returned (.bool false) ∧ Below w.heap.size w w' := by
  have HF := Aside0.mk hF
  clear hF
  obtain ⟨o, wd, r, b, i, c, n⟩ := x
  dsimp only at h HF
  cases ok
  · clear h
    go_enter Tryd.func19, Tryd.ntmps19
    go_wp2_with (go_at_call 41; (with_reducible refine (HF.out _).mono ?_); rintro e w1 ⟨rfl, hb⟩; have q := bcell hb; rw [World.size_alloc] at q; have l1 : w.heap.size < w1.heap.size := (by have := hb.size; simp at this; omega); have H1 := Aside0.mk hb; clear hb; obtain ⟨q1, q2⟩ := q)
    go_ret
    exact ⟨rfl, below_alloc ((below_alloc (Below.refl w.heap.size w) _).trans (H1.out.mono (by simp))) _⟩
  · rcases h with h | h | ⟨h0, h1⟩ | ⟨⟨h0, h1⟩, h2⟩ | ⟨⟨h0, h1⟩, h2, h3⟩ | ⟨⟨h0, h1⟩, ⟨h2, h3⟩, h4⟩ | ⟨⟨h0, h1⟩, ⟨h2, h3⟩, h4, h5⟩ | ⟨⟨h0, h1⟩, ⟨h2, h3⟩, rfl⟩
    · cases h
    all_goals
      go_enter Tryd.func19, Tryd.ntmps19
      go_wp2_with (go_at_call 41; (with_reducible refine (HF.out _).mono ?_); rintro e w1 ⟨rfl, hb⟩; have q := bcell hb; rw [World.size_alloc] at q; have l1 : w.heap.size < w1.heap.size := (by have := hb.size; simp at this; omega); have H1 := Aside0.mk hb; clear hb; obtain ⟨q1, q2⟩ := q)
      go_ret
      exact ⟨rfl, below_alloc ((below_alloc (Below.refl w.heap.size w) _).trans (H1.out.mono (by simp))) _⟩
end Go.Proofs.YtkfinaongajhmaaDoor.X

/- The assembler's length of an item: what the program's function computes. -/
import Derived.Test.YtkfinaongajhmaaDoorAMath
import Derived.Test.YtkfinaongajhmaaDoorXWays
namespace Go.Proofs.YtkfinaongajhmaaDoor.X
open Go.Ob Go.Ob.Xc Go.RowKit Go.Proofs.YtkfinaongajhmaaDoorW.PrintWords Go.Proofs.YtkfinaongajhmaaDoorW.PrintMore
attribute [local go_sem] max2_int min2_int max_two min_two
set_option linter.unusedVariables false
set_option linter.unusedSimpArgs false
/-- an item, as a value -/
abbrev tv (t : It) : Value := .agg #[.int .i64 t.x.op, .bool t.x.wide, .int .i64 t.x.r, .int .i64 t.x.b, .int .i64 t.x.i, .int .i64 t.x.c, .int .i64 t.x.n, .int .i64 t.lab, .int .i64 t.to]
abbrev to_ (t : It) : Obj := .cells #[.int .i64 t.x.op, .bool t.x.wide, .int .i64 t.x.r, .int .i64 t.x.b, .int .i64 t.x.i, .int .i64 t.x.c, .int .i64 t.x.n, .int .i64 t.lab, .int .i64 t.to] 56
def eqT (a b : It) : Bool := eqX a.x b.x && (a.lab == b.lab && a.to == b.to)
theorem eqT_iff (a b : It) : eqT a b = true ↔ a = b := by
  unfold eqT
  simp only [Bool.and_eq_true, beq_iff_eq, eqX_iff]
  cases a; cases b
  simp
set_option maxRecDepth 100000 in
theorem eqx9 (x y : XI) (W : World) : (Op.equalIn 9999 23 (xv x) (xv y)).run Tryd.prog W = .ok (eqX x y) W := by
  refine eqA_of Tryd.underlying23 (by kernel_rfl) ?_
  refine eqf_cons (by rfl) (by go_simp; rfl) (by go_simp; rfl) (by go_simp) ?_
  refine eqf_cons (by rfl) (by go_simp; rfl) (by go_simp; rfl) (by go_simp) ?_
  refine eqf_cons (by rfl) (by go_simp; rfl) (by go_simp; rfl) (by go_simp) ?_
  refine eqf_cons (by rfl) (by go_simp; rfl) (by go_simp; rfl) (by go_simp) ?_
  refine eqf_cons (by rfl) (by go_simp; rfl) (by go_simp; rfl) (by go_simp) ?_
  refine eqf_cons (by rfl) (by go_simp; rfl) (by go_simp; rfl) (by go_simp) ?_
  exact eqf_last (by rfl) (by go_simp; rfl) (by go_simp; rfl) (by go_simp)
set_option maxRecDepth 100000 in
theorem eqt (a b : It) (W : World) : (Op.equalIn 10000 56 (tv a) (tv b)).run Tryd.prog W = .ok (eqT a b) W := by
  refine eqA_of Tryd.underlying56 (by kernel_rfl) ?_
  refine eqf_cons (a := xv a.x) (b := xv b.x) (by rfl) (by go_simp) (by go_simp) (eqx9 a.x b.x W) ?_
  refine eqf_cons (by rfl) (by go_simp; rfl) (by go_simp; rfl) (by go_simp) ?_
  exact eqf_last (by rfl) (by go_simp; rfl) (by go_simp; rfl) (by go_simp)
/-- what the program's length answers -/
def lenA (t : It) : Value := .tuple #[.int .i64 ((lenI t).getD 0 : Nat), .bool (lenI t).isSome]
theorem cell9 {W : World} {g : Nat} {a0 a1 a2 a3 a4 a5 a6 a7 a8 : Value} {t : TypeId} (h : W.heap[g]? = some (.cells #[a0, a1, a2, a3, a4, a5, a6, a7, a8] t (0, 0))) :
    (W.cell? ⟨g, 0, none⟩ = some a0 ∧ W.cell? ⟨g, 1, none⟩ = some a1 ∧ W.cell? ⟨g, 2, none⟩ = some a2 ∧ W.cell? ⟨g, 3, none⟩ = some a3 ∧ W.cell? ⟨g, 4, none⟩ = some a4 ∧ W.cell? ⟨g, 5, none⟩ = some a5 ∧ W.cell? ⟨g, 6, none⟩ = some a6 ∧ W.cell? ⟨g, 7, none⟩ = some a7 ∧ W.cell? ⟨g, 8, none⟩ = some a8) :=
  ⟨by simpa using blk_cell h 0, by simpa using blk_cell h 1, by simpa using blk_cell h 2, by simpa using blk_cell h 3, by simpa using blk_cell h 4, by simpa using blk_cell h 5, by simpa using blk_cell h 6, by simpa using blk_cell h 7, by simpa using blk_cell h 8⟩
theorem len_of {t : It} {k : Nat} {ok : Bool} (h : (lenI t).getD 0 = k ∧ (lenI t).isSome = ok) : lenA t = .tuple #[.int .i64 k, .bool ok] := by
  unfold lenA
  rw [h.1, h.2]
set_option maxHeartbeats 16000000 in
set_option maxRecDepth 100000 in
/-- a jump, or none, that may not be -/
theorem LenBad (t : It) (w : World) (h : ¬ toOk t) : Calls Tryd.prog 53 #[tv t] w fun e w' => e = .returned (lenA t) ∧ Below w.heap.size w w' := by
  rw [len_of (t := t) (k := 0) (ok := false) (by unfold lenI; rw [if_neg h]; exact ⟨rfl, rfl⟩)]
  obtain ⟨⟨o, wd, r, b, i, c, n⟩, lab, jt⟩ := t
  have hc : ((o = 17 ∨ o = 18 ∨ o = 19) ∧ jt < 0) ∨ ((o = 17 ∨ o = 18 ∨ o = 19) ∧ 0 < jt ∧ ¬ n = 0) ∨ ((¬ o = 17 ∧ ¬ o = 18 ∧ ¬ o = 19) ∧ ¬ jt = 0) := by
    unfold toOk isJ at h
    dsimp only at h
    omega
  clear h
  rcases hc with ⟨rfl | rfl | rfl, h1⟩ | ⟨rfl | rfl | rfl, h1, h2⟩ | ⟨⟨h0, h1, h2⟩, h3⟩
  all_goals
    try (have e1 : (o == 17) = false := beq_eq_false_iff_ne.mpr h0)
    try (have e2 : (o == 18) = false := beq_eq_false_iff_ne.mpr h1)
    try (have e3 : (o == 19) = false := beq_eq_false_iff_ne.mpr h2)
    try (have e4 : (n != 0) = true := bne_iff_ne.mpr h2)
    try (have e5 : (jt != 0) = true := bne_iff_ne.mpr h3)
    go_enter Tryd.func53, Tryd.ntmps53
    go_wp2
    go_ret2
    exact ⟨rfl, below_alloc (Below.refl _ _) _⟩
end Go.Proofs.YtkfinaongajhmaaDoor.X

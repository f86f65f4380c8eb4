/- The reference's Right of chapter 11: what it computes. No condition but the numbers' bounds. -/
import Derived.Test.YtkfinaongajhmaaDoorXRefA
namespace Go.Proofs.YtkfinaongajhmaaDoor.X
open Go.Ob Go.Ob.Xc Go.RowKit Go.Proofs.YtkfinaongajhmaaDoorW.PrintWords Go.Proofs.YtkfinaongajhmaaDoorW.PrintMore
attribute [local go_sem] max2_int min2_int max_two min_two
set_option linter.unusedVariables false
set_option linter.unusedSimpArgs false
theorem rf_1 (w : World) : Calls Tryd.prog 41 #[.int .i64 1] w fun e w' => e = .returned (.tuple #[.agg #[.bool true, .bool true, .bool false, .bool false, .bool false, .bool true, .bool true], .bool true]) ∧ Below w.heap.size w w' := by
  go_enter Tryd.func41, Tryd.ntmps41
  go_wp2
  exact bodyPost_ret (v := .tuple #[.agg #[.bool true, .bool true, .bool false, .bool false, .bool false, .bool true, .bool true], .bool true]) (by simp [results, Tryd.results41, go_sem]) rfl ⟨rfl, below_alloc (Below.refl _ _) _⟩
theorem rf_2 (w : World) : Calls Tryd.prog 41 #[.int .i64 2] w fun e w' => e = .returned (.tuple #[.agg #[.bool true, .bool false, .bool false, .bool false, .bool true, .bool false, .bool true], .bool true]) ∧ Below w.heap.size w w' := by
  go_enter Tryd.func41, Tryd.ntmps41
  go_wp2
  exact bodyPost_ret (v := .tuple #[.agg #[.bool true, .bool false, .bool false, .bool false, .bool true, .bool false, .bool true], .bool true]) (by simp [results, Tryd.results41, go_sem]) rfl ⟨rfl, below_alloc (Below.refl _ _) _⟩
theorem rf_3 (w : World) : Calls Tryd.prog 41 #[.int .i64 3] w fun e w' => e = .returned (.tuple #[.agg #[.bool true, .bool true, .bool false, .bool true, .bool false, .bool true, .bool true], .bool true]) ∧ Below w.heap.size w w' := by
  go_enter Tryd.func41, Tryd.ntmps41
  go_wp2
  exact bodyPost_ret (v := .tuple #[.agg #[.bool true, .bool true, .bool false, .bool true, .bool false, .bool true, .bool true], .bool true]) (by simp [results, Tryd.results41, go_sem]) rfl ⟨rfl, below_alloc (Below.refl _ _) _⟩
theorem rf_4 (w : World) : Calls Tryd.prog 41 #[.int .i64 4] w fun e w' => e = .returned (.tuple #[.agg #[.bool false, .bool true, .bool false, .bool true, .bool true, .bool true, .bool true], .bool true]) ∧ Below w.heap.size w w' := by
  go_enter Tryd.func41, Tryd.ntmps41
  go_wp2
  exact bodyPost_ret (v := .tuple #[.agg #[.bool false, .bool true, .bool false, .bool true, .bool true, .bool true, .bool true], .bool true]) (by simp [results, Tryd.results41, go_sem]) rfl ⟨rfl, below_alloc (Below.refl _ _) _⟩
theorem rf_5 (w : World) : Calls Tryd.prog 41 #[.int .i64 5] w fun e w' => e = .returned (.tuple #[.agg #[.bool true, .bool true, .bool false, .bool false, .bool false, .bool true, .bool true], .bool true]) ∧ Below w.heap.size w w' := by
  go_enter Tryd.func41, Tryd.ntmps41
  go_wp2
  exact bodyPost_ret (v := .tuple #[.agg #[.bool true, .bool true, .bool false, .bool false, .bool false, .bool true, .bool true], .bool true]) (by simp [results, Tryd.results41, go_sem]) rfl ⟨rfl, below_alloc (Below.refl _ _) _⟩
theorem rf_6 (w : World) : Calls Tryd.prog 41 #[.int .i64 6] w fun e w' => e = .returned (.tuple #[.agg #[.bool true, .bool true, .bool false, .bool false, .bool false, .bool true, .bool true], .bool true]) ∧ Below w.heap.size w w' := by
  go_enter Tryd.func41, Tryd.ntmps41
  go_wp2
  exact bodyPost_ret (v := .tuple #[.agg #[.bool true, .bool true, .bool false, .bool false, .bool false, .bool true, .bool true], .bool true]) (by simp [results, Tryd.results41, go_sem]) rfl ⟨rfl, below_alloc (Below.refl _ _) _⟩
theorem rf_7 (w : World) : Calls Tryd.prog 41 #[.int .i64 7] w fun e w' => e = .returned (.tuple #[.agg #[.bool false, .bool true, .bool false, .bool true, .bool false, .bool true, .bool true], .bool true]) ∧ Below w.heap.size w w' := by
  go_enter Tryd.func41, Tryd.ntmps41
  go_wp2
  exact bodyPost_ret (v := .tuple #[.agg #[.bool false, .bool true, .bool false, .bool true, .bool false, .bool true, .bool true], .bool true]) (by simp [results, Tryd.results41, go_sem]) rfl ⟨rfl, below_alloc (Below.refl _ _) _⟩
theorem rf_8 (w : World) : Calls Tryd.prog 41 #[.int .i64 8] w fun e w' => e = .returned (.tuple #[.agg #[.bool false, .bool true, .bool false, .bool false, .bool false, .bool true, .bool true], .bool true]) ∧ Below w.heap.size w w' := by
  go_enter Tryd.func41, Tryd.ntmps41
  go_wp2
  exact bodyPost_ret (v := .tuple #[.agg #[.bool false, .bool true, .bool false, .bool false, .bool false, .bool true, .bool true], .bool true]) (by simp [results, Tryd.results41, go_sem]) rfl ⟨rfl, below_alloc (Below.refl _ _) _⟩
theorem rf_9 (w : World) : Calls Tryd.prog 41 #[.int .i64 9] w fun e w' => e = .returned (.tuple #[.agg #[.bool false, .bool true, .bool false, .bool false, .bool false, .bool true, .bool true], .bool true]) ∧ Below w.heap.size w w' := by
  go_enter Tryd.func41, Tryd.ntmps41
  go_wp2
  exact bodyPost_ret (v := .tuple #[.agg #[.bool false, .bool true, .bool false, .bool false, .bool false, .bool true, .bool true], .bool true]) (by simp [results, Tryd.results41, go_sem]) rfl ⟨rfl, below_alloc (Below.refl _ _) _⟩
theorem rf_10 (w : World) : Calls Tryd.prog 41 #[.int .i64 10] w fun e w' => e = .returned (.tuple #[.agg #[.bool false, .bool false, .bool false, .bool false, .bool false, .bool true, .bool true], .bool true]) ∧ Below w.heap.size w w' := by
  go_enter Tryd.func41, Tryd.ntmps41
  go_wp2
  exact bodyPost_ret (v := .tuple #[.agg #[.bool false, .bool false, .bool false, .bool false, .bool false, .bool true, .bool true], .bool true]) (by simp [results, Tryd.results41, go_sem]) rfl ⟨rfl, below_alloc (Below.refl _ _) _⟩
theorem rf_11 (w : World) : Calls Tryd.prog 41 #[.int .i64 11] w fun e w' => e = .returned (.tuple #[.agg #[.bool true, .bool true, .bool true, .bool false, .bool true, .bool true, .bool true], .bool true]) ∧ Below w.heap.size w w' := by
  go_enter Tryd.func41, Tryd.ntmps41
  go_wp2
  exact bodyPost_ret (v := .tuple #[.agg #[.bool true, .bool true, .bool true, .bool false, .bool true, .bool true, .bool true], .bool true]) (by simp [results, Tryd.results41, go_sem]) rfl ⟨rfl, below_alloc (Below.refl _ _) _⟩
theorem rf_12 (w : World) : Calls Tryd.prog 41 #[.int .i64 12] w fun e w' => e = .returned (.tuple #[.agg #[.bool true, .bool true, .bool true, .bool false, .bool true, .bool true, .bool true], .bool true]) ∧ Below w.heap.size w w' := by
  go_enter Tryd.func41, Tryd.ntmps41
  go_wp2
  exact bodyPost_ret (v := .tuple #[.agg #[.bool true, .bool true, .bool true, .bool false, .bool true, .bool true, .bool true], .bool true]) (by simp [results, Tryd.results41, go_sem]) rfl ⟨rfl, below_alloc (Below.refl _ _) _⟩
theorem rf_13 (w : World) : Calls Tryd.prog 41 #[.int .i64 13] w fun e w' => e = .returned (.tuple #[.agg #[.bool false, .bool false, .bool false, .bool true, .bool false, .bool true, .bool false], .bool true]) ∧ Below w.heap.size w w' := by
  go_enter Tryd.func41, Tryd.ntmps41
  go_wp2
  exact bodyPost_ret (v := .tuple #[.agg #[.bool false, .bool false, .bool false, .bool true, .bool false, .bool true, .bool false], .bool true]) (by simp [results, Tryd.results41, go_sem]) rfl ⟨rfl, below_alloc (Below.refl _ _) _⟩
theorem rf_14 (w : World) : Calls Tryd.prog 41 #[.int .i64 14] w fun e w' => e = .returned (.tuple #[.agg #[.bool false, .bool false, .bool false, .bool false, .bool false, .bool true, .bool false], .bool true]) ∧ Below w.heap.size w w' := by
  go_enter Tryd.func41, Tryd.ntmps41
  go_wp2
  exact bodyPost_ret (v := .tuple #[.agg #[.bool false, .bool false, .bool false, .bool false, .bool false, .bool true, .bool false], .bool true]) (by simp [results, Tryd.results41, go_sem]) rfl ⟨rfl, below_alloc (Below.refl _ _) _⟩
theorem rf_15 (w : World) : Calls Tryd.prog 41 #[.int .i64 15] w fun e w' => e = .returned (.tuple #[.agg #[.bool true, .bool true, .bool false, .bool true, .bool false, .bool true, .bool true], .bool true]) ∧ Below w.heap.size w w' := by
  go_enter Tryd.func41, Tryd.ntmps41
  go_wp2
  exact bodyPost_ret (v := .tuple #[.agg #[.bool true, .bool true, .bool false, .bool true, .bool false, .bool true, .bool true], .bool true]) (by simp [results, Tryd.results41, go_sem]) rfl ⟨rfl, below_alloc (Below.refl _ _) _⟩
theorem rf_16 (w : World) : Calls Tryd.prog 41 #[.int .i64 16] w fun e w' => e = .returned (.tuple #[.agg #[.bool true, .bool true, .bool false, .bool false, .bool false, .bool false, .bool true], .bool true]) ∧ Below w.heap.size w w' := by
  go_enter Tryd.func41, Tryd.ntmps41
  go_wp2
  exact bodyPost_ret (v := .tuple #[.agg #[.bool true, .bool true, .bool false, .bool false, .bool false, .bool false, .bool true], .bool true]) (by simp [results, Tryd.results41, go_sem]) rfl ⟨rfl, below_alloc (Below.refl _ _) _⟩
theorem rf_17 (w : World) : Calls Tryd.prog 41 #[.int .i64 17] w fun e w' => e = .returned (.tuple #[.agg #[.bool false, .bool false, .bool false, .bool false, .bool true, .bool true, .bool false], .bool true]) ∧ Below w.heap.size w w' := by
  go_enter Tryd.func41, Tryd.ntmps41
  go_wp2
  exact bodyPost_ret (v := .tuple #[.agg #[.bool false, .bool false, .bool false, .bool false, .bool true, .bool true, .bool false], .bool true]) (by simp [results, Tryd.results41, go_sem]) rfl ⟨rfl, below_alloc (Below.refl _ _) _⟩
theorem rf_18 (w : World) : Calls Tryd.prog 41 #[.int .i64 18] w fun e w' => e = .returned (.tuple #[.agg #[.bool false, .bool false, .bool false, .bool true, .bool true, .bool true, .bool false], .bool true]) ∧ Below w.heap.size w w' := by
  go_enter Tryd.func41, Tryd.ntmps41
  go_wp2
  exact bodyPost_ret (v := .tuple #[.agg #[.bool false, .bool false, .bool false, .bool true, .bool true, .bool true, .bool false], .bool true]) (by simp [results, Tryd.results41, go_sem]) rfl ⟨rfl, below_alloc (Below.refl _ _) _⟩
theorem rf_19 (w : World) : Calls Tryd.prog 41 #[.int .i64 19] w fun e w' => e = .returned (.tuple #[.agg #[.bool false, .bool false, .bool false, .bool false, .bool true, .bool true, .bool false], .bool true]) ∧ Below w.heap.size w w' := by
  go_enter Tryd.func41, Tryd.ntmps41
  go_wp2
  exact bodyPost_ret (v := .tuple #[.agg #[.bool false, .bool false, .bool false, .bool false, .bool true, .bool true, .bool false], .bool true]) (by simp [results, Tryd.results41, go_sem]) rfl ⟨rfl, below_alloc (Below.refl _ _) _⟩
theorem rf_20 (w : World) : Calls Tryd.prog 41 #[.int .i64 20] w fun e w' => e = .returned (.tuple #[.agg #[.bool false, .bool false, .bool false, .bool false, .bool false, .bool true, .bool false], .bool true]) ∧ Below w.heap.size w w' := by
  go_enter Tryd.func41, Tryd.ntmps41
  go_wp2
  exact bodyPost_ret (v := .tuple #[.agg #[.bool false, .bool false, .bool false, .bool false, .bool false, .bool true, .bool false], .bool true]) (by simp [results, Tryd.results41, go_sem]) rfl ⟨rfl, below_alloc (Below.refl _ _) _⟩
theorem rf_21 (w : World) : Calls Tryd.prog 41 #[.int .i64 21] w fun e w' => e = .returned (.tuple #[.agg #[.bool false, .bool false, .bool false, .bool false, .bool false, .bool true, .bool false], .bool true]) ∧ Below w.heap.size w w' := by
  go_enter Tryd.func41, Tryd.ntmps41
  go_wp2
  exact bodyPost_ret (v := .tuple #[.agg #[.bool false, .bool false, .bool false, .bool false, .bool false, .bool true, .bool false], .bool true]) (by simp [results, Tryd.results41, go_sem]) rfl ⟨rfl, below_alloc (Below.refl _ _) _⟩
theorem rf_22 (w : World) : Calls Tryd.prog 41 #[.int .i64 22] w fun e w' => e = .returned (.tuple #[.agg #[.bool false, .bool false, .bool false, .bool false, .bool false, .bool true, .bool false], .bool true]) ∧ Below w.heap.size w w' := by
  go_enter Tryd.func41, Tryd.ntmps41
  go_wp2
  exact bodyPost_ret (v := .tuple #[.agg #[.bool false, .bool false, .bool false, .bool false, .bool false, .bool true, .bool false], .bool true]) (by simp [results, Tryd.results41, go_sem]) rfl ⟨rfl, below_alloc (Below.refl _ _) _⟩
theorem rf_23 (w : World) : Calls Tryd.prog 41 #[.int .i64 23] w fun e w' => e = .returned (.tuple #[.agg #[.bool false, .bool false, .bool false, .bool false, .bool false, .bool true, .bool false], .bool true]) ∧ Below w.heap.size w w' := by
  go_enter Tryd.func41, Tryd.ntmps41
  go_wp2
  exact bodyPost_ret (v := .tuple #[.agg #[.bool false, .bool false, .bool false, .bool false, .bool false, .bool true, .bool false], .bool true]) (by simp [results, Tryd.results41, go_sem]) rfl ⟨rfl, below_alloc (Below.refl _ _) _⟩
theorem rf_no (o : Int) (w : World) (h : ¬ (1 ≤ o ∧ o ≤ 23)) : Calls Tryd.prog 41 #[.int .i64 o] w fun e w' => e = .returned (.tuple #[.agg #[.bool false, .bool false, .bool false, .bool false, .bool false, .bool false, .bool false], .bool false]) ∧ Below w.heap.size w w' := by
  have e1 : (o == 1) = false := beq_eq_false_iff_ne.mpr (by omega)
  have e2 : (o == 2) = false := beq_eq_false_iff_ne.mpr (by omega)
  have e3 : (o == 3) = false := beq_eq_false_iff_ne.mpr (by omega)
  have e4 : (o == 4) = false := beq_eq_false_iff_ne.mpr (by omega)
  have e5 : (o == 5) = false := beq_eq_false_iff_ne.mpr (by omega)
  have e6 : (o == 6) = false := beq_eq_false_iff_ne.mpr (by omega)
  have e7 : (o == 7) = false := beq_eq_false_iff_ne.mpr (by omega)
  have e8 : (o == 8) = false := beq_eq_false_iff_ne.mpr (by omega)
  have e9 : (o == 9) = false := beq_eq_false_iff_ne.mpr (by omega)
  have e10 : (o == 10) = false := beq_eq_false_iff_ne.mpr (by omega)
  have e11 : (o == 11) = false := beq_eq_false_iff_ne.mpr (by omega)
  have e12 : (o == 12) = false := beq_eq_false_iff_ne.mpr (by omega)
  have e13 : (o == 13) = false := beq_eq_false_iff_ne.mpr (by omega)
  have e14 : (o == 14) = false := beq_eq_false_iff_ne.mpr (by omega)
  have e15 : (o == 15) = false := beq_eq_false_iff_ne.mpr (by omega)
  have e16 : (o == 16) = false := beq_eq_false_iff_ne.mpr (by omega)
  have e17 : (o == 17) = false := beq_eq_false_iff_ne.mpr (by omega)
  have e18 : (o == 18) = false := beq_eq_false_iff_ne.mpr (by omega)
  have e19 : (o == 19) = false := beq_eq_false_iff_ne.mpr (by omega)
  have e20 : (o == 20) = false := beq_eq_false_iff_ne.mpr (by omega)
  have e21 : (o == 21) = false := beq_eq_false_iff_ne.mpr (by omega)
  have e22 : (o == 22) = false := beq_eq_false_iff_ne.mpr (by omega)
  have e23 : (o == 23) = false := beq_eq_false_iff_ne.mpr (by omega)
  clear h
  go_enter Tryd.func41, Tryd.ntmps41
  go_wp2
  exact bodyPost_ret (v := .tuple #[.agg #[.bool false, .bool false, .bool false, .bool false, .bool false, .bool false, .bool false], .bool false]) (by simp [results, Tryd.results41, go_sem]) rfl ⟨rfl, below_alloc (Below.refl _ _) _⟩
end Go.Proofs.YtkfinaongajhmaaDoor.X

/- The carry of a sum says whether it is less than what was added to, without signs; the overflow whether its sign is unlike that of both: for any numbers and both widths. No condition of its own. This text is the plain law. -/
import Derived.Test.YtmmbhhapkgnlfaaFlagsCarryWalk
import Derived.Test.YtmmbhhapkgnlfaaFlagsAluMS
namespace Go.Proofs.Ytmmbhhapkgnlfaa.CarryPure
open Go.RowKit Go.Proofs.Ytmmbhhapkgnlfaa.MS Go.Proofs.YtmmbhhapkgnlfaaW.PrintWords Go.Proofs.YtmmbhhapkgnlfaaW.PrintLast Go.Ob Go.Ob.Flags Go.Proofs.Ytmmbhhapkgnlfaa.FlagsCoreMS
set_option linter.unusedVariables false
set_option linter.unusedSimpArgs false
theorem sg_tr' (w : Bool) (v : Int) : sg w (tr w v) = sg w v := by cases w <;> simp [sg, tr] <;> omega
theorem top_bit (w : Bool) (v : Int) (h0 : -9223372036854775808 ≤ v) (h1 : v ≤ 9223372036854775807) : ((tr w v / (if w then 9223372036854775808 else 2147483648)) % 2 == 1) = decide (sg w (tr w v) < 0) := by
  rw [sg_tr', Bool.eq_iff_iff]
  cases w <;> simp [tr, sg] <;> omega
theorem carry_add (w : Bool) (a b : Int) (ha0 : -9223372036854775808 ≤ a) (ha1 : a ≤ 9223372036854775807) (hb0 : -9223372036854775808 ≤ b) (hb1 : b ≤ 9223372036854775807) :
    decide ((tr w (wrap64 (tr w a + tr w b))) % 18446744073709551616 < (tr w b) % 18446744073709551616) = decide ((tr w (wrap64 (tr w a + tr w b))) % 18446744073709551616 < (tr w a) % 18446744073709551616) := by
  rw [Bool.eq_iff_iff]
  cases w <;> simp [tr] <;> unfold wrap64 <;> omega
theorem ovA_eq (w : Bool) (x y v : Int) : ovA w x y v = if (decide (sg w x < 0) == decide (sg w y < 0)) = true then (decide (sg w (tr w v) < 0) != decide (sg w x < 0)) else false := by
  unfold ovA
  rw [sg_tr']
  have h : ∀ z : Int, decide (z ≥ 0) = !decide (z < 0) := fun z => by rw [Bool.eq_iff_iff]; simp
  rw [h, h, h]
  cases decide (sg w x < 0) <;> cases decide (sg w y < 0) <;> cases decide (sg w v < 0) <;> rfl
theorem ovS_eq (w : Bool) (x y v : Int) : ovS w x y v = if (decide (sg w x < 0) != decide (sg w y < 0)) = true then (decide (sg w (tr w v) < 0) != decide (sg w x < 0)) else false := by
  unfold ovS
  rw [sg_tr']
  have h : ∀ z : Int, decide (z ≥ 0) = !decide (z < 0) := fun z => by rw [Bool.eq_iff_iff]; simp
  rw [h, h, h]
  cases decide (sg w x < 0) <;> cases decide (sg w y < 0) <;> cases decide (sg w v < 0) <;> rfl
theorem wb (x : Int) : -9223372036854775808 ≤ wrap64 x ∧ wrap64 x ≤ 9223372036854775807 := by unfold wrap64; omega
theorem walk (w : Bool) (a b : Int) (W : World) (wa : (Lit.int .i64 a).wf = true) (wb' : (Lit.int .i64 b).wf = true) :
    Calls Try.prog 7 #[.bool w, .int .i64 a, .int .i64 b] W fun e w' => e = .returned (.bool true) ∧ Below W.heap.size W w' := by
  have ha := bounds_i64 wa
  have hb := bounds_i64 wb'
  have t1 := top_bit w a ha.1 ha.2
  have t2 := top_bit w b hb.1 hb.2
  have t3 := top_bit w (wrap64 (tr w a + tr w b)) (wb _).1 (wb _).2
  have t4 := top_bit w (wrap64 (tr w a - tr w b)) (wb _).1 (wb _).2
  have hA := alu_add 29 w a b
  have hS := alu_sub_cmp 28 5 (.inl rfl) w a b
  rw [carry_add w a b ha.1 ha.2 hb.1 hb.2, ovA_eq] at hA
  rw [ovS_eq] at hS
  simp only [show ¬ ((5 : Int) = 7) by decide, if_false, gt_iff_lt] at hS
  have hX := trim_eq w a
  have hY := trim_eq w b
  simp only [← u64_is] at hA hS
  cases w with
  | true =>
    simp only [if_true, ← and1] at t1 t2 t3 t4
    generalize hp : decide (sg true (tr true a) < 0) = p at *
    generalize hq : decide (sg true (tr true b) < 0) = q at *
    generalize hr : decide (sg true (tr true (wrap64 (tr true a + tr true b))) < 0) = r at *
    generalize hs : decide (sg true (tr true (wrap64 (tr true a - tr true b))) < 0) = s at *
    cases p <;> cases q <;> simp only [beq_self_eq_true, if_true, bne_self_eq_false, Bool.false_eq_true, if_false, Bool.bne_true, Bool.bne_false, show ((true == false) = true) ↔ False by decide, show ((false == true) = true) ↔ False by decide, show ((true != false) = true) ↔ True by decide, show ((false != true) = true) ↔ True by decide] at hA hS
    · exact CarryWalk.w_true_false_false 30 a b _ _ _ _ r s t1 t2 t3 t4 ⟨ex30⟩ ⟨hX⟩ ⟨hY⟩ ⟨hA⟩ ⟨hS⟩ W
    · exact CarryWalk.w_true_false_true 30 a b _ _ _ _ r s t1 t2 t3 t4 ⟨ex30⟩ ⟨hX⟩ ⟨hY⟩ ⟨hA⟩ ⟨hS⟩ W
    · exact CarryWalk.w_true_true_false 30 a b _ _ _ _ r s t1 t2 t3 t4 ⟨ex30⟩ ⟨hX⟩ ⟨hY⟩ ⟨hA⟩ ⟨hS⟩ W
    · exact CarryWalk.w_true_true_true 30 a b _ _ _ _ r s t1 t2 t3 t4 ⟨ex30⟩ ⟨hX⟩ ⟨hY⟩ ⟨hA⟩ ⟨hS⟩ W
  | false =>
    simp only [Bool.false_eq_true, if_false, ← and1] at t1 t2 t3 t4
    generalize hp : decide (sg false (tr false a) < 0) = p at *
    generalize hq : decide (sg false (tr false b) < 0) = q at *
    generalize hr : decide (sg false (tr false (wrap64 (tr false a + tr false b))) < 0) = r at *
    generalize hs : decide (sg false (tr false (wrap64 (tr false a - tr false b))) < 0) = s at *
    cases p <;> cases q <;> simp only [beq_self_eq_true, if_true, bne_self_eq_false, Bool.false_eq_true, if_false, Bool.bne_true, Bool.bne_false, show ((true == false) = true) ↔ False by decide, show ((false == true) = true) ↔ False by decide, show ((true != false) = true) ↔ True by decide, show ((false != true) = true) ↔ True by decide] at hA hS
    · exact CarryWalk.w_false_false_false 30 a b _ _ _ _ r s t1 t2 t3 t4 ⟨ex30⟩ ⟨hX⟩ ⟨hY⟩ ⟨hA⟩ ⟨hS⟩ W
    · exact CarryWalk.w_false_false_true 30 a b _ _ _ _ r s t1 t2 t3 t4 ⟨ex30⟩ ⟨hX⟩ ⟨hY⟩ ⟨hA⟩ ⟨hS⟩ W
    · exact CarryWalk.w_false_true_false 30 a b _ _ _ _ r s t1 t2 t3 t4 ⟨ex30⟩ ⟨hX⟩ ⟨hY⟩ ⟨hA⟩ ⟨hS⟩ W
    · exact CarryWalk.w_false_true_true 30 a b _ _ _ _ r s t1 t2 t3 t4 ⟨ex30⟩ ⟨hX⟩ ⟨hY⟩ ⟨hA⟩ ⟨hS⟩ W
end Go.Proofs.Ytmmbhhapkgnlfaa.CarryPure

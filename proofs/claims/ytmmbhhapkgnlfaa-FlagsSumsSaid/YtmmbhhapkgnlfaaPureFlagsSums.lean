/- Adding is subtracting the other way round; what is added, and taken away again, is as it was; And, Or and Xor of a value with itself are it, it, and nought: for any numbers and both widths. No condition of its own. This text is the plain law. -/
import Derived.Test.YtmmbhhapkgnlfaaMSx4
import Derived.Test.YtmmbhhapkgnlfaaFlagsAluMS
namespace Go.Proofs.Ytmmbhhapkgnlfaa.Pure
open Go.RowKit Go.Proofs.Ytmmbhhapkgnlfaa.MS Go.Proofs.YtmmbhhapkgnlfaaW.PrintWords Go.Proofs.YtmmbhhapkgnlfaaW.PrintLast Go.Ob Go.Ob.Flags Go.Proofs.Ytmmbhhapkgnlfaa.FlagsCoreMS
set_option linter.unusedVariables false
set_option linter.unusedSimpArgs false
theorem and_self' (x : Int) (h0 : -9223372036854775808 ≤ x) (h1 : x ≤ 9223372036854775807) : Go.bits .and .i64 x x = x := by
  rw [bits_and_i64, BitVec.and_self, toInt_of x h0 h1]
theorem or_self' (x : Int) (h0 : -9223372036854775808 ≤ x) (h1 : x ≤ 9223372036854775807) : Go.bits .or .i64 x x = x := by
  rw [bits_or_i64, BitVec.or_self, toInt_of x h0 h1]
theorem xor_self' (x : Int) : Go.bits .xor .i64 x x = 0 := by
  rw [bits_xor_i64, BitVec.xor_self]; rfl
theorem FlagsSums : oubliettelaw10_FlagsSums.Pure := by
  intro w a b wa wb
  have ha := bounds_i64 wa
  have hb := bounds_i64 wb
  refine ⟨30, ?_⟩
  have hx : -9223372036854775808 ≤ tr w a ∧ tr w a ≤ 9223372036854775807 := by cases w <;> simp [tr] <;> omega
  have htt : tr w (tr w a) = tr w a := by cases w <;> simp [tr]
  have hd : tr w (wrap64 (tr w (tr w (wrap64 (tr w a + tr w b))) - tr w b)) = tr w a := by
    cases w <;> simp [tr] <;> unfold wrap64 <;> omega
  have h0 : tr w 0 = 0 := by cases w <;> rfl
  have hs0 : sg w 0 = 0 := by cases w <;> rfl
  unfold oubliettelaw10_FlagsSums.f
  rw [ex30, alu_add 29 w a b, alu_log 28 4 .and (.inr (.inl ⟨rfl, rfl⟩)) w a a, alu_log 28 1 .or (.inl ⟨rfl, rfl⟩) w a a, alu_log 28 6 .xor (.inr (.inr ⟨rfl, rfl⟩)) w a a, alu_sub_cmp 28 7 (.inr rfl) w a b, alu_sub_cmp 28 5 (.inl rfl) w a b]
  simp only [Option.bind_some, trim_eq]
  rw [alu_sub_cmp 28 5 (.inl rfl) w _ b]
  simp only [Option.bind_some, show ¬ ((5 : Int) = 7) by decide, if_false, if_true, hd, and_self' _ hx.1 hx.2, or_self' _ hx.1 hx.2, xor_self', htt, h0, hs0, beq_self_eq_true, Bool.and_self, Bool.not_false, Bool.and_true, Bool.true_and, show decide ((0 : Int) < 0) = false by decide, Bool.false_eq_true]
end Go.Proofs.Ytmmbhhapkgnlfaa.Pure

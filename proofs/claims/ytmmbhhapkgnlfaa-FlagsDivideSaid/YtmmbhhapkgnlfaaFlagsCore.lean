/- What the program's functions on values and flags answer, in plain numbers. -/
import Derived.Test.YtmmbhhapkgnlfaaMAx4
import Derived.Test.YtmmbhhapkgnlfaaFlagsPlain
namespace Go.Proofs.Ytmmbhhapkgnlfaa.FlagsCore
open Go.RowKit Go.Proofs.Ytmmbhhapkgnlfaa.MA Go.Proofs.YtmmbhhapkgnlfaaW.PrintWords Go.Proofs.YtmmbhhapkgnlfaaW.PrintLast Go.Proofs.YtmmbhhapkgnlfaaW.PrintMore Go.Ob Go.Ob.Flags
set_option linter.unusedVariables false
set_option linter.unusedSimpArgs false
theorem ex30 : oubliettelaw10_examples.f 30 = some true := by decide +kernel
theorem trim_eq (w : Bool) (v : Int) : flags_Trim.f w v = some (tr w v) := by unfold flags_Trim.f tr; split <;> rfl
theorem sign_eq (w : Bool) (v : Int) : flags_sign.f w v = some (sg w v) := by unfold flags_sign.f sg; rw [wrap_sg]; split <;> rfl
theorem u64_is (x : Int) : IntKind.u64.wrap x = x % 18446744073709551616 := IntKind.wrap_u64 x
theorem u64_in {x : Int} (h0 : 0 ≤ x) (h1 : x < 18446744073709551616) : IntKind.u64.wrap x = x := by rw [IntKind.wrap_u64]; omega
theorem tdivp {a b : Int} (h : 0 ≤ a) : Int.tdiv a b = a / b := Int.tdiv_eq_ediv_of_nonneg h
theorem tmodp {a b : Int} (h : 0 ≤ a) : Int.tmod a b = a % b := Int.tmod_eq_emod_of_nonneg h
/-- divided without signs, the upper half nought -/
theorem div0 (w : Bool) (low d : Int) (k : Nat) (hk : 5 ≤ k) :
    flags_Div.f k w 0 low d = some (if (tr w d) % 18446744073709551616 = 0 then (0, 0, false)
      else (wrap64 ((tr w low) % 18446744073709551616 / ((tr w d) % 18446744073709551616)), wrap64 ((tr w low) % 18446744073709551616 % ((tr w d) % 18446744073709551616)), true)) := by
  obtain ⟨k, rfl⟩ : ∃ m, k = m + 3 := ⟨k - 3, by omega⟩
  unfold flags_Div.f
  simp only [trim_eq, Option.bind_some, u64_is]
  have h0 : tr w 0 = 0 := by unfold tr; split <;> rfl
  have hl : 0 ≤ (tr w low) % 18446744073709551616 := by omega
  have hl2 : (tr w low) % 18446744073709551616 < 18446744073709551616 := by omega
  have hd : 0 ≤ (tr w d) % 18446744073709551616 := by omega
  rw [h0]
  generalize (tr w low) % 18446744073709551616 = l at *
  generalize hD : (tr w d) % 18446744073709551616 = e at *
  by_cases he : e = 0
  · rw [if_pos he, if_pos he]; simp only [flags_Div.j0, if_true]
  · rw [if_neg he, if_neg he, decide_eq_false (by omega)]
    simp only [flags_Div.j0, Bool.false_eq_true, if_false]
    have hq : 0 ≤ l / e := Int.ediv_nonneg hl hd
    have hq2 : l / e ≤ l := Int.ediv_le_self _ hl
    cases w with
    | true =>
      simp only [if_true]
      unfold bits_Div64.f
      rw [if_neg he, if_neg (by omega), if_pos (by omega), tdivp hl, tmodp hl, u64_in hq (by omega)]
      rfl
    | false =>
      simp only [Bool.false_eq_true, if_false]
      have hor : Go.bits .or .u64 (IntKind.u64.wrap (0 % 18446744073709551616 * 4294967296)) l = l := by
        rw [show IntKind.u64.wrap (0 % 18446744073709551616 * 4294967296) = 0 by decide]
        obtain ⟨n, rfl⟩ := Int.eq_ofNat_of_zero_le hl
        have := bits_or_u64_nat 0 n (by omega) (by omega)
        simpa using this
      rw [hor, if_neg he, tdivp hl, tmodp hl, u64_in hq (by omega)]
end Go.Proofs.Ytmmbhhapkgnlfaa.FlagsCore

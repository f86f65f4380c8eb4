/- What the program's functions on values and flags answer, in plain numbers. -/
import Derived.Test.YtmmbhhapkgnlfaaMSx4
import Derived.Test.YtmmbhhapkgnlfaaFlagsPlain
namespace Go.Proofs.Ytmmbhhapkgnlfaa.FlagsCoreMS
open Go.RowKit Go.Proofs.Ytmmbhhapkgnlfaa.MS Go.Proofs.YtmmbhhapkgnlfaaW.PrintWords Go.Proofs.YtmmbhhapkgnlfaaW.PrintLast Go.Proofs.YtmmbhhapkgnlfaaW.PrintMore Go.Ob Go.Ob.Flags
set_option linter.unusedVariables false
set_option linter.unusedSimpArgs false
theorem ex30 : oubliettelaw10_examples.f 30 = some true := by decide +kernel
theorem trim_eq (w : Bool) (v : Int) : flags_Trim.f w v = some (tr w v) := by unfold flags_Trim.f tr; split <;> rfl
theorem sign_eq (w : Bool) (v : Int) : flags_sign.f w v = some (sg w v) := by unfold flags_sign.f sg; rw [wrap_sg]; split <;> rfl
theorem u64_is (x : Int) : IntKind.u64.wrap x = x % 18446744073709551616 := IntKind.wrap_u64 x
theorem u64_in {x : Int} (h0 : 0 ≤ x) (h1 : x < 18446744073709551616) : IntKind.u64.wrap x = x := by rw [IntKind.wrap_u64]; omega
theorem tdivp {a b : Int} (h : 0 ≤ a) : Int.tdiv a b = a / b := Int.tdiv_eq_ediv_of_nonneg h
theorem tmodp {a b : Int} (h : 0 ≤ a) : Int.tmod a b = a % b := Int.tmod_eq_emod_of_nonneg h
/-- the overflow of a sum, of a difference: x, y: both values; v: what came out, untrimmed -/
def ovA (w : Bool) (x y v : Int) : Bool := if (decide (sg w x ≥ 0) == decide (sg w y ≥ 0)) = true then (decide (sg w v ≥ 0) != decide (sg w x ≥ 0)) else false
def ovS (w : Bool) (x y v : Int) : Bool := if (decide (sg w x ≥ 0) != decide (sg w y ≥ 0)) = true then (decide (sg w v ≥ 0) != decide (sg w x ≥ 0)) else false
theorem alu_j1 (k : Nat) (kind : Int) (w : Bool) (x v : Int) (z s c o : Bool) : flags_Alu.j1 (k + 1) kind w x v z s c o = some (if kind = 7 then x else tr w v, tr w v == 0, decide (sg w (tr w v) < 0), c, o, true) := by
  simp only [flags_Alu.j1, trim_eq, sign_eq, Option.bind_some]
  split <;> rfl
theorem alu_add (k : Nat) (w : Bool) (a b : Int) : flags_Alu.f (k + 1) 0 w a b = some (tr w (wrap64 (tr w a + tr w b)), tr w (wrap64 (tr w a + tr w b)) == 0, decide (sg w (tr w (wrap64 (tr w a + tr w b))) < 0), decide ((tr w (wrap64 (tr w a + tr w b))) % 18446744073709551616 < (tr w b) % 18446744073709551616), ovA w (tr w a) (tr w b) (wrap64 (tr w a + tr w b)), true) := by
  unfold flags_Alu.f ovA
  simp only [trim_eq, sign_eq, Option.bind_some, if_true, alu_j1, u64_is]
  split <;> rfl
theorem alu_sub_cmp (k : Nat) (kind : Int) (hk : kind = 5 ∨ kind = 7) (w : Bool) (a b : Int) : flags_Alu.f (k + 2) kind w a b = some (if kind = 7 then tr w a else tr w (wrap64 (tr w a - tr w b)), tr w (wrap64 (tr w a - tr w b)) == 0, decide (sg w (tr w (wrap64 (tr w a - tr w b))) < 0), decide ((tr w b) % 18446744073709551616 > (tr w a) % 18446744073709551616), ovS w (tr w a) (tr w b) (wrap64 (tr w a - tr w b)), true) := by
  have h0 : ¬ kind = 0 := by omega
  have hj : flags_Alu.j0 (k + 2) kind w (tr w a) (tr w b) (sg w (tr w a)) (sg w (tr w b)) kind true false false false false = some (if kind = 7 then tr w a else tr w (wrap64 (tr w a - tr w b)), tr w (wrap64 (tr w a - tr w b)) == 0, decide (sg w (tr w (wrap64 (tr w a - tr w b))) < 0), decide ((tr w b) % 18446744073709551616 > (tr w a) % 18446744073709551616), ovS w (tr w a) (tr w b) (wrap64 (tr w a - tr w b)), true) := by
    unfold ovS
    simp only [flags_Alu.j0, trim_eq, sign_eq, Option.bind_some, if_true, alu_j1, u64_is]
    split <;> rfl
  unfold flags_Alu.f
  simp only [trim_eq, sign_eq, Option.bind_some]
  rw [if_neg h0]
  rcases hk with rfl | rfl
  · rw [if_pos rfl]; exact hj
  · rw [if_neg (by decide)]; exact hj
theorem alu_log (k : Nat) (kind : Int) (op : BinOp) (hk : kind = 1 ∧ op = .or ∨ kind = 4 ∧ op = .and ∨ kind = 6 ∧ op = .xor) (w : Bool) (a b : Int) : flags_Alu.f (k + 2) kind w a b = some (tr w (Go.bits op .i64 (tr w a) (tr w b)), tr w (Go.bits op .i64 (tr w a) (tr w b)) == 0, decide (sg w (tr w (Go.bits op .i64 (tr w a) (tr w b))) < 0), false, false, true) := by
  unfold flags_Alu.f
  simp only [trim_eq, sign_eq, Option.bind_some]
  rcases hk with ⟨rfl, rfl⟩ | ⟨rfl, rfl⟩ | ⟨rfl, rfl⟩ <;> rw [if_neg (by decide), if_neg (by decide)] <;> simp [flags_Alu.j0, alu_j1]
theorem alu_no (k : Nat) (kind : Int) (h : kind ≠ 0 ∧ kind ≠ 1 ∧ kind ≠ 4 ∧ kind ≠ 5 ∧ kind ≠ 6 ∧ kind ≠ 7) (w : Bool) (a b : Int) : flags_Alu.f (k + 2) kind w a b = some (0, false, false, false, false, false) := by
  obtain ⟨h0, h1, h4, h5, h6, h7⟩ := h
  unfold flags_Alu.f
  simp only [trim_eq, sign_eq, Option.bind_some]
  rw [if_neg h0, if_neg h5]
  simp [flags_Alu.j0, h1, h4, h6, h7]
end Go.Proofs.Ytmmbhhapkgnlfaa.FlagsCoreMS

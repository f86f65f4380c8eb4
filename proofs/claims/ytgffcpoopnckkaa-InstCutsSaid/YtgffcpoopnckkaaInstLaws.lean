/- The law's examples, and what the reference reads. -/
import Derived.Test.YtgffcpoopnckkaaInstCore
import Derived.Test.YtgffcpoopnckkaaMIx8
namespace Go.Proofs.Ytgffcpoopnckkaa.CoreInst
open Go.RowKit Go.Proofs.Ytgffcpoopnckkaa.MI Go.Proofs.YtgffcpoopnckkaaW.PrintWords Go.Proofs.YtgffcpoopnckkaaW.PrintLast Go.Proofs.YtgffcpoopnckkaaW.PrintMore Go.Ob Go.Ob.Leb Go.Ob.Inst
set_option linter.unusedVariables false
set_option linter.unusedSimpArgs false
theorem txt_lit (l : List Int) (m : List UInt8) (hl : ∀ x ∈ l, 0 ≤ x ∧ x < 256) (h : l = m.map fun b => (b.toNat : Int)) : (strOfNums l).toList = m := (toList_iff_lit _ _).mpr (by rw [bl_num l hl, h])
theorem enc_1 : enc 65 (-1) 0 = [65, 127] := by
  unfold enc
  rw [show kd 65 = 5 by rfl]
  simp only [Int.reduceEq, if_false, or_false, if_true]
  rw [encS_in (by decide)]
  rfl
theorem enc_2 : enc 2 0 4 = [2, 124] := by
  unfold enc
  rw [show kd 2 = 2 by rfl]
  rfl
theorem enc_3 : enc 40 300 1 = [40, 1, 172, 2] := by
  unfold enc
  rw [show kd 40 = 4 by rfl]
  simp only [Int.reduceEq, if_false, if_true]
  rw [show (300 : Int).toNat = 300 by rfl, show (1 : Int).toNat = 1 by rfl, encU_lt (n := 1) (by decide), encU_ge (n := 300) (by decide), encU_lt (n := 300 / 128) (by decide)]
  rfl
theorem tk_4 : tk [2, 64, 11] = (2, 0, 0, strOfNums [11], 0) := rfl
theorem examples_true (k : Nat) (hk : 40 ≤ k) : oubliettelaw04_examples.f k = some true := by
  unfold oubliettelaw04_examples.f
  rw [Bytes_ok 65 (-1) 0 (by decide) (by decide) rfl k (by omega), Bytes_ok 2 0 4 (by decide) (by decide) rfl k (by omega), Bytes_ok 40 300 1 (by decide) (by decide) rfl k (by omega), Take_eq _ k (by omega),
    enc_1, enc_2, enc_3, show bl (⟨#[2, 64, 11]⟩ : ByteArray) = [2, 64, 11] by rfl, tk_4]
  simp only [Option.bind_some]
  rw [if_pos (txt_lit [65, 127] [65, 127] (by decide) rfl), if_pos trivial, if_pos (txt_lit [2, 124] [2, 124] (by decide) rfl), if_pos trivial, if_pos (txt_lit [40, 1, 172, 2] [40, 1, 172, 2] (by decide) rfl), if_pos trivial, if_pos (show ((2 : Int) == 2 && ((0 : Int) == 0 && (0 : Int) == 0)) = true by rfl), if_pos (txt_lit [11] [11] (by decide) rfl)]
  rfl
end Go.Proofs.Ytgffcpoopnckkaa.CoreInst

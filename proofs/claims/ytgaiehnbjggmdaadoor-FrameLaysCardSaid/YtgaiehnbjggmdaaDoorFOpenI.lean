/- An image as a parameter. -/
import Derived.Test.YtgaiehnbjggmdaaDoorFOpen
namespace Go.Proofs.YtgaiehnbjggmdaaDoor.F
open Go.ChangeShapes Go.WideShapes Go.ChangeAt Go.RowKit Go.Proofs.YtgaiehnbjggmdaaDoorW.PrintWords Go.Proofs.YtgaiehnbjggmdaaDoorW.PrintMore
set_option linter.unusedVariables false
set_option linter.unusedSimpArgs false
theorem cellsImage : Tryd.prog.cellsOf 72 = 10 := by kernel_rfl
theorem cellsStr : Tryd.prog.cellsOf 9 = 1 := by kernel_rfl
set_option maxRecDepth 100000 in
theorem open_img {H : Type} {enc : TypeId × Value → H} {W : World} {base : Nat} {v0 : Value} {x : DataW H × List MemPlace} {m : Nat} (hv : Value.okWide Tryd.prog W .any base 72 v0)
    (h : DataW.trod enc Tryd.prog W 0 (fun _ => true) true m 72 v0.cells.toList = some x) :
    ∃ i0 i1 i2 i3 i4 i5 i6 code en halt, v0 = .agg #[i0, i1, i2, i3, i4, i5, i6, .string code, en, .int .i64 halt] ∧ code.size ≤ 9223372036854775807 ∧ (-9223372036854775808 ≤ halt ∧ halt ≤ 9223372036854775807) := by
  obtain ⟨cs, rfl, hcs⟩ := okWide_struct Tryd.underlying72 hv
  rw [cellsImage] at hcs
  obtain ⟨xs, n, _, _, _, hlen, hf⟩ := DataW.trod_struct Tryd.underlying72 h
  have f1 := hf 1 _ rfl
  have f3 := hf 3 _ rfl
  obtain ⟨l⟩ := cs
  match l, hcs with
  | [u0, u1, u2, u3, u4, u5, u6, u7, u8, u9], _ =>
    match xs, hlen with
    | [x0, x1, x2, x3], _ =>
      simp [Value.cells, cells3, cellsStr] at f1 f3
      obtain ⟨q1, e1, _, w1⟩ := DataW.trod_string Tryd.underlying9 f1
      obtain ⟨q3, e3, _, w3⟩ := DataW.trod_int Tryd.underlying3 f3
      simp at e1 e3
      subst e1 e3
      exact ⟨u0, u1, u2, u3, u4, u5, u6, q1, u8, q3, rfl, w1, bounds_i64 w3⟩
end Go.Proofs.YtgaiehnbjggmdaaDoor.F

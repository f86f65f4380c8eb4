/- A datum as it is handed by value. -/
import Derived.Test.YtiacmfgkbgfhkaaLinOpen
namespace Go.Proofs.Ytiacmfgkbgfhkaa.Lin
open Go.ChangeShapes Go.WideShapes Go.ChangeAt Go.RowKit
set_option linter.unusedVariables false
set_option linter.unusedSimpArgs false
theorem open_dat {H : Type} {enc : TypeId × Value → H} {W : World} {base : Nat} {v0 : Value} {x : DataW H × List MemPlace} {m : Nat} (hv : Value.okWide Try.prog W .any base 48 v0)
    (h : DataW.trod enc Try.prog W 0 (fun _ => true) true m 48 v0.cells.toList = some x) :
    ∃ (q a : Int) (s : ByteArray), v0 = .agg #[.int .i64 q, .int .i64 a, .string s] ∧ (-9223372036854775808 ≤ a ∧ a ≤ 9223372036854775807) ∧ s.size ≤ 9223372036854775807 := by
  obtain ⟨cs, rfl, hcs⟩ := okWide_struct Try.underlying48 hv
  rw [cells48] at hcs
  obtain ⟨y0, y1, y2, n', _, _, t0, t1, t2⟩ := Go.Deep.trod_struct3 Try.underlying48 h
  obtain ⟨l⟩ := cs
  match l, hcs with
  | [u0, u1, u2], _ =>
    simp [Value.cells, cells3, cells9] at t0 t1 t2
    obtain ⟨q0, e0, _, w0⟩ := DataW.trod_int Try.underlying3 t0
    obtain ⟨q1, e1, _, w1⟩ := DataW.trod_int Try.underlying3 t1
    obtain ⟨q2, e2, _, w2⟩ := DataW.trod_string Try.underlying9 t2
    simp at e0 e1 e2
    subst e0 e1 e2
    have hmax : maxLen = 9223372036854775807 := rfl
    exact ⟨q0, q1, q2, rfl, bounds_i64 w1, by omega⟩
end Go.Proofs.Ytiacmfgkbgfhkaa.Lin

/- A slice of instructions as a parameter: opened. -/
import Derived.Test.YtkfinaongajhmaaDoorXWays
import Derived.Test.YtkfinaongajhmaaDoorXAllP
import Derived.Carry
import Derived.Lib.SmallJoins
namespace Go.Proofs.YtkfinaongajhmaaDoor.X
open Go.Ob Go.Ob.Xc Go.ChangeShapes Go.WideShapes Go.ChangeAt Go.RowKit
set_option linter.unusedVariables false
set_option linter.unusedSimpArgs false
instance : Inhabited XI := ⟨xz⟩
set_option maxRecDepth 100000 in
/-- an instruction's cells, read -/
theorem x_cells {H : Type} {enc : TypeId × Value → H} {W : World} {b0 : Nat} {sp : Nat → Bool} {hd : Bool} {n : Nat} {cs : List Value} {x : DataW H × List MemPlace} (hcs : cs.length = 7)
    (h : DataW.trod enc Tryd.prog W b0 sp hd n 23 cs = some x) :
    ∃ y : XI, cs = [.int .i64 y.op, .bool y.wide, .int .i64 y.r, .int .i64 y.b, .int .i64 y.i, .int .i64 y.c, .int .i64 y.n] ∧ NB y := by
  obtain ⟨xs, n, _, _, _, hlen, hf⟩ := DataW.trod_struct Tryd.underlying23 h
  have f0 := hf 0 _ rfl
  have f1 := hf 1 _ rfl
  have f2 := hf 2 _ rfl
  have f3 := hf 3 _ rfl
  have f4 := hf 4 _ rfl
  have f5 := hf 5 _ rfl
  have f6 := hf 6 _ rfl
  match cs, hcs with
  | [u0, u1, u2, u3, u4, u5, u6], _ =>
    match xs, hlen with
    | [x0, x1, x2, x3, x4, x5, x6], _ =>
      simp [cellsInt, cellsBool] at f0 f1 f2 f3 f4 f5 f6
      obtain ⟨q0, e0, _, w0⟩ := DataW.trod_int Tryd.underlying3 f0
      obtain ⟨q1, e1, _⟩ := DataW.trod_bool Tryd.underlying4 f1
      obtain ⟨q2, e2, _, w2⟩ := DataW.trod_int Tryd.underlying3 f2
      obtain ⟨q3, e3, _, w3⟩ := DataW.trod_int Tryd.underlying3 f3
      obtain ⟨q4, e4, _, w4⟩ := DataW.trod_int Tryd.underlying3 f4
      obtain ⟨q5, e5, _, w5⟩ := DataW.trod_int Tryd.underlying3 f5
      obtain ⟨q6, e6, _, w6⟩ := DataW.trod_int Tryd.underlying3 f6
      simp at e0 e1 e2 e3 e4 e5 e6
      subst e0 e1 e2 e3 e4 e5 e6
      exact ⟨⟨q0, q1, q2, q3, q4, q5, q6⟩, rfl, bounds_i64 w6⟩
/-- a slice of instructions, as a value -/
def XsIs (W : World) (v : Value) : Prop := v = .slice none 0 0 ∨ ∃ (L : List XI) (a : Addr) (cap : Nat), v = .slice (some a) L.length cap ∧ L.length ≤ 2513169434843 ∧ (0 < L.length → a.block < W.heap.size) ∧ CellsAt W a L ∧ ∀ x ∈ L, NB x
set_option maxRecDepth 100000 in
theorem xs_some {H : Type} {enc : TypeId × Value → H} {W : World} {b0 : Nat} {sp : Nat → Bool} {hd : Bool} {n : Nat} {D : Nat → DataW H} {Pl : Nat → List MemPlace} (a : Addr) (len cap : Nat) (hl : len ≤ 2513169434843)
    (hx : ∀ i, i < len → ∃ cs', W.cells? b0 (a.add (i * Tryd.prog.cellsOf 23)) (Tryd.prog.cellsOf 23) = some cs' ∧ DataW.trod enc Tryd.prog W b0 sp hd n 23 cs' = some (D i, Pl i)) : XsIs W (.slice (some a) len cap) := by
  have each : ∀ i, i < len → ∃ y : XI, (W.cell? (a.add (i * 7)) = some (.int .i64 y.op) ∧ W.cell? ⟨(a.add (i * 7)).block, (a.add (i * 7)).off + 1, none⟩ = some (.bool y.wide) ∧ W.cell? ⟨(a.add (i * 7)).block, (a.add (i * 7)).off + 2, none⟩ = some (.int .i64 y.r) ∧
      W.cell? ⟨(a.add (i * 7)).block, (a.add (i * 7)).off + 3, none⟩ = some (.int .i64 y.b) ∧ W.cell? ⟨(a.add (i * 7)).block, (a.add (i * 7)).off + 4, none⟩ = some (.int .i64 y.i) ∧ W.cell? ⟨(a.add (i * 7)).block, (a.add (i * 7)).off + 5, none⟩ = some (.int .i64 y.c) ∧
      W.cell? ⟨(a.add (i * 7)).block, (a.add (i * 7)).off + 6, none⟩ = some (.int .i64 y.n)) ∧ NB y := by
    intro i hi
    obtain ⟨cs', h1, h2⟩ := hx i hi
    rw [cellsX] at h1
    obtain ⟨_, hlen, hcell⟩ := World.cells?_some h1
    obtain ⟨y, rfl, hn⟩ := x_cells hlen h2
    have z0 := hcell 0 (by omega)
    have z1 := hcell 1 (by omega)
    have z2 := hcell 2 (by omega)
    have z3 := hcell 3 (by omega)
    have z4 := hcell 4 (by omega)
    have z5 := hcell 5 (by omega)
    have z6 := hcell 6 (by omega)
    exact ⟨y, ⟨by simpa [Addr.add] using z0, by simpa [Addr.add] using z1, by simpa [Addr.add] using z2, by simpa [Addr.add] using z3, by simpa [Addr.add] using z4, by simpa [Addr.add] using z5, by simpa [Addr.add] using z6⟩, hn⟩
  obtain ⟨q, hq⟩ := Go.Deep.choose_lt each
  have hlenL : ((List.range len).map q).length = len := by simp
  refine .inr ⟨(List.range len).map q, a, cap, by rw [hlenL], by rw [hlenL]; exact hl, fun h0 => ?_, fun i hi => ?_, fun x hx => ?_⟩
  · rw [hlenL] at h0
    have := World.block_lt_of_cell? _ _ (hq 0 h0).1.1
    simpa [Addr.add] using this
  · rw [hlenL] at hi
    simpa using (hq i hi).1
  · obtain ⟨i, hi, rfl⟩ := List.mem_map.mp hx
    exact (hq i (List.mem_range.mp hi)).2
end Go.Proofs.YtkfinaongajhmaaDoor.X

/- A slice of items as a parameter: opened. -/
import Derived.Test.YtkfinaongajhmaaDoorXTab
import Derived.Test.YtkfinaongajhmaaDoorAPlaces
import Derived.Carry
import Derived.Lib.SmallJoins
namespace Go.Proofs.YtkfinaongajhmaaDoor.X
open Go.Ob Go.Ob.Xc Go.ChangeShapes Go.WideShapes Go.ChangeAt Go.RowKit
set_option linter.unusedVariables false
set_option linter.unusedSimpArgs false
theorem cellsT : Tryd.prog.cellsOf 56 = 9 := by kernel_rfl
set_option maxRecDepth 100000 in
/-- an instruction's cells, read -/
theorem x_cells7 {H : Type} {enc : TypeId × Value → H} {W : World} {b0 : Nat} {sp : Nat → Bool} {hd : Bool} {n : Nat} {cs : List Value} {x : DataW H × List MemPlace} (hcs : cs.length = 7)
    (h : DataW.trod enc Tryd.prog W b0 sp hd n 23 cs = some x) :
    ∃ y : XI, cs = [.int .i64 y.op, .bool y.wide, .int .i64 y.r, .int .i64 y.b, .int .i64 y.i, .int .i64 y.c, .int .i64 y.n] ∧ NB y := by
  obtain ⟨xs, n, _, _, _, hlen, hf⟩ := DataW.trod_struct Tryd.underlying23 h
  have f0 := hf 0 _ rfl
  have f1 := hf 1 _ rfl
  have f2 := hf 2 _ rfl
  have f3 := hf 3 _ rfl
  have f4 := hf 4 _ rfl
  have f5 := hf 5 _ rfl
  have f6 := hf 6 _ rfl
  match cs, hcs with
  | [u0, u1, u2, u3, u4, u5, u6], _ =>
    match xs, hlen with
    | [x0, x1, x2, x3, x4, x5, x6], _ =>
      simp [cellsInt, cellsBool] at f0 f1 f2 f3 f4 f5 f6
      obtain ⟨q0, e0, _, w0⟩ := DataW.trod_int Tryd.underlying3 f0
      obtain ⟨q1, e1, _⟩ := DataW.trod_bool Tryd.underlying4 f1
      obtain ⟨q2, e2, _, w2⟩ := DataW.trod_int Tryd.underlying3 f2
      obtain ⟨q3, e3, _, w3⟩ := DataW.trod_int Tryd.underlying3 f3
      obtain ⟨q4, e4, _, w4⟩ := DataW.trod_int Tryd.underlying3 f4
      obtain ⟨q5, e5, _, w5⟩ := DataW.trod_int Tryd.underlying3 f5
      obtain ⟨q6, e6, _, w6⟩ := DataW.trod_int Tryd.underlying3 f6
      simp at e0 e1 e2 e3 e4 e5 e6
      subst e0 e1 e2 e3 e4 e5 e6
      exact ⟨⟨q0, q1, q2, q3, q4, q5, q6⟩, rfl, bounds_i64 w6⟩
set_option maxRecDepth 100000 in
/-- an item's cells, read -/
theorem t_cells {H : Type} {enc : TypeId × Value → H} {W : World} {b0 : Nat} {sp : Nat → Bool} {hd : Bool} {n : Nat} {cs : List Value} {x : DataW H × List MemPlace} (hcs : cs.length = 9)
    (h : DataW.trod enc Tryd.prog W b0 sp hd n 56 cs = some x) :
    ∃ y : It, cs = [.int .i64 y.x.op, .bool y.x.wide, .int .i64 y.x.r, .int .i64 y.x.b, .int .i64 y.x.i, .int .i64 y.x.c, .int .i64 y.x.n, .int .i64 y.lab, .int .i64 y.to] ∧ NT y := by
  obtain ⟨xs, n, _, _, _, hlen, hf⟩ := DataW.trod_struct Tryd.underlying56 h
  have f0 := hf 0 _ rfl
  have f1 := hf 1 _ rfl
  have f2 := hf 2 _ rfl
  match cs, hcs with
  | [u0, u1, u2, u3, u4, u5, u6, u7, u8], _ =>
    match xs, hlen with
    | [x0, x1, x2], _ =>
      simp [cellsInt, cellsX] at f0 f1 f2
      obtain ⟨y, hy, hn⟩ := x_cells7 (by rfl) f0
      obtain ⟨q1, e1, _, w1⟩ := DataW.trod_int Tryd.underlying3 f1
      obtain ⟨q2, e2, _, w2⟩ := DataW.trod_int Tryd.underlying3 f2
      simp at e1 e2 hy
      obtain ⟨rfl, rfl, rfl, rfl, rfl, rfl, rfl⟩ := hy
      subst e1 e2
      exact ⟨⟨y, q1, q2⟩, rfl, hn, bounds_i64 w1, bounds_i64 w2⟩
/-- a slice of items, as a value -/
def TsIs (W : World) (v : Value) : Prop := ∃ (L : List It) (A : Option Addr) (cap : Nat), v = .slice A L.length cap ∧ L.length ≤ cap ∧ L.length ≤ 9223372036854775807 ∧ Its W A L
theorem ts_nil (W : World) : TsIs W (.slice none 0 0) := ⟨[], none, 0, rfl, Nat.le_refl _, by decide, fun t ht => by simp at ht, fun h => absurd h (by simp)⟩
theorem ts_some {H : Type} {enc : TypeId × Value → H} {W : World} {b0 : Nat} {sp : Nat → Bool} {hd : Bool} {n : Nat} {D : Nat → DataW H} {Pl : Nat → List MemPlace} (a : Addr) (len cap : Nat) (hl : len ≤ cap) (hm : cap ≤ maxLen)
    (hx : ∀ i, i < len → ∃ cs', W.cells? b0 (a.add (i * Tryd.prog.cellsOf 56)) (Tryd.prog.cellsOf 56) = some cs' ∧ DataW.trod enc Tryd.prog W b0 sp hd n 56 cs' = some (D i, Pl i)) : TsIs W (.slice (some a) len cap) := by
  have each : ∀ i, i < len → ∃ y : It, (W.cell? (a.add (i * 9)) = some (.int .i64 y.x.op) ∧ W.cell? ⟨(a.add (i * 9)).block, (a.add (i * 9)).off + 1, none⟩ = some (.bool y.x.wide) ∧ W.cell? ⟨(a.add (i * 9)).block, (a.add (i * 9)).off + 2, none⟩ = some (.int .i64 y.x.r) ∧
      W.cell? ⟨(a.add (i * 9)).block, (a.add (i * 9)).off + 3, none⟩ = some (.int .i64 y.x.b) ∧ W.cell? ⟨(a.add (i * 9)).block, (a.add (i * 9)).off + 4, none⟩ = some (.int .i64 y.x.i) ∧ W.cell? ⟨(a.add (i * 9)).block, (a.add (i * 9)).off + 5, none⟩ = some (.int .i64 y.x.c) ∧
      W.cell? ⟨(a.add (i * 9)).block, (a.add (i * 9)).off + 6, none⟩ = some (.int .i64 y.x.n) ∧ W.cell? ⟨(a.add (i * 9)).block, (a.add (i * 9)).off + 7, none⟩ = some (.int .i64 y.lab) ∧ W.cell? ⟨(a.add (i * 9)).block, (a.add (i * 9)).off + 8, none⟩ = some (.int .i64 y.to)) ∧ NT y := by
    intro i hi
    obtain ⟨cs', h1, h2⟩ := hx i hi
    rw [cellsT] at h1
    obtain ⟨_, hlen, hcell⟩ := World.cells?_some h1
    obtain ⟨y, rfl, hn⟩ := t_cells hlen h2
    have z := fun k (h : k < 9) => hcell k h
    exact ⟨y, ⟨by simpa [Addr.add] using z 0 (by decide), by simpa [Addr.add] using z 1 (by decide), by simpa [Addr.add] using z 2 (by decide), by simpa [Addr.add] using z 3 (by decide), by simpa [Addr.add] using z 4 (by decide), by simpa [Addr.add] using z 5 (by decide), by simpa [Addr.add] using z 6 (by decide), by simpa [Addr.add] using z 7 (by decide), by simpa [Addr.add] using z 8 (by decide)⟩, hn⟩
  obtain ⟨q, hq⟩ := Go.Deep.choose_lt each
  have hlenL : ((List.range len).map q).length = len := by simp
  unfold maxLen at hm
  refine ⟨(List.range len).map q, some a, cap, by rw [hlenL], by rw [hlenL]; exact hl, by rw [hlenL]; omega, fun t ht => ?_, fun h0 => ⟨a, rfl, ?_, fun i hi => ?_⟩⟩
  · obtain ⟨i, hi, rfl⟩ := List.mem_map.mp ht
    exact (hq i (List.mem_range.mp hi)).2
  · rw [hlenL] at h0
    have := World.block_lt_of_cell? _ _ (hq 0 h0).1.1
    simpa [Addr.add] using this
  · rw [hlenL] at hi
    simpa using (hq i hi).1
end Go.Proofs.YtkfinaongajhmaaDoor.X

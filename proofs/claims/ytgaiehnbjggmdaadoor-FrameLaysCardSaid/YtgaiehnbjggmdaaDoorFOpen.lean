/- The shapes of what the laws of memories are handed: a module, a datum, as values and as cells. -/
import Derived.Test.YtgaiehnbjggmdaaDoorFLay
import Derived.Deep.Slices
import Derived.Deep.Strs
import Derived.WalkKit
import Derived.ProofKit
import Derived.OpenShut
import Derived.ShutString
import Derived.ChangeOld
import Derived.Below
import Derived.SizedLaws
set_option linter.unusedSimpArgs false
namespace Go.Proofs.YtgaiehnbjggmdaaDoorW.PrintWords
open Go.RowKit
theorem ReadsInt.nil (W : World) (k : IntKind) : ReadsInt W k none ([] : List Int).length [] := ⟨rfl, by simp, fun h => absurd h (Nat.lt_irrefl 0)⟩
theorem ReadsInt.ofRow {k : IntKind} {w : World} {a : Option Addr} {len cap : Nat} {zs : List Int} (h : (a = none ∧ len = 0 ∧ cap = 0 ∧ zs = []) ∨ ∃ x, a = some x ∧ len ≤ cap ∧ cap ≤ maxLen ∧ zs.length = cap ∧ (∀ i, i < zs.length → w.cell? (x.add i) = some (.int k (zs.getD i 0))) ∧ ∀ n ∈ zs, (Lit.int k n).wf = true) :
    ∃ l : List Int, len = l.length ∧ ReadsInt w k a l.length l ∧ l.length ≤ maxLen ∧ ∀ x ∈ l, (Lit.int k x).wf = true := by
  rcases h with ⟨rfl, rfl, rfl, rfl⟩ | ⟨x, rfl, hl, hm, hz, hc, hw⟩
  · exact ⟨[], rfl, ReadsInt.nil _ _, Nat.zero_le _, fun x hx => by simp at hx⟩
  · have e : (zs.take len).length = len := by simp; omega
    have hm' : len ≤ maxLen := Nat.le_trans hl hm
    refine ⟨zs.take len, e.symm, ⟨rfl, by rw [e]; simpa [maxLen] using hm', fun _ => ⟨x, rfl, fun j hj => ?_⟩⟩, by rw [e]; exact hm', fun y hy => hw y (List.mem_of_mem_take hy)⟩
    rw [e] at hj
    rw [hc j (by omega)]
    simp [List.getD, List.getElem?_take, hj]
end Go.Proofs.YtgaiehnbjggmdaaDoorW.PrintWords
namespace Go.Proofs.YtgaiehnbjggmdaaDoor.F
open Go.ChangeShapes Go.WideShapes Go.ChangeAt Go.RowKit Go.Proofs.YtgaiehnbjggmdaaDoorW.PrintWords Go.Proofs.YtgaiehnbjggmdaaDoorW.PrintMore
set_option linter.unusedVariables false
set_option linter.unusedSimpArgs false
theorem cellsData : Tryd.prog.cellsOf 134 = 3 := by kernel_rfl
theorem cellsModule : Tryd.prog.cellsOf 70 = 7 := by kernel_rfl
theorem cellsMems : Tryd.prog.cellsOf 66 = 2 := by kernel_rfl
theorem cellsDatas : Tryd.prog.cellsOf 68 = 1 := by kernel_rfl
theorem cells3 : Tryd.prog.cellsOf 3 = 1 := by kernel_rfl
theorem cells9 : Tryd.prog.cellsOf 9 = 1 := by kernel_rfl
set_option maxRecDepth 100000 in
theorem open_data {H : Type} {enc : TypeId × Value → H} {W : World} {m : Nat} {c : List Value} {x : DataW H × List MemPlace} (h : DataW.trod enc Tryd.prog W 0 (fun _ => true) true m 68 c = some x) :
    ∃ A nn cap, ∃ ds : List D3, c = [.slice A nn cap] ∧ ds.length = nn ∧ nn ≤ 9223372036854775807 ∧ CellsD W A ds ∧ ∀ d ∈ ds, d.2.2.size ≤ 9223372036854775807 := by
  rcases Go.Deep.open_slice Tryd.underlying68 h with ⟨hcs, _⟩ | ⟨a, l, cc, m, n, D, Pl, hcs, hb, hl, hm, hmm, hd, hx⟩
  · exact ⟨none, 0, 0, [], hcs, rfl, by omega, fun i hi => absurd hi (by simp), fun d hd => by cases hd⟩
  · simp only [if_true] at hmm
    have each : ∀ i, i < l → ∃ q : D3, (W.cell? (a.add (i * 3)) = some (.int .i64 q.1) ∧ W.cell? ⟨(a.add (i * 3)).block, (a.add (i * 3)).off + 1, none⟩ = some (.int .i64 q.2.1) ∧ W.cell? ⟨(a.add (i * 3)).block, (a.add (i * 3)).off + 2, none⟩ = some (.string q.2.2)) ∧ q.2.2.size ≤ maxLen := by
      intro i hi
      obtain ⟨cs', h1, h2⟩ := hx i (by omega)
      rw [cellsData] at h1
      obtain ⟨_, hlen, hcell⟩ := World.cells?_some h1
      obtain ⟨y0, y1, y2, n', _, _, t0, t1, t2⟩ := Go.Deep.trod_struct3 Tryd.underlying134 h2
      match cs', hlen with
      | [u0, u1, u2], _ =>
        simp [cells3, cells9] at t0 t1 t2
        obtain ⟨q0, e0, _, w0⟩ := DataW.trod_int Tryd.underlying3 t0
        obtain ⟨q1, e1, _, w1⟩ := DataW.trod_int Tryd.underlying3 t1
        obtain ⟨q2, e2, _, w2⟩ := DataW.trod_string Tryd.underlying9 t2
        simp at e0 e1 e2
        subst e0 e1 e2
        have z0 := hcell 0 (by omega)
        have z1 := hcell 1 (by omega)
        have z2 := hcell 2 (by omega)
        refine ⟨(q0, q1, q2), ⟨by simpa [Addr.add] using z0, ?_, ?_⟩, w2⟩
        · simpa [Addr.add] using z1
        · simpa [Addr.add] using z2
    obtain ⟨q, hq⟩ := Go.Deep.choose_lt each
    have hmax : maxLen = 9223372036854775807 := rfl
    refine ⟨some a, l, cc, (List.range l).map q, hcs, by simp, by omega, fun i hi => ?_, fun d hd => ?_⟩
    · have hil : i < l := by simpa using hi
      have := (hq i hil).1
      refine ⟨a, rfl, ?_, ?_⟩
      · have hbk := World.block_lt_of_cell? _ _ this.1
        rwa [add_blk] at hbk
      · simpa using this
    · obtain ⟨i, hi, rfl⟩ := List.mem_map.mp hd
      have := (hq i (List.mem_range.mp hi)).2
      omega
theorem cellsGlobal : Tryd.prog.cellsOf 77 = 2 := by kernel_rfl
theorem cellsGlobals : Tryd.prog.cellsOf 67 = 1 := by kernel_rfl
set_option maxRecDepth 100000 in
theorem open_globals {H : Type} {enc : TypeId × Value → H} {W : World} {m : Nat} {c : List Value} {x : DataW H × List MemPlace} (h : DataW.trod enc Tryd.prog W 0 (fun _ => true) true m 67 c = some x) :
    ∃ G ng cg, ∃ gl : List (Int × Int), c = [.slice G ng cg] ∧ gl.length = ng ∧ ng ≤ cg ∧ ng ≤ 9223372036854775807 ∧ CellsG W G gl ∧ ∀ g ∈ gl, -9223372036854775808 ≤ g.2 ∧ g.2 ≤ 9223372036854775807 := by
  rcases Go.Deep.open_slice Tryd.underlying67 h with ⟨hcs, _⟩ | ⟨a, l, cc, m, n, D, Pl, hcs, hb, hl, hm, hmm, hd, hx⟩
  · exact ⟨none, 0, 0, [], hcs, rfl, by omega, by omega, fun i hi => absurd hi (by simp), fun d hd => by cases hd⟩
  · simp only [if_true] at hmm
    have each : ∀ i, i < l → ∃ q : Int × Int, (W.cell? (a.add (i * 2)) = some (.int .i64 q.1) ∧ W.cell? ⟨(a.add (i * 2)).block, (a.add (i * 2)).off + 1, none⟩ = some (.int .i64 q.2)) ∧ (-9223372036854775808 ≤ q.2 ∧ q.2 ≤ 9223372036854775807) := by
      intro i hi
      obtain ⟨cs', h1, h2⟩ := hx i (by omega)
      rw [cellsGlobal] at h1
      obtain ⟨_, hlen, hcell⟩ := World.cells?_some h1
      obtain ⟨xs, n', _, _, _, hlen2, hf⟩ := DataW.trod_struct Tryd.underlying77 h2
      have f0 := hf 0 _ rfl
      have f1 := hf 1 _ rfl
      match cs', hlen with
      | [u0, u1], _ =>
        match xs, hlen2 with
        | [x0, x1], _ =>
          simp [cells3] at f0 f1
          obtain ⟨q0, e0, _, w0⟩ := DataW.trod_int Tryd.underlying3 f0
          obtain ⟨q1, e1, _, w1⟩ := DataW.trod_int Tryd.underlying3 f1
          simp at e0 e1
          subst e0 e1
          have z0 := hcell 0 (by omega)
          have z1 := hcell 1 (by omega)
          refine ⟨(q0, q1), ⟨by simpa [Addr.add] using z0, ?_⟩, bounds_i64 w1⟩
          simpa [Addr.add] using z1
    obtain ⟨q, hq⟩ := Go.Deep.choose_lt each
    have hmax : maxLen = 9223372036854775807 := rfl
    refine ⟨some a, l, cc, (List.range l).map q, hcs, by simp, hl, by omega, fun i hi => ?_, fun d hd => ?_⟩
    · have hil : i < l := by simpa using hi
      have := (hq i hil).1
      refine ⟨a, rfl, ?_, ?_⟩
      · have hbk := World.block_lt_of_cell? _ _ this.1
        rwa [add_blk] at hbk
      · simpa using this
    · obtain ⟨i, hi, rfl⟩ := List.mem_map.mp hd
      exact (hq i (List.mem_range.mp hi)).2
set_option maxRecDepth 100000 in
theorem open_mod {H : Type} {enc : TypeId × Value → H} {W : World} {base : Nat} {v0 : Value} {x : DataW H × List MemPlace} {m : Nat} (hv : Value.okWide Tryd.prog W .any base 70 v0)
    (h : DataW.trod enc Tryd.prog W 0 (fun _ => true) true m 70 v0.cells.toList = some x) :
    ∃ sg im fn m0 m1 G ng cg A nn cap, ∃ gl : List (Int × Int), ∃ ds : List D3, v0 = .agg #[sg, im, fn, .int .i64 m0, .int .i64 m1, .slice G ng cg, .slice A nn cap] ∧ (gl.length = ng ∧ ng ≤ cg ∧ ng ≤ 9223372036854775807 ∧ CellsG W G gl ∧ ∀ g ∈ gl, -9223372036854775808 ≤ g.2 ∧ g.2 ≤ 9223372036854775807) ∧ ds.length = nn ∧ nn ≤ 9223372036854775807 ∧ CellsD W A ds ∧ ∀ d ∈ ds, d.2.2.size ≤ 9223372036854775807 := by
  obtain ⟨cs, rfl, hcs⟩ := okWide_struct Tryd.underlying70 hv
  rw [cellsModule] at hcs
  obtain ⟨xs, n, _, _, _, hlen, hf⟩ := DataW.trod_struct Tryd.underlying70 h
  have f3 := hf 3 _ rfl
  have f4 := hf 4 _ rfl
  have f5 := hf 5 _ rfl
  obtain ⟨l⟩ := cs
  match l, hcs with
  | [u0, u1, u2, u3, u4, u5, u6], _ =>
    match xs, hlen with
    | [x0, x1, x2, x3, x4, x5], _ =>
      simp [Value.cells, cellsMems, cellsDatas, cellsGlobals] at f3 f4 f5
      obtain ⟨ys, n2, _, _, _, hlen2, hg⟩ := DataW.trod_array Tryd.underlying66 f3
      have g0 := hg 0 (by decide)
      have g1 := hg 1 (by decide)
      match ys, hlen2 with
      | [y0, y1], _ =>
        simp [cells3] at g0 g1
        obtain ⟨q0, e0, _, w0⟩ := DataW.trod_int Tryd.underlying3 g0
        obtain ⟨q1, e1, _, w1⟩ := DataW.trod_int Tryd.underlying3 g1
        simp at e0 e1
        subst e0 e1
        obtain ⟨A, nn, cap, ds, e6, h1, h2, h3, h4⟩ := open_data f5
        simp at e6
        subst e6
        obtain ⟨G, ng, cg, gl, e7, g1, g2, g3, g4, g5⟩ := open_globals f4
        simp at e7
        subst e7
        exact ⟨u0, u1, u2, q0, q1, G, ng, cg, A, nn, cap, gl, ds, rfl, ⟨g1, g2, g3, g4, g5⟩, h1, h2, h3, h4⟩
end Go.Proofs.YtgaiehnbjggmdaaDoor.F

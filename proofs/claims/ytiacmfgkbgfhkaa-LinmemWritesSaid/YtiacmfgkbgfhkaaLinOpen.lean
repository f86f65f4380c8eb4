/- The shapes of what the laws of memories are handed: a module, a datum, as values and as cells. -/
import Derived.Test.YtiacmfgkbgfhkaaLinNew
import Derived.Deep.Slices
import Derived.Deep.Strs
import Derived.WalkKit
import Derived.ProofKit
import Derived.OpenShut
import Derived.ShutString
import Derived.ChangeOld
import Derived.Below
import Derived.SizedLaws
namespace Go.Proofs.Ytiacmfgkbgfhkaa.Lin
open Go.ChangeShapes Go.WideShapes Go.ChangeAt Go.RowKit
set_option linter.unusedVariables false
set_option linter.unusedSimpArgs false
theorem cells48 : Try.prog.cellsOf 48 = 3 := by kernel_rfl
theorem cells38 : Try.prog.cellsOf 38 = 7 := by kernel_rfl
theorem cells34 : Try.prog.cellsOf 34 = 2 := by kernel_rfl
theorem cells36 : Try.prog.cellsOf 36 = 1 := by kernel_rfl
theorem cells3 : Try.prog.cellsOf 3 = 1 := by kernel_rfl
theorem cells9 : Try.prog.cellsOf 9 = 1 := by kernel_rfl
theorem open_data {H : Type} {enc : TypeId × Value → H} {W : World} {m : Nat} {c : List Value} {x : DataW H × List MemPlace} (h : DataW.trod enc Try.prog W 0 (fun _ => true) true m 36 c = some x) :
    ∃ A nn cap, ∃ ds : List D3, c = [.slice A nn cap] ∧ ds.length = nn ∧ nn ≤ 9223372036854775807 ∧ CellsD W A ds ∧ ∀ d ∈ ds, d.2.2.size ≤ 9223372036854775807 := by
  rcases Go.Deep.open_slice Try.underlying36 h with ⟨hcs, _⟩ | ⟨a, l, cc, m, n, D, Pl, hcs, hb, hl, hm, hmm, hd, hx⟩
  · exact ⟨none, 0, 0, [], hcs, rfl, by omega, fun i hi => absurd hi (by simp), fun d hd => by cases hd⟩
  · simp only [if_true] at hmm
    have each : ∀ i, i < l → ∃ q : D3, (W.cell? (a.add (i * 3)) = some (.int .i64 q.1) ∧ W.cell? ⟨(a.add (i * 3)).block, (a.add (i * 3)).off + 1, none⟩ = some (.int .i64 q.2.1) ∧ W.cell? ⟨(a.add (i * 3)).block, (a.add (i * 3)).off + 2, none⟩ = some (.string q.2.2)) ∧ q.2.2.size ≤ maxLen := by
      intro i hi
      obtain ⟨cs', h1, h2⟩ := hx i (by omega)
      rw [cells48] at h1
      obtain ⟨_, hlen, hcell⟩ := World.cells?_some h1
      obtain ⟨y0, y1, y2, n', _, _, t0, t1, t2⟩ := Go.Deep.trod_struct3 Try.underlying48 h2
      match cs', hlen with
      | [u0, u1, u2], _ =>
        simp [cells3, cells9] at t0 t1 t2
        obtain ⟨q0, e0, _, w0⟩ := DataW.trod_int Try.underlying3 t0
        obtain ⟨q1, e1, _, w1⟩ := DataW.trod_int Try.underlying3 t1
        obtain ⟨q2, e2, _, w2⟩ := DataW.trod_string Try.underlying9 t2
        simp at e0 e1 e2
        subst e0 e1 e2
        have z0 := hcell 0 (by omega)
        have z1 := hcell 1 (by omega)
        have z2 := hcell 2 (by omega)
        refine ⟨(q0, q1, q2), ⟨by simpa [Addr.add] using z0, ?_, ?_⟩, w2⟩
        · simpa [Addr.add] using z1
        · simpa [Addr.add] using z2
    obtain ⟨q, hq⟩ := Go.Deep.choose_lt each
    have hmax : maxLen = 9223372036854775807 := rfl
    refine ⟨some a, l, cc, (List.range l).map q, hcs, by simp, by omega, fun i hi => ?_, fun d hd => ?_⟩
    · have hil : i < l := by simpa using hi
      have := (hq i hil).1
      refine ⟨a, rfl, ?_, ?_⟩
      · have hbk := World.block_lt_of_cell? _ _ this.1
        rwa [add_blk] at hbk
      · simpa using this
    · obtain ⟨i, hi, rfl⟩ := List.mem_map.mp hd
      have := (hq i (List.mem_range.mp hi)).2
      omega
theorem open_mod {H : Type} {enc : TypeId × Value → H} {W : World} {base : Nat} {v0 : Value} {x : DataW H × List MemPlace} {m : Nat} (hv : Value.okWide Try.prog W .any base 38 v0)
    (h : DataW.trod enc Try.prog W 0 (fun _ => true) true m 38 v0.cells.toList = some x) :
    ∃ sg im fn gl m0 m1 A nn cap, ∃ ds : List D3, v0 = .agg #[sg, im, fn, .int .i64 m0, .int .i64 m1, gl, .slice A nn cap] ∧ ds.length = nn ∧ nn ≤ 9223372036854775807 ∧ CellsD W A ds ∧ ∀ d ∈ ds, d.2.2.size ≤ 9223372036854775807 := by
  obtain ⟨cs, rfl, hcs⟩ := okWide_struct Try.underlying38 hv
  rw [cells38] at hcs
  obtain ⟨xs, n, _, _, _, hlen, hf⟩ := DataW.trod_struct Try.underlying38 h
  have f3 := hf 3 _ rfl
  have f5 := hf 5 _ rfl
  obtain ⟨l⟩ := cs
  match l, hcs with
  | [u0, u1, u2, u3, u4, u5, u6], _ =>
    match xs, hlen with
    | [x0, x1, x2, x3, x4, x5], _ =>
      simp [Value.cells, cells34, cells36] at f3 f5
      obtain ⟨ys, n2, _, _, _, hlen2, hg⟩ := DataW.trod_array Try.underlying34 f3
      have g0 := hg 0 (by decide)
      have g1 := hg 1 (by decide)
      match ys, hlen2 with
      | [y0, y1], _ =>
        simp [cells3] at g0 g1
        obtain ⟨q0, e0, _, w0⟩ := DataW.trod_int Try.underlying3 g0
        obtain ⟨q1, e1, _, w1⟩ := DataW.trod_int Try.underlying3 g1
        simp at e0 e1
        subst e0 e1
        obtain ⟨A, nn, cap, ds, e6, h1, h2, h3, h4⟩ := open_data f5
        simp at e6
        subst e6
        exact ⟨u0, u1, u2, u5, q0, q1, A, nn, cap, ds, rfl, h1, h2, h3, h4⟩
end Go.Proofs.Ytiacmfgkbgfhkaa.Lin

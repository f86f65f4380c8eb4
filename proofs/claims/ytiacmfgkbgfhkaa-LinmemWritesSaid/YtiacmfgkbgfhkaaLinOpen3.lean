/- The shapes of what the laws of writes are handed: a slice of writes as cells. -/
import Derived.Test.YtiacmfgkbgfhkaaLinOpen
namespace Go.Proofs.Ytiacmfgkbgfhkaa.Lin
open Go.ChangeShapes Go.WideShapes Go.ChangeAt Go.RowKit Go.Proofs.YtiacmfgkbgfhkaaW.PrintWords Go.Proofs.YtiacmfgkbgfhkaaW.PrintMore
set_option linter.unusedVariables false
set_option linter.unusedSimpArgs false
theorem cells55 : Try.prog.cellsOf 55 = 3 := by kernel_rfl
theorem open_writes {H : Type} {enc : TypeId × Value → H} {W : World} {m : Nat} {c : List Value} {x : DataW H × List MemPlace} (h : DataW.trod enc Try.prog W 0 (fun _ => true) true m 50 c = some x) :
    ∃ A nn cap, ∃ ds : List D3, c = [.slice A nn cap] ∧ ds.length = nn ∧ nn ≤ cap ∧ nn ≤ 9223372036854775807 ∧ CellsD W A ds ∧ (∀ d ∈ ds, d.2.2.size ≤ 9223372036854775807) ∧ ∀ d ∈ ds, -9223372036854775808 ≤ d.2.1 ∧ d.2.1 ≤ 9223372036854775807 := by
  rcases Go.Deep.open_slice Try.underlying50 h with ⟨hcs, _⟩ | ⟨a, l, cc, m, n, D, Pl, hcs, hb, hl, hm, hmm, hd, hx⟩
  · exact ⟨none, 0, 0, [], hcs, rfl, Nat.le_refl _, by omega, fun i hi => absurd hi (by simp), (fun d hd => by cases hd), (fun d hd => by cases hd)⟩
  · simp only [if_true] at hmm
    have each : ∀ i, i < l → ∃ q : D3, (W.cell? (a.add (i * 3)) = some (.int .i64 q.1) ∧ W.cell? ⟨(a.add (i * 3)).block, (a.add (i * 3)).off + 1, none⟩ = some (.int .i64 q.2.1) ∧ W.cell? ⟨(a.add (i * 3)).block, (a.add (i * 3)).off + 2, none⟩ = some (.string q.2.2)) ∧ q.2.2.size ≤ maxLen ∧ -9223372036854775808 ≤ q.2.1 ∧ q.2.1 ≤ 9223372036854775807 := by
      intro i hi
      obtain ⟨cs', h1, h2⟩ := hx i (by omega)
      rw [cells55] at h1
      obtain ⟨_, hlen, hcell⟩ := World.cells?_some h1
      obtain ⟨y0, y1, y2, n', _, _, t0, t1, t2⟩ := Go.Deep.trod_struct3 Try.underlying55 h2
      match cs', hlen with
      | [u0, u1, u2], _ =>
        simp [cells3, cells9] at t0 t1 t2
        obtain ⟨q0, e0, _, w0⟩ := DataW.trod_int Try.underlying3 t0
        obtain ⟨q1, e1, _, w1⟩ := DataW.trod_int Try.underlying3 t1
        obtain ⟨q2, e2, _, w2⟩ := DataW.trod_string Try.underlying9 t2
        simp at e0 e1 e2
        subst e0 e1 e2
        have z0 := hcell 0 (by omega)
        have z1 := hcell 1 (by omega)
        have z2 := hcell 2 (by omega)
        refine ⟨(q0, q1, q2), ⟨by simpa [Addr.add] using z0, ?_, ?_⟩, w2, bounds_i64 w1⟩
        · simpa [Addr.add] using z1
        · simpa [Addr.add] using z2
    obtain ⟨q, hq⟩ := Go.Deep.choose_lt each
    have hmax : maxLen = 9223372036854775807 := rfl
    refine ⟨some a, l, cc, (List.range l).map q, hcs, by simp, hl, by omega, fun i hi => ?_, fun d hd => ?_, fun d hd => ?_⟩
    · have hil : i < l := by simpa using hi
      have := (hq i hil).1
      refine ⟨a, rfl, ?_, ?_⟩
      · have hbk := World.block_lt_of_cell? _ _ this.1
        rwa [add_blk] at hbk
      · simpa using this
    · obtain ⟨i, hi, rfl⟩ := List.mem_map.mp hd
      have := (hq i (List.mem_range.mp hi)).2
      omega
    · obtain ⟨i, hi, rfl⟩ := List.mem_map.mp hd
      exact (hq i (List.mem_range.mp hi)).2.2
end Go.Proofs.Ytiacmfgkbgfhkaa.Lin

/- A machine's box, read whole: one rule for the walk. -/
import Derived.Test.YtgaiehnbjggmdaaDoorFRead
namespace Go.Proofs.YtgaiehnbjggmdaaDoor.F
open Go.Ob Go.RowKit Go.Proofs.YtgaiehnbjggmdaaDoorW.PrintWords Go.Proofs.YtgaiehnbjggmdaaDoorW.PrintMore
set_option linter.unusedVariables false
set_option linter.unusedSimpArgs false
/-- v points to a machine's box -/
def IsM (w : World) (v : Value) : Prop := ∃ g cs, v = .pointer (some ⟨g, 0, none⟩) ∧ w.heap[g]? = some (.cells cs 27 (0, 0)) ∧ cs.size = 23
/-- what stands there -/
def atM (w : World) (v : Value) : Value := match v with
  | .pointer (some a) => (match w.heap[a.block]? with
    | some (.cells cs _ _) => .agg cs
    | _ => undef)
  | _ => undef
/-- the load of a machine, not laid open in a walk -/
def loadMI (v : Value) : Sem Value := Instr.loadAt 27 v
theorem loadAt_mach (v : Value) : Instr.loadAt 27 v = loadMI v := rfl
theorem run_loadMI (v : Value) (w : World) (h : IsM w v) : (loadMI v).run Tryd.prog w = .ok (atM w v) w := by
  obtain ⟨g, cs, e, hg, hs⟩ := h
  have hr := run_loadVar_row (P := Tryd.prog) w g 27 27 cs (0, 0) _ hg Tryd.underlying27 rfl (by rw [hs]; kernel_rfl)
  have he : atM w v = .agg cs := by rw [e]; simp only [atM, hg]
  rw [he, e]
  unfold loadMI
  simp only [Instr.loadAt, Instr.sureAddr, Sem.run_bind, Sem.run_pure, Result.andThen_ok, hr]
theorem IsM_drew (w : World) (v : Value) : IsM w.drew v ↔ IsM w v := by
  constructor <;> (intro h; exact h)
theorem atM_drew (w : World) (v : Value) : atM w.drew v = atM w v := by
  have : w.drew.heap = w.heap := rfl
  simp only [atM, this]
theorem isM_of {w : World} {g : Nat} {cs : Array Value} (h : w.heap[g]? = some (.cells cs 27 (0, 0))) (hs : cs.size = 23) : IsM w (.pointer (some ⟨g, 0, none⟩)) := ⟨g, cs, rfl, h, hs⟩
theorem atM_of {w : World} {g : Nat} {cs : Array Value} (h : w.heap[g]? = some (.cells cs 27 (0, 0))) : atM w (.pointer (some ⟨g, 0, none⟩)) = .agg cs := by simp only [atM, h]
end Go.Proofs.YtgaiehnbjggmdaaDoor.F

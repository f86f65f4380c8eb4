/- Two memories are compared: an array of two texts. No condition. -/
import Derived.Test.YtiacmfgkbgfhkaaLinApply
import Derived.Laws.StructEq
namespace Go.Proofs.Ytiacmfgkbgfhkaa.Lin
open Go.Ob Go.RowKit Go.Proofs.YtiacmfgkbgfhkaaW.PrintWords Go.Proofs.YtiacmfgkbgfhkaaW.PrintMore
set_option linter.unusedVariables false
set_option linter.unusedSimpArgs false
theorem eq2 (a b a' b' : ByteArray) (W : World) :
    (Op.equalIn 10000 51 (.agg #[.string a, .string b]) (.agg #[.string a', .string b'])).run Try.prog W = .ok (a == a' && b == b') W := by
  have hs : ∀ W, (sizeOf 9).run Try.prog W = .ok 1 W := fun W => by go_simp
  rw [Op.equalIn]
  simp only [Sem.run_bind, run_underlying Try.underlying51, Result.andThen_ok, hs]
  have hp : ∀ (x y : ByteArray) (W : World), (part 9 #[.string x, .string y] 0).run Try.prog W = .ok (.string x) W := fun x y W => by go_simp
  have hq : ∀ (x y : ByteArray) (W : World), (part 9 #[.string x, .string y] 1).run Try.prog W = .ok (.string y) W := fun x y W => by go_simp
  have he : ∀ (x y : ByteArray) (W : World), (Op.equalIn 9999 9 (.string x) (.string y)).run Try.prog W = .ok (x == y) W := fun x y W => by rw [show (9999 : Nat) = 9998 + 1 from rfl, Op.equalIn]; simp [run_underlying Try.underlying9]
  simp only [Std.Legacy.Range.forIn_eq_forIn_range']
  simp [List.range', hp, hq, he]
  cases a == a' <;> cases b == b' <;> rfl
theorem add_zero (a : Addr) : a.add 0 = a := by unfold Addr.add; exact if_pos rfl
theorem sl_to (A : Option Addr) (n cap k : Nat) (j : Int) (hj : j = k) (hk : k ≤ cap) (W : World) :
    (Instr.slice 50 (.slice A n cap) none (some (.int .i64 j)) none).run Try.prog W = .ok (.slice A k cap) W := by
  have hs : ∀ W, (sizeOf 55).run Try.prog W = .ok 3 W := fun W => by go_simp
  have hm : Option.map (fun a => a.add 0) A = A := by cases A with
    | none => rfl
    | some a => simp [add_zero]
  subst hj
  simp [Instr.slice, Instr.sliceBounds, Instr.sliceBound, asIntOf, run_underlying Try.underlying50, hk, hs, hm]
/-- where a slice's rest begins -/
def tl (A : Option Addr) (cap k : Nat) : Option Addr := if cap = k then A else A.map (·.add (k * 3))
theorem sl_of (A : Option Addr) (n cap k : Nat) (j : Int) (hj : j = k) (hk : k ≤ n) (hn : n ≤ cap) (W : World) :
    (Instr.slice 50 (.slice A n cap) (some (.int .i64 j)) none none).run Try.prog W = .ok (.slice (tl A cap k) (n - k) (cap - k)) W := by
  have hs : ∀ W, (sizeOf 55).run Try.prog W = .ok 3 W := fun W => by go_simp
  subst hj
  simp [Instr.slice, Instr.sliceBounds, Instr.sliceBound, asIntOf, run_underlying Try.underlying50, hk, hn, hs, tl]
theorem CellsD.take {w : World} {A : Option Addr} {ds : List D3} (h : CellsD w A ds) (k : Nat) : CellsD w A (ds.take k) := fun i hi => by
  have hi' : i < ds.length := by rw [List.length_take] at hi; omega
  have := h i hi'
  rwa [List.getElem_take]
end Go.Proofs.Ytiacmfgkbgfhkaa.Lin

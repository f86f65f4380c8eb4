/- A machine that begins is as it must be, or refused: the law's function, whole. -/
import Derived.Test.YtgaiehnbjggmdaaDoorFStartsN
import Derived.Test.YtgaiehnbjggmdaaDoorFOpen
namespace Go.Proofs.YtgaiehnbjggmdaaDoor.F
open Go.Ob Go.RowKit Go.Proofs.YtgaiehnbjggmdaaDoorW.PrintWords Go.Proofs.YtgaiehnbjggmdaaDoorW.PrintMore
theorem reads_blk {W : World} {P : Option Addr} {n : Nat} {xs : List Int} (h : ReadsInt W .i64 P n xs) (hn : 0 < n) (a : Addr) (e : P = some a) : a.block < W.heap.size := by
  obtain ⟨ad, e2, hc⟩ := h.2.2 hn
  have := World.block_lt_of_cell? _ _ (hc 0 hn)
  rw [add_blk] at this
  rw [e2] at e
  obtain rfl := Option.some.inj e
  exact this
theorem Starts (sg im fn : Value) (m0 m1 : Int) (G : Option Addr) (ng cg : Nat) (A : Option Addr) (nd cd : Nat) (gl : List (Int × Int)) (ds : List D3) (code : ByteArray) (halt entry : Int) (args : List Int) (P : Option Addr) (na ca : Nat) (w : World) (hg : Glb w)
    (hG : gl.length = ng ∧ ng ≤ cg ∧ ng ≤ 9223372036854775807 ∧ CellsG w G gl ∧ ∀ g ∈ gl, -9223372036854775808 ≤ g.2 ∧ g.2 ≤ 9223372036854775807) (hds : ds.length = nd) (hnd : nd ≤ 9223372036854775807) (hD : CellsD w A ds) (_hz : ∀ d ∈ ds, d.2.2.size ≤ 9223372036854775807)
    (hs : code.size ≤ 140737488351232) (hh : -9223372036854775808 ≤ halt ∧ halt ≤ 9223372036854775807) (he : -9223372036854775808 ≤ entry ∧ entry ≤ 9223372036854775807) (hr : ReadsInt w .i64 P na args) (hw : ∀ x ∈ args, (Lit.int .i64 x).wf = true) :
    Calls Tryd.prog 11 #[modV sg im fn m0 m1 G ng cg A nd cd, .string code, .int .i64 halt, .int .i64 entry, .slice P na ca] w fun e w' => e = .returned (.bool true) ∧ Below w.heap.size w w' := by
  obtain ⟨g1, g2, g3, g4, _⟩ := hG
  by_cases h : entry < 0 ∨ ((min code.size 3000 : Nat) : Int) ≤ entry ∨ 4 < na
  · exact Starts_no sg im fn m0 m1 G A gl ds ng cg nd cd code halt entry P na ca w hg g1 g3 g2 g4 hds hnd hD (by omega) hr.2.1 hh he h
  · exact Starts_ok sg im fn m0 m1 G A gl ds ng cg nd cd code halt entry P na ca args w hg g1 g3 g2 g4 hds hnd hD (by omega) hr.1 (by omega) hr (fun hn a e => reads_blk hr hn a e) (fun v hv => bounds_i64 (hw v hv)) hh (by omega) (by omega)
end Go.Proofs.YtgaiehnbjggmdaaDoor.F

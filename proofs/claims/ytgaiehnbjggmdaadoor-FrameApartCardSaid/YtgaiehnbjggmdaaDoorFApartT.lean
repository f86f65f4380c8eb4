/- No two regions touch: the law's function, as its row asks. -/
import Derived.Test.YtgaiehnbjggmdaaDoorFApart
import Derived.Test.YtgaiehnbjggmdaaDoorFOpen
namespace Go.Proofs.YtgaiehnbjggmdaaDoor.F
open Go.Ob Go.RowKit Go.Proofs.YtgaiehnbjggmdaaDoorW.PrintWords Go.Proofs.YtgaiehnbjggmdaaDoorW.PrintMore
theorem ApartT (sg im fn : Value) (m0 m1 : Int) (G : Option Addr) (ng cg : Nat) (A : Option Addr) (nd cd : Nat) (gl : List (Int × Int)) (ds : List D3) (code : ByteArray) (w : World) (hg : Glb w)
    (hG : gl.length = ng ∧ ng ≤ cg ∧ ng ≤ 9223372036854775807 ∧ CellsG w G gl ∧ ∀ g ∈ gl, -9223372036854775808 ≤ g.2 ∧ g.2 ≤ 9223372036854775807) (hds : ds.length = nd) (hnd : nd ≤ 9223372036854775807) (hD : CellsD w A ds) (_hz : ∀ d ∈ ds, d.2.2.size ≤ 9223372036854775807)
    (hs : code.size ≤ 140737488351232) :
    Calls Tryd.prog 10 #[modV sg im fn m0 m1 G ng cg A nd cd, .string code] w fun e w' => e = .returned (.bool true) ∧ Below w.heap.size w w' := by
  obtain ⟨g1, g2, g3, g4, g5⟩ := hG
  exact Apart_w sg im fn m0 m1 G A gl ds ng cg nd cd code w hg g1 g3 g2 g4 g5 hds hnd hD (by omega)
end Go.Proofs.YtgaiehnbjggmdaaDoor.F

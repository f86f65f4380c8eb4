/- AsmNames, for a slice of items as a parameter. -/
import Derived.Test.YtkfinaongajhmaaDoorAOpen
import Derived.Test.YtkfinaongajhmaaDoorANames
namespace Go.Proofs.YtkfinaongajhmaaDoor.X
open Go.Ob Go.Ob.Xc Go.RowKit
theorem NamesT (v : Value) (d0 : Int) (w : World) (ht : Tab w) (hv : TsIs w v) (hd0 : -9223372036854775808 ≤ d0 ∧ d0 ≤ 9223372036854775807) :
    Calls Tryd.prog 13 #[v, .int .i64 d0] w fun e w' => e = .returned (.bool true) ∧ Below w.heap.size w w' := by
  obtain ⟨L, A, cap, rfl, hc, hl, hi⟩ := hv
  exact Names L A cap d0 w ht hi hc hl hd0
end Go.Proofs.YtkfinaongajhmaaDoor.X

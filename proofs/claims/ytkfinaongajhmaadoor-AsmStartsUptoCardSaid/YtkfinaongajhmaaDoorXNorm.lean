/- A way out by the normal end alone. -/
import Derived.Test.YtkfinaongajhmaaDoorXSmall
namespace Go.Proofs.YtkfinaongajhmaaDoor.X
open Go.Ob Go.Ob.Xc Go.RowKit
def ExN (R : Act → World → Prop) (e : Exit) (a : Act) (w : World) : Prop := e = .normal ∧ R a w
theorem monoN {P : Program} {c : Code} {a : Act} {w : World} {Q : Exit → Act → World → Prop} {R : Act → World → Prop} (hq : ∀ a w, R a w → Q .normal a w) (h : c.wp P (ExN R) a w) : c.wp P Q a w :=
  Code.wp_mono (fun e a w q => by obtain ⟨rfl, hr⟩ := q; exact hq a w hr) h
theorem block_n {id : Nat} {Q : Exit → Act → World → Prop} {a : Act} {w : World} (h : Q .normal a w) : Exit.inBlock id Q .normal a w := h
end Go.Proofs.YtkfinaongajhmaaDoor.X

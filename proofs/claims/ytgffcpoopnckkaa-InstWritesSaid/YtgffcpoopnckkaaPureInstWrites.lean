/- Any instruction is one or not, of a kind, and is written, as the chapter says, or refused. -/
import Derived.Test.YtgffcpoopnckkaaInstLaws
import Derived.Test.YtgffcpoopnckkaaInstRef
import Derived.Test.YtgffcpoopnckkaaMIWrites
namespace Go.Proofs.Ytgffcpoopnckkaa.Pure
open Go.RowKit Go.Proofs.YtgffcpoopnckkaaW.PrintWords Go.Proofs.YtgffcpoopnckkaaW.PrintLast Go.Proofs.YtgffcpoopnckkaaW.PrintMore Go.Proofs.Ytgffcpoopnckkaa.MI Go.Proofs.Ytgffcpoopnckkaa.CoreInst Go.Ob Go.Ob.Leb Go.Ob.Inst
set_option linter.unusedVariables false
set_option linter.unusedSimpArgs false
theorem InstWrites (op n m : Int) (w0 : (Lit.int .i64 op).wf = true) (w1 : (Lit.int .i64 n).wf = true) (w2 : (Lit.int .i64 m).wf = true) :
    ∃ k, oubliettelaw04_InstWrites.f k op n m = some true := by
  refine ⟨80, ?_⟩
  have hn := bounds_i64 w1
  have hm := bounds_i64 w2
  unfold oubliettelaw04_InstWrites.f
  rw [examples_true 80 (by decide), Option.bind_some]
  cases hr : rt op n m with
  | false =>
    rw [Bytes_no op n m hr 80 (by decide), rBytes_no op n m hr 80 (by decide), Kind_eq op 80 (by decide), rKind_eq op 80 (by decide), Right_eq op n m 80 (by decide), rRight_eq op n m 80 (by decide), hr]
    simp
  | true =>
    rw [Bytes_ok op n m hn.1 hn.2 hr 80 (by decide), rBytes_ok op n m hn.1 hn.2 hm.1 hm.2 hr 80 (by decide), Kind_eq op 80 (by decide), rKind_eq op 80 (by decide), Right_eq op n m 80 (by decide), rRight_eq op n m 80 (by decide), hr]
    simp
end Go.Proofs.Ytgffcpoopnckkaa.Pure

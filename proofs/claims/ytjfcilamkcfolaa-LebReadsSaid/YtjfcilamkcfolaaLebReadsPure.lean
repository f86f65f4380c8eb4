/- Any bytes are read as a number without a sign, and with one, of any many bits, as the chapter says, or refused: for any bytes and any number of bits. No condition. This text is the plain law. -/
import Derived.Test.YtjfcilamkcfolaaLebRefTakeLebReads
import Derived.Test.YtjfcilamkcfolaaOLebReadsx5
namespace Go.Proofs.Ytjfcilamkcfolaa.Pure
open Go.RowKit Go.Proofs.Ytjfcilamkcfolaa.PLebReads Go.Proofs.YtjfcilamkcfolaaW.PrintWords Go.Proofs.Ytjfcilamkcfolaa.CoreLebReads Go.Ob Go.Ob.Leb
theorem LebReads : oubliettelaw01_LebReads.Pure := by
  intro s bits hs wn
  have hb := bounds_i64 wn
  refine ⟨50, ?_⟩
  have hex : oubliettelaw01_examples.f 50 = some true := by decide +kernel
  unfold oubliettelaw01_LebReads.f
  simp only [hex, TakeU_eq s bits hb.1 hb.2 50 (by omega), TakeS_eq s bits hb.1 hb.2 50 (by omega), rTakeU_eq s bits hb.1 hb.2 50 (by omega), rTakeS_eq s bits hb.1 hb.2 50 (by omega), Option.bind_some, if_true, beq_self_eq_true]
end Go.Proofs.Ytjfcilamkcfolaa.Pure

/- Any number is written, with and without a sign, as the chapter says, or refused: for any number. No condition. This text is the plain law. -/
import Derived.Test.YtjfcilamkcfolaaLebRefUSLebWrites
namespace Go.Proofs.Ytjfcilamkcfolaa.WritesPure
open Go.RowKit Go.Proofs.Ytjfcilamkcfolaa.PLebWrites Go.Proofs.YtjfcilamkcfolaaW.PrintWords Go.Proofs.Ytjfcilamkcfolaa.CoreLebWrites Go.Ob Go.Ob.Leb
theorem LebWrites : oubliettelaw01_LebWrites.Pure := by
  intro n wn
  have hb := bounds_i64 wn
  refine ⟨30, ?_⟩
  have hex : oubliettelaw01_examples.f 30 = some true := by decide +kernel
  unfold oubliettelaw01_LebWrites.f leb_Size.f oublietteref01_Size.f
  simp only [hex, S_eq n hb.1 hb.2 30 (by omega), rS_eq n hb.1 hb.2 30 (by omega), Option.bind_some, if_true, beq_self_eq_true]
  by_cases h0 : n < 0
  · simp only [U_neg n h0, rU_neg n h0, Option.bind_some, if_true, Bool.false_eq_true, if_false]
  · simp only [U_pos n (by omega) hb.2 30 (by omega), rU_pos n (by omega) hb.2 30 (by omega), Option.bind_some, if_true]
theorem walk (a0 : Int) (w : World) (w0 : (Lit.int .i64 a0).wf = true) : Calls Try.prog 6 #[.int .i64 a0] w fun e w' => e = .returned (.bool true) ∧ Below w.heap.size w w' := oubliettelaw01_LebWrites.walk LebWrites a0 w w0
end Go.Proofs.Ytjfcilamkcfolaa.WritesPure

/- What Encode and Decode answer, way by way. No condition but the numbers' bounds and that the table of conditions holds what the program's text lays. -/
import Derived.Test.YtkfinaongajhmaaDoorXFields2
import Derived.Test.YtkfinaongajhmaaDoorXSizesLaw
namespace Go.Proofs.YtkfinaongajhmaaDoor.X
open Go.Ob Go.Ob.Xc Go.RowKit Go.Proofs.YtkfinaongajhmaaDoorW.PrintWords Go.Proofs.YtkfinaongajhmaaDoorW.PrintMore
set_option linter.unusedVariables false
set_option linter.unusedSimpArgs false
theorem cand_n (s : ByteArray) : NB (cand (bl s)) := by
  unfold cand
  split
  · rename_i h
    rw [← bl_tail s (size_pos (by omega))]
    exact body_n _ _ _ _ _
  · exact body_n _ _ _ _ _
/-- an instruction that is one: its bytes, as a text -/
theorem enc_way (x : XI) (hn : NB x) (h : right x = true) : ∃ t : ByteArray, 1 ≤ t.size ∧ t.size ≤ 10 ∧ bl t = enc x ∧ (∀ W, Tab W → Calls Tryd.prog 16 #[xv x] W fun e w' => e = .returned (.tuple #[.string t, .int .i64 0]) ∧ Below W.heap.size W w') ∧
    ∀ rest : ByteArray, decA (bl (t ++ rest)) = .tuple #[xv x, .int .i64 t.size, .int .i64 0] := by
  have hb := bl_num _ (enc_okl h)
  have hz : (strOfNums (enc x)).size = (enc x).length := by rw [← bl_length, hb]
  obtain ⟨s1, s2, -⟩ := sizes h
  refine ⟨strOfNums (enc x), by omega, by omega, hb, fun W hW => Encode_ok x W h hW hn, fun rest => ?_⟩
  unfold decA
  rw [bl_append, hb, dec_enc x (bl rest) h hn, hz]
/-- bytes that are an instruction, or none -/
theorem dec_way (s : ByteArray) : decA (bl s) = .tuple #[xv ⟨0, false, 0, 0, 0, 0, 0⟩, .int .i64 0, .int .i64 6] ∨
    ∃ (y : XI) (t : ByteArray), NB y ∧ right y = true ∧ bl t = enc y ∧ 1 ≤ t.size ∧ t.size ≤ 10 ∧ t.size ≤ s.size ∧ s.extract 0 t.size = t ∧ decA (bl s) = .tuple #[xv y, .int .i64 t.size, .int .i64 0] ∧
      (∀ W, Tab W → Calls Tryd.prog 16 #[xv y] W fun e w' => e = .returned (.tuple #[.string t, .int .i64 0]) ∧ Below W.heap.size W w') := by
  rcases decA_cases (bl s) _ rfl with ⟨h, hA⟩ | ⟨h, h2, hA⟩ | ⟨h, h2, hA⟩
  · exact .inl hA
  · exact .inl hA
  · have hb := bl_num _ (enc_okl h)
    have hz : (strOfNums (enc (cand (bl s)))).size = (enc (cand (bl s))).length := by rw [← bl_length, hb]
    have hp := of_decide_eq_true h2
    have hle := hp.length_le
    rw [bl_length] at hle
    obtain ⟨s1, s2, -⟩ := sizes h
    refine .inr ⟨cand (bl s), strOfNums (enc (cand (bl s))), cand_n s, h, hb, by omega, by omega, by omega, ?_, by rw [hA, hz], fun W hW => Encode_ok _ W h hW (cand_n s)⟩
    apply bl_inj
    rw [bl_extract, hb, hz]
    simp only [List.drop_zero, Nat.sub_zero]
    exact (List.prefix_iff_eq_take.mp hp).symm
end Go.Proofs.YtkfinaongajhmaaDoor.X

/- XcodeReads: the walk. No condition but lengths. -/
import Derived.Test.YtkfinaongajhmaaDoorRDecode
import Derived.BigQuiet
namespace Go.Proofs.YtkfinaongajhmaaDoor.X
open Go.Ob Go.Ob.Xc Go.RowKit Go.Proofs.YtkfinaongajhmaaDoorW.PrintWords Go.Proofs.YtkfinaongajhmaaDoorW.PrintMore
attribute [local go_sem] max2_int min2_int max_two min_two
set_option linter.unusedVariables false
set_option linter.unusedSimpArgs false
/-- both readers' answers -/
theorem dec_both (s : ByteArray) : ∃ (x : XI) (k : Nat) (e : Int) (ok : Bool), ((e = 0 ∧ ok = true) ∨ (e = 6 ∧ ok = false)) ∧ decA (bl s) = .tuple #[xv x, .int .i64 k, .int .i64 e] ∧ rdecA (bl s) = .tuple #[xv x, .int .i64 k, .bool ok] := by
  cases h : dec (bl s) with
  | none => exact ⟨⟨0, false, 0, 0, 0, 0, 0⟩, 0, 6, false, .inr ⟨rfl, rfl⟩, by unfold decA; rw [h]; rfl, by unfold rdecA; rw [h]; rfl⟩
  | some p => obtain ⟨y, k⟩ := p; exact ⟨y, k, 0, true, .inl ⟨rfl, rfl⟩, by unfold decA; rw [h], by unfold rdecA; rw [h]⟩
set_option maxHeartbeats 16000000 in
set_option maxRecDepth 100000 in
theorem XReads (s : ByteArray) (w : World) (ht : Tab w) (hs : s.size ≤ 281474976710656) :
    Calls Tryd.prog 4 #[.string s] w fun e w' => e = .returned (.bool true) ∧ Below w.heap.size w w' := by
  obtain ⟨x, k, e, ok, hv, hA, hB⟩ := dec_both s
  have hD := fun W (hW : Tab W) => Decode s W hW hs
  have hR := fun W => RDecode s W hs
  rw [hA] at hD
  rw [hB] at hR
  have HD := Aside0.mk hD
  have HR := Aside0.mk hR
  have HE := Aside0.mk (Examples w ht)
  have HT := Aside0.mk ht
  clear hD hR ht hA hB
  obtain ⟨o, wd, r, b, i, c, n⟩ := x
  have hq := eqx ⟨o, wd, r, b, i, c, n⟩ ⟨o, wd, r, b, i, c, n⟩
  rw [show eqX ⟨o, wd, r, b, i, c, n⟩ ⟨o, wd, r, b, i, c, n⟩ = true from (eqX_iff _ _).mpr rfl] at hq
  dsimp only [xv] at hq
  rcases hv with ⟨rfl, rfl⟩ | ⟨rfl, rfl⟩
  all_goals
    go_enter Tryd.func4, Tryd.ntmps4
    go_wp2_with (first
      | (go_at_call 15; (with_reducible refine HE.out.mono ?_); rintro e w1 ⟨rfl, hb⟩; have H1 := Aside0.mk hb; clear hb)
      | (go_at_call 20; (with_reducible refine (HD.out _ (HT.out.below H1.out)).mono ?_); rintro e w2 ⟨rfl, hb⟩; have H2 := Aside0.mk (H1.out.trans (hb.mono H1.out.size)); clear hb)
      | (go_at_call 21; (with_reducible refine (HR.out _).mono ?_); rintro e w3 ⟨rfl, hb⟩; have H3 := Aside0.mk ((H2.out.alloc H2.out.size _).trans (hb.mono (Nat.le_trans H2.out.size (by simp)))); have X3 := blk_below (blk_new w2 (.cells #[.int .i64 o, .bool wd, .int .i64 r, .int .i64 b, .int .i64 i, .int .i64 c, .int .i64 n] 23)) hb; have q0 := fun ob => (cell7 (blk_alloc X3 ob)).1; have q1 := fun ob => (cell7 (blk_alloc X3 ob)).2.1; have q2 := fun ob => (cell7 (blk_alloc X3 ob)).2.2.1; have q3 := fun ob => (cell7 (blk_alloc X3 ob)).2.2.2.1; have q4 := fun ob => (cell7 (blk_alloc X3 ob)).2.2.2.2.1; have q5 := fun ob => (cell7 (blk_alloc X3 ob)).2.2.2.2.2.1; have q6 := fun ob => (cell7 (blk_alloc X3 ob)).2.2.2.2.2.2; clear hb X3))
    go_ret
    exact ⟨by first | rfl | simp, by with_reducible first | exact H3.out.alloc H3.out.size _ | exact (H3.out.alloc H3.out.size _).drew⟩
theorem XReadsT (s : ByteArray) (w : World) (ht : Tab w) (hs : s.size ≤ 140737488351232) :
    Calls Tryd.prog 4 #[.string s] w fun e w' => e = .returned (.bool true) ∧ Below w.heap.size w w' := XReads s w ht (by omega)
end Go.Proofs.YtkfinaongajhmaaDoor.X

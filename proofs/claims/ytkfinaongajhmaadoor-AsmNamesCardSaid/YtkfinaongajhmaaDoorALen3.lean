/- The assembler's length of an item: what the program's function computes, whole. -/
import Derived.Test.YtkfinaongajhmaaDoorALen2
namespace Go.Proofs.YtkfinaongajhmaaDoor.X
open Go.Ob Go.Ob.Xc Go.RowKit Go.Proofs.YtkfinaongajhmaaDoorW.PrintWords Go.Proofs.YtkfinaongajhmaaDoorW.PrintMore
attribute [local go_sem] max2_int min2_int max_two min_two
set_option linter.unusedVariables false
set_option linter.unusedSimpArgs false
set_option maxHeartbeats 16000000 in
set_option maxRecDepth 100000 in
theorem LenEnc (t : It) (w : World) (ht : Tab w) (hn : NB t.x) (h : toOk t) (hl : t.lab = 0) : Calls Tryd.prog 53 #[tv t] w fun e w' => e = .returned (lenA t) ∧ Below w.heap.size w w' := by
  obtain ⟨s, ev, ok, hE, hv, hA⟩ : ∃ (s : ByteArray) (ev : Int) (ok : Bool), (∀ W, Tab W → Calls Tryd.prog 16 #[xv t.x] W fun e w' => e = .returned (.tuple #[.string s, .int .i64 ev]) ∧ Below W.heap.size W w') ∧ ((ev = 0 ∧ ok = true) ∨ (ev = 4 ∧ ok = false)) ∧ lenA t = .tuple #[.int .i64 s.size, .bool ok] := by
    by_cases hr : right t.x = true
    · refine ⟨_, _, true, fun W hW => Encode_ok t.x W hr hW hn, .inl ⟨rfl, rfl⟩, len_of ?_⟩
      unfold lenI
      rw [if_pos h, if_pos hl, if_pos hr, ← bl_length, bl_num _ (enc_okl hr)]
      exact ⟨rfl, rfl⟩
    · refine ⟨_, _, false, fun W hW => Encode_no t.x W (Bool.eq_false_iff.mpr hr) hW hn, .inr ⟨rfl, rfl⟩, len_of ?_⟩
      unfold lenI
      rw [if_pos h, if_pos hl, if_neg hr]
      exact ⟨rfl, rfl⟩
  rw [hA]
  have HE := Aside0.mk (hE _ (ht.below (below_alloc (Below.refl w.heap.size w) (to_ t))))
  clear hE hA ht hn
  obtain ⟨⟨o, wd, r, b, i, c, n⟩, lab, jt⟩ := t
  dsimp only at hl
  subst hl
  have hc : ((o = 17 ∨ o = 18 ∨ o = 19) ∧ jt = 0) ∨ ((o = 17 ∨ o = 18 ∨ o = 19) ∧ 0 < jt ∧ n = 0) ∨ ((¬ o = 17 ∧ ¬ o = 18 ∧ ¬ o = 19) ∧ jt = 0) := by
    unfold toOk isJ at h
    dsimp only at h
    omega
  clear h
  rcases hc with ⟨rfl | rfl | rfl, rfl⟩ | ⟨rfl | rfl | rfl, h1, rfl⟩ | ⟨⟨h0, h1, h2⟩, rfl⟩ <;> rcases hv with ⟨rfl, rfl⟩ | ⟨rfl, rfl⟩
  all_goals
    try (have e1 : (o == 17) = false := beq_eq_false_iff_ne.mpr h0)
    try (have e2 : (o == 18) = false := beq_eq_false_iff_ne.mpr h1)
    try (have e3 : (o == 19) = false := beq_eq_false_iff_ne.mpr h2)
    go_enter Tryd.func53, Tryd.ntmps53
    go_wp2_with (go_at_call 16; (with_reducible refine HE.out.mono ?_); rintro e w1 ⟨rfl, hb⟩; have H1 := Aside0.mk ((below_alloc (Below.refl w.heap.size w) _).trans (hb.mono (by simp))); clear hb)
    go_ret2
    exact ⟨rfl, H1.out⟩
/-- an item's length -/
theorem Length (t : It) (w : World) (ht : Tab w) (hn : NB t.x) : Calls Tryd.prog 53 #[tv t] w fun e w' => e = .returned (lenA t) ∧ Below w.heap.size w w' := by
  by_cases h : toOk t
  · by_cases hl : t.lab = 0
    · exact LenEnc t w ht hn h hl
    · exact LenLab t w h hl
  · exact LenBad t w h
end Go.Proofs.YtkfinaongajhmaaDoor.X

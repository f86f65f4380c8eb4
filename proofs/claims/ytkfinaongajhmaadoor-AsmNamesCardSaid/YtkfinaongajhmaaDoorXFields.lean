/- XcodeFields: what an instruction does not have must be nought. -/
import Derived.Test.YtkfinaongajhmaaDoorXExamples
namespace Go.Ob.Xc
theorem right_r {o : Int} {wd : Bool} {b i c n : Int} : right ⟨o, wd, 16, b, i, c, n⟩ = false := by
  rw [Bool.eq_false_iff]
  intro h
  have hc := right_cases h
  simp [reg_iff] at hc
theorem right_b {o : Int} {wd : Bool} {r i c n : Int} : right ⟨o, wd, r, -1, i, c, n⟩ = false := by
  rw [Bool.eq_false_iff]
  intro h
  have hc := right_cases h
  simp [reg_iff] at hc
theorem right_i {o : Int} {wd : Bool} {r b c n : Int} : right ⟨o, wd, r, b, 5, c, n⟩ = false := by
  rw [Bool.eq_false_iff]
  intro h
  have hc := right_cases h
  simp [idx] at hc
theorem right_o {wd : Bool} {r b i c n : Int} : right ⟨24, wd, r, b, i, c, n⟩ = false := by
  rw [Bool.eq_false_iff]
  intro h
  have hc := right_cases h
  simp at hc
end Go.Ob.Xc
namespace Go.Proofs.YtkfinaongajhmaaDoor.X
open Go.Ob Go.Ob.Xc Go.RowKit Go.Proofs.YtkfinaongajhmaaDoorW.PrintWords Go.Proofs.YtkfinaongajhmaaDoorW.PrintMore
attribute [local go_sem] max2_int min2_int max_two min_two
set_option linter.unusedVariables false
set_option linter.unusedSimpArgs false
set_option maxHeartbeats 16000000 in
set_option maxRecDepth 100000 in
theorem FieldsNo (x : XI) (k : Int) (w : World) (ht : Tab w) (hn : -9223372036854775808 ≤ x.n ∧ x.n ≤ 9223372036854775807) (h : right x = false) :
    Calls Tryd.prog 7 #[xv x, .int .i64 k] w fun e w' => e = .returned (.bool true) ∧ Below w.heap.size w w' := by
  obtain ⟨o, wd, r, b, i, c, n⟩ := x
  have HE := Aside0.mk (Examples (w.alloc (xo ⟨o, wd, r, b, i, c, n⟩)) (ht.below (below_alloc (Below.refl _ _) _)))
  have HR := Aside0.mk (fun W (hW : Tab W) => Right ⟨o, wd, r, b, i, c, n⟩ W hW hn)
  rw [h] at HR
  have HT := Aside0.mk (ht.below (below_alloc (Below.refl _ _) (xo ⟨o, wd, r, b, i, c, n⟩)))
  clear ht hn h
  go_enter Tryd.func7, Tryd.ntmps7
  go_upto_region 2 with (go_at_call 15; (with_reducible refine HE.out.mono ?_); rintro e w1 ⟨rfl, hb⟩; have q := bcell hb; rw [World.size_alloc] at q; have H1 := Aside0.mk (And.intro (HT.out.below hb) hb); clear hb; obtain ⟨q1, q2⟩ := q)
  go_wp2_with (go_at_call 18; refine (HR.out _ H1.out.1).mono ?_; rintro e w2 ⟨rfl, hb⟩; have H2 := Aside0.mk hb; clear hb)
  go_ret
  exact ⟨rfl, (below_alloc (Below.refl w.heap.size w) _).trans ((H1.out.2.mono (by simp)).trans (H2.out.mono (by have := H1.out.2.size; simp at this; omega)))⟩
end Go.Proofs.YtkfinaongajhmaaDoor.X

/- XcodeSizes: the walk. -/
import Derived.Test.YtkfinaongajhmaaDoorXExamples
import Derived.Test.YtkfinaongajhmaaDoorXSizesLaw
namespace Go.Proofs.YtkfinaongajhmaaDoor.X
open Go.Ob Go.Ob.Xc Go.RowKit Go.Proofs.YtkfinaongajhmaaDoorW.PrintWords Go.Proofs.YtkfinaongajhmaaDoorW.PrintMore
attribute [local go_sem] max2_int min2_int max_two min_two
set_option linter.unusedVariables false
set_option linter.unusedSimpArgs false
set_option maxHeartbeats 16000000 in
set_option maxRecDepth 100000 in
theorem SizesNo (x : XI) (w : World) (ht : Tab w) (hn : -9223372036854775808 ≤ x.n ∧ x.n ≤ 9223372036854775807) (h : right x = false) :
    Calls Tryd.prog 8 #[xv x] w fun e w' => e = .returned (.bool true) ∧ Below w.heap.size w w' := by
  obtain ⟨o, wd, r, b, i, c, n⟩ := x
  have HE := Aside0.mk (Examples (w.alloc (xo ⟨o, wd, r, b, i, c, n⟩)) (ht.below (below_alloc (Below.refl _ _) _)))
  have HR := Aside0.mk (fun W (hW : Tab W) => Encode_no ⟨o, wd, r, b, i, c, n⟩ W h hW hn)
  have HT := Aside0.mk (ht.below (below_alloc (Below.refl _ _) (xo ⟨o, wd, r, b, i, c, n⟩)))
  clear ht hn h
  go_enter Tryd.func8, Tryd.ntmps8
  go_upto_region 2 with (go_at_call 15; (with_reducible refine HE.out.mono ?_); rintro e w1 ⟨rfl, hb⟩; have q := bcell hb; rw [World.size_alloc] at q; have H1 := Aside0.mk (And.intro (HT.out.below hb) hb); clear hb; obtain ⟨q1, q2⟩ := q)
  go_wp2_with (go_at_call 16; refine (HR.out _ H1.out.1).mono ?_; rintro e w2 ⟨rfl, hb⟩; have H2 := Aside0.mk hb; clear hb)
  go_ret
  exact ⟨rfl, (below_alloc (Below.refl w.heap.size w) _).trans ((H1.out.2.mono (by simp)).trans (H2.out.mono (by have := H1.out.2.size; simp at this; omega)))⟩
set_option maxHeartbeats 16000000 in
set_option maxRecDepth 100000 in
theorem SizesYes (x : XI) (w : World) (ht : Tab w) (hn : -9223372036854775808 ≤ x.n ∧ x.n ≤ 9223372036854775807) (h : right x = true) :
    Calls Tryd.prog 8 #[xv x] w fun e w' => e = .returned (.bool true) ∧ Below w.heap.size w w' := by
  obtain ⟨s1, s2, s3, s4, s5⟩ := sizes h
  have hz : (strOfNums (enc x)).size = (enc x).length := by rw [← bl_length, bl_num _ (enc_okl h)]
  have hb0 : ∀ hl : 0 < (strOfNums (enc x)).size, at0 (enc x) 0 = ((strOfNums (enc x))[0].toNat : Int) := fun hl => by
    have := at0_byte (strOfNums (enc x)) 0 hl
    rwa [bl_num _ (enc_okl h)] at this
  have HE := Aside0.mk (Examples (w.alloc (xo x)) (ht.below (below_alloc (Below.refl _ _) _)))
  have HR := Aside0.mk (fun W (hW : Tab W) => Encode_ok x W h hW hn)
  have HT := Aside0.mk (ht.below (below_alloc (Below.refl _ _) (xo x)))
  rw [← hz] at s1 s2 s3 s4
  generalize strOfNums (enc x) = t at *
  have hb1 := hb0 (by omega)
  rw [hb1] at s5
  clear hb0 hb1 ht hn h
  obtain ⟨o, wd, r, b, i, c, n⟩ := x
  dsimp only at s3 s4 s5
  have hlt : 0 < t.size := by omega
  have hA : (64 ≤ t[0].toNat ∧ t[0].toNat < 80) ↔ (7 < r ∨ 7 < b ∨ 8 < i ∨ wd = true) := by rw [← s5]; omega
  have hc : ((64 ≤ t[0].toNat ∧ t[0].toNat < 80) ∧ 7 < r) ∨ ((64 ≤ t[0].toNat ∧ t[0].toNat < 80) ∧ ¬ 7 < r ∧ 7 < b) ∨ ((64 ≤ t[0].toNat ∧ t[0].toNat < 80) ∧ ¬ 7 < r ∧ ¬ 7 < b ∧ 8 < i) ∨ ((64 ≤ t[0].toNat ∧ t[0].toNat < 80) ∧ ¬ 7 < r ∧ ¬ 7 < b ∧ ¬ 8 < i ∧ wd = true) ∨ (t[0].toNat < 64 ∧ ¬ 7 < r ∧ ¬ 7 < b ∧ ¬ 8 < i ∧ wd = false) ∨ (80 ≤ t[0].toNat ∧ ¬ 7 < r ∧ ¬ 7 < b ∧ ¬ 8 < i ∧ wd = false) := by
    cases wd <;> simp at hA ⊢ <;> omega
  have ho : (o = 17 ∧ t.size = 5) ∨ (o = 19 ∧ t.size = 5) ∨ (o = 18 ∧ t.size = 6) ∨ ((o == 17) = false ∧ (o == 19) = false ∧ (o == 18) = false) := by
    simp only [beq_eq_false_iff_ne]
    omega
  clear s3 s4 s5 hA
  rcases hc with ⟨⟨g0, g1⟩, p1⟩ | ⟨⟨g0, g1⟩, p1, p2⟩ | ⟨⟨g0, g1⟩, p1, p2, p3⟩ | ⟨⟨g0, g1⟩, p1, p2, p3, rfl⟩ | ⟨g0, p1, p2, p3, rfl⟩ | ⟨g0, p1, p2, p3, rfl⟩
  all_goals (rcases ho with ⟨rfl, e1⟩ | ⟨rfl, e1⟩ | ⟨rfl, e1⟩ | ⟨e1, e2, e3⟩)
  all_goals
    try (have d1 : decide (7 < r) = false := decide_eq_false (by omega))
    try (have d2 : decide (7 < b) = false := decide_eq_false (by omega))
    try (have d3 : decide (8 < i) = false := decide_eq_false (by omega))
    try (have d4 : decide ((t[0].toNat : Int) < 80) = false := decide_eq_false (by omega))
    go_enter Tryd.func8, Tryd.ntmps8
    go_upto_region 2 with (go_at_call 15; (with_reducible refine HE.out.mono ?_); rintro e w1 ⟨rfl, hb⟩; have q := bcell hb; rw [World.size_alloc] at q; have hl1 : w.heap.size < w1.heap.size := (by have := hb.size; simp at this; omega); have H1 := Aside0.mk (And.intro (HT.out.below hb) hb); clear hb; obtain ⟨q1, q2⟩ := q)
    go_wp2_with (go_at_call 16; refine (HR.out _ H1.out.1).mono ?_; rintro e w2 ⟨rfl, hb⟩; have u := bcell hb; have H2 := Aside0.mk hb; clear hb; obtain ⟨u1, u2⟩ := u)
    all_goals go_ret
    all_goals exact ⟨by first | rfl | (simp [*]; done) | (simp_all; done) | (simp; omega), (below_alloc (Below.refl w.heap.size w) _).trans ((H1.out.2.mono (by simp)).trans (H2.out.mono (by have := H1.out.2.size; simp at this; omega)))⟩
theorem Sizes (x : XI) (w : World) (ht : Tab w) (hn : -9223372036854775808 ≤ x.n ∧ x.n ≤ 9223372036854775807) :
    Calls Tryd.prog 8 #[xv x] w fun e w' => e = .returned (.bool true) ∧ Below w.heap.size w w' := by
  by_cases h : right x = true
  · exact SizesYes x w ht hn h
  · exact SizesNo x w ht hn (Bool.eq_false_iff.mpr h)
end Go.Proofs.YtkfinaongajhmaaDoor.X

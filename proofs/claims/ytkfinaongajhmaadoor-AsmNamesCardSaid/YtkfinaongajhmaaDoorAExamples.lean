/- The examples of chapter 13: what the law's examples compute. -/
import Derived.Test.YtkfinaongajhmaaDoorANumbers
namespace Go.Ob.Xc
set_option maxRecDepth 100000
def exL1 : List It := [⟨xz, 1, 0⟩, ⟨⟨20, false, 0, 0, 0, 0, 0⟩, 0, 0⟩, ⟨⟨17, false, 0, 0, 0, 0, 0⟩, 0, 1⟩]
def exL2 : List It := [⟨⟨17, false, 0, 0, 0, 0, 0⟩, 0, 2⟩]
theorem exA1 : asmB exL1 = some [195, 233, 250, 255, 255, 255] := by decide +kernel
theorem exA2 : asmB exL2 = none := by decide +kernel
end Go.Ob.Xc
namespace Go.Proofs.YtkfinaongajhmaaDoor.X
open Go.Ob Go.Ob.Xc Go.RowKit Go.Proofs.YtkfinaongajhmaaDoorW.PrintWords Go.Proofs.YtkfinaongajhmaaDoorW.PrintMore
attribute [local go_sem] max2_int min2_int max_two min_two
set_option linter.unusedVariables false
set_option linter.unusedSimpArgs false
theorem exS : starts (bl ⟨#[195, 233, 250, 255, 255, 255]⟩) = some [0, 1] := by
  have d0 : dec (bl ⟨#[195, 233, 250, 255, 255, 255]⟩) = some (⟨20, false, 0, 0, 0, 0, 0⟩, 1) := by
    have e : bl ⟨#[195, 233, 250, 255, 255, 255]⟩ = enc ⟨20, false, 0, 0, 0, 0, 0⟩ ++ [233, 250, 255, 255, 255] := by decide +kernel
    rw [e, dec_enc _ _ (by decide) (by decide)]
    rfl
  have d1 : dec ((bl ⟨#[195, 233, 250, 255, 255, 255]⟩).drop 1) = some (⟨17, false, 0, 0, 0, 0, -6⟩, 5) := by
    have e : (bl ⟨#[195, 233, 250, 255, 255, 255]⟩).drop 1 = enc ⟨17, false, 0, 0, 0, 0, -6⟩ ++ [] := by decide +kernel
    rw [e, dec_enc _ _ (by decide) (by decide)]
    rfl
  have hl : (bl ⟨#[195, 233, 250, 255, 255, 255]⟩).length = 6 := by decide +kernel
  unfold starts
  rw [hl]
  unfold startsF
  rw [if_neg (by rw [hl]; decide), List.drop_zero, d0]
  dsimp only
  unfold startsF
  rw [if_neg (by rw [hl]; decide), d1]
  dsimp only
  unfold startsF
  rw [if_pos (by rw [hl]; decide)]
  rfl
theorem its1 {W : World} {g : Nat} (h : W.heap[g]? = some (.cells #[.int .i64 0, .bool false, .int .i64 0, .int .i64 0, .int .i64 0, .int .i64 0, .int .i64 0, .int .i64 1, .int .i64 0, .int .i64 20, .bool false, .int .i64 0, .int .i64 0, .int .i64 0, .int .i64 0, .int .i64 0, .int .i64 0, .int .i64 0, .int .i64 17, .bool false, .int .i64 0, .int .i64 0, .int .i64 0, .int .i64 0, .int .i64 0, .int .i64 0, .int .i64 1] 56 (0, 0))) : Its W (some ⟨g, 0, none⟩) exL1 := by
  refine ⟨fun t ht => ?_, fun _ => ⟨_, rfl, blk_lt h, fun i hi => ?_⟩⟩
  · simp only [exL1, List.mem_cons, List.not_mem_nil, or_false] at ht
    rcases ht with rfl | rfl | rfl
    all_goals exact ⟨by unfold NB; decide, by decide, by decide⟩
  · have hi2 : i = 0 ∨ i = 1 ∨ i = 2 := by have : exL1.length = 3 := rfl; omega
    have c := fun k => blk_cell h k
    rcases hi2 with rfl | rfl | rfl
    · exact ⟨c 0, c 1, c 2, c 3, c 4, c 5, c 6, c 7, c 8⟩
    · exact ⟨c 9, c 10, c 11, c 12, c 13, c 14, c 15, c 16, c 17⟩
    · exact ⟨c 18, c 19, c 20, c 21, c 22, c 23, c 24, c 25, c 26⟩
theorem its2 {W : World} {g : Nat} (h : W.heap[g]? = some (.cells #[.int .i64 17, .bool false, .int .i64 0, .int .i64 0, .int .i64 0, .int .i64 0, .int .i64 0, .int .i64 0, .int .i64 2] 56 (0, 0))) : Its W (some ⟨g, 0, none⟩) exL2 := by
  refine ⟨fun t ht => ?_, fun _ => ⟨_, rfl, blk_lt h, fun i hi => ?_⟩⟩
  · simp only [exL2, List.mem_cons, List.not_mem_nil, or_false] at ht
    subst ht
    exact ⟨by unfold NB; decide, by decide, by decide⟩
  · have hi2 : i = 0 := by have : exL2.length = 1 := rfl; omega
    have c := fun k => blk_cell h k
    subst hi2
    exact ⟨c 0, c 1, c 2, c 3, c 4, c 5, c 6, c 7, c 8⟩
theorem asm1 (W : World) (g : Nat) (ht : Tab W) (h : W.heap[g]? = some (.cells #[.int .i64 0, .bool false, .int .i64 0, .int .i64 0, .int .i64 0, .int .i64 0, .int .i64 0, .int .i64 1, .int .i64 0, .int .i64 20, .bool false, .int .i64 0, .int .i64 0, .int .i64 0, .int .i64 0, .int .i64 0, .int .i64 0, .int .i64 0, .int .i64 17, .bool false, .int .i64 0, .int .i64 0, .int .i64 0, .int .i64 0, .int .i64 0, .int .i64 0, .int .i64 1] 56 (0, 0))) :
    Calls Tryd.prog 28 #[.slice (some ⟨g, 0, none⟩) 3 3] W fun e w' => e = .returned (.tuple #[.string ⟨#[195, 233, 250, 255, 255, 255]⟩, .int .i64 0]) ∧ Below W.heap.size W w' := by
  have h1 : Calls Tryd.prog 28 #[.slice (some ⟨g, 0, none⟩) 3 3] W (AsmAns exL1 W) := Assemble exL1 (some ⟨g, 0, none⟩) 3 W ht (by decide) (its1 h)
  refine h1.mono fun e w' ha => ?_
  unfold AsmAns at ha
  rw [exA1] at ha
  exact ⟨ha.1, ha.2⟩
theorem asm2 (W : World) (g : Nat) (ht : Tab W) (h : W.heap[g]? = some (.cells #[.int .i64 17, .bool false, .int .i64 0, .int .i64 0, .int .i64 0, .int .i64 0, .int .i64 0, .int .i64 0, .int .i64 2] 56 (0, 0))) :
    Calls Tryd.prog 28 #[.slice (some ⟨g, 0, none⟩) 1 1] W fun e w' => e = .returned (.tuple #[.string ⟨#[]⟩, .int .i64 4]) ∧ Below W.heap.size W w' := by
  have h1 : Calls Tryd.prog 28 #[.slice (some ⟨g, 0, none⟩) 1 1] W (AsmAns exL2 W) := Assemble exL2 (some ⟨g, 0, none⟩) 1 W ht (by decide) (its2 h)
  refine h1.mono fun e w' ha => ?_
  unfold AsmAns at ha
  rw [exA2] at ha
  exact ⟨ha.1, ha.2⟩
theorem starts1 (W : World) (ht : Tab W) : Calls Tryd.prog 30 #[.string ⟨#[195, 233, 250, 255, 255, 255]⟩] W fun e w' => ∃ (A : Option Addr) (cap : Nat), e = .returned (.tuple #[.slice A 2 cap, .int .i64 0]) ∧ ReadsInt w' .i64 A 2 [0, 1] ∧ Below W.heap.size W w' := by
  refine (Starts _ W ht (by decide)).mono fun e w' h => ?_
  unfold StartsAns at h
  rw [exS] at h
  obtain ⟨⟨v, rfl, ho⟩, hb⟩ := h
  obtain ⟨A, cap, rfl, hr⟩ := reads_of_own ho (by decide)
  exact ⟨A, cap, rfl, hr, hb⟩
set_option maxHeartbeats 16000000 in
set_option maxRecDepth 100000 in
theorem AExamples (w : World) (ht : Tab w) : Calls Tryd.prog 24 #[] w fun e w' => e = .returned (.bool true) ∧ Below w.heap.size w w' := by
  have HT := Aside0.mk ht
  have H0 := Aside0.mk (blk_new w (.cells #[.int .i64 0, .bool false, .int .i64 0, .int .i64 0, .int .i64 0, .int .i64 0, .int .i64 0, .int .i64 1, .int .i64 0, .int .i64 20, .bool false, .int .i64 0, .int .i64 0, .int .i64 0, .int .i64 0, .int .i64 0, .int .i64 0, .int .i64 0, .int .i64 17, .bool false, .int .i64 0, .int .i64 0, .int .i64 0, .int .i64 0, .int .i64 0, .int .i64 0, .int .i64 1] 56))
  have H00 := Aside0.mk (fun W : World => blk_new W (.cells #[.int .i64 17, .bool false, .int .i64 0, .int .i64 0, .int .i64 0, .int .i64 0, .int .i64 0, .int .i64 0, .int .i64 2] 56))
  have HN2 := Aside0.mk (fun W : World => (show ReadsInt (W.alloc (.cells #[.int .i64 0, .int .i64 1] 3)) .i64 (some ⟨W.heap.size, 0, none⟩) 2 [0, 1] from reads_new W [0, 1] 2 rfl (by decide)))
  clear ht
  go_enter Tryd.func24, Tryd.ntmps24
  go_upto_region 2 with (go_at_call 28; (with_reducible refine (asm1 _ _ (HT.out.below (below_alloc (Below.refl _ _) _)) H0.out).mono ?_); rintro e w1 ⟨rfl, hb⟩; have H1 := Aside0.mk ((below_alloc (Below.refl w.heap.size w) _).trans (hb.mono (by simp))); clear hb)
  go_upto_region 3 with (go_at_call 30; (with_reducible refine (starts1 _ (HT.out.below H1.out)).mono ?_); rintro e w2 ⟨A, cap, rfl, hr, hb⟩; have H2 := Aside0.mk (And.intro (H1.out.trans (hb.mono H1.out.size)) hr); clear hb hr)
  go_upto_region 4 with (go_at_call 27; (with_reducible refine (Numbers [0, 1] _ _ _ _ _ _ (H2.out.2.below (below_alloc (Below.refl _ _) _)) (HN2.out w2)).mono ?_); rintro e w3 ⟨rfl, hb⟩; have H3 := Aside0.mk ((below_alloc H2.out.1 _).trans (hb.mono (Nat.le_trans H2.out.1.size (by simp)))); clear hb)
  go_wp2_with (go_at_call 28; (with_reducible refine (asm2 _ _ (HT.out.below (below_alloc H3.out _)) (H00.out _)).mono ?_); rintro e w4 ⟨rfl, hb⟩; have H4 := Aside0.mk ((below_alloc H3.out _).trans (hb.mono (Nat.le_trans H3.out.size (by simp)))); clear hb)
  go_ret
  exact ⟨rfl, H4.out⟩
end Go.Proofs.YtkfinaongajhmaaDoor.X

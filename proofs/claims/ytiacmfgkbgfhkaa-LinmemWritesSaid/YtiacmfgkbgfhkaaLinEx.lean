/- The chapter's examples of memories: the laws' function of them. No condition. -/
import Derived.Test.YtiacmfgkbgfhkaaLinLoadRef
import Derived.Test.YtiacmfgkbgfhkaaLinNew
namespace Go.Proofs.Ytiacmfgkbgfhkaa.Lin
open Go.Ob Go.RowKit Go.Proofs.YtiacmfgkbgfhkaaW.PrintWords Go.Proofs.YtiacmfgkbgfhkaaW.PrintMore
attribute [local go_sem] max2_int min2_int max_two min_two
set_option linter.unusedVariables false
set_option linter.unusedSimpArgs false
theorem ex1 : ldr ⟨#[1, 2, 3, 4, 5]⟩ 1 0 4 = 84148994 := by decide +kernel
theorem ex2 : okAt (ByteArray.mk #[1, 2, 3, 4, 5]).size (plc 1 0) 4 = true := by decide +kernel
theorem ex3 : okAt (ByteArray.mk #[1, 2, 3, 4, 5]).size (plc 2 0) 4 = false := by decide +kernel
theorem ex4 : str ⟨#[97, 98, 99, 100, 101, 102]⟩ 1 1 4 825373492 = ⟨#[97, 98, 52, 51, 50, 49]⟩ := by decide +kernel
theorem ex5 : okAt (ByteArray.mk #[97, 98, 99, 100, 101, 102]).size (plc 1 1) 4 = true := by decide +kernel
theorem ex6 : (news 1 (if (1 : Int) = 0 then 0 else 4) []).size = 16 := by decide +kernel
set_option maxHeartbeats 4000000 in
set_option maxRecDepth 100000 in
theorem examples (w : World) : Calls Try.prog 29 #[] w fun e w' => e = .returned (.bool true) ∧ Below w.heap.size w w' := by
  have L1 : ∀ W, Calls Try.prog 30 #[.string ⟨#[1, 2, 3, 4, 5]⟩, .int .i64 1, .int .i64 0, .int .i64 4] W fun e w' => e = .returned (.tuple #[.int .i64 84148994, .bool true]) ∧ Below W.heap.size W w' := fun W => by
    have h := Load ⟨#[1, 2, 3, 4, 5]⟩ 1 0 4 W (by decide) (by decide) (by decide) (by decide)
    rwa [ex1, ex2] at h
  have L2 : ∀ W, Calls Try.prog 30 #[.string ⟨#[1, 2, 3, 4, 5]⟩, .int .i64 2, .int .i64 0, .int .i64 4] W fun e w' => e = .returned (.tuple #[.int .i64 (ldr ⟨#[1, 2, 3, 4, 5]⟩ 2 0 4), .bool false]) ∧ Below W.heap.size W w' := fun W => by
    have h := Load ⟨#[1, 2, 3, 4, 5]⟩ 2 0 4 W (by decide) (by decide) (by decide) (by decide)
    rwa [ex3] at h
  have L3 : ∀ W, Calls Try.prog 32 #[.string ⟨#[97, 98, 99, 100, 101, 102]⟩, .int .i64 1, .int .i64 1, .int .i64 4, .int .i64 825373492] W fun e w' => e = .returned (.tuple #[.string ⟨#[97, 98, 52, 51, 50, 49]⟩, .bool true]) ∧ Below W.heap.size W w' := fun W => by
    have h := Store ⟨#[97, 98, 99, 100, 101, 102]⟩ 1 1 4 825373492 W (by decide) (by decide) (by decide) (by decide) (by decide)
    rwa [ex4, ex5] at h
  obtain ⟨S, hS⟩ : ∃ S, news 1 (if (1 : Int) = 0 then 0 else 4) [] = S := ⟨_, rfl⟩
  have h6 : S.size = 16 := by rw [← hS]; exact ex6
  have L4 : ∀ W, Calls Try.prog 34 #[.agg #[.slice none 0 0, .slice none 0 0, .slice none 0 0, .int .i64 0, .int .i64 4, .slice none 0 0, .slice none 0 0], .int .i64 1] W fun e w' => e = .returned (.string S) ∧ Below W.heap.size W w' := fun W => by
    have h := New (.slice none 0 0) (.slice none 0 0) (.slice none 0 0) (.slice none 0 0) 0 4 1 none [] 0 0 W rfl (by decide) (fun i hi => absurd hi (by simp))
    rwa [hS] at h
  have HL := Aside0.mk (And.intro (And.intro L1 L2) (And.intro L3 L4))
  clear L1 L2 L3 L4 hS
  go_enter Try.func29, Try.ntmps29
  go_wp2_with fail
  refine (HL.out.1.1 _).mono ?_
  rintro e w1 ⟨rfl, hb1⟩
  have H1 := Aside0.mk hb1
  clear hb1
  go_wp2_with fail
  refine (HL.out.1.2 _).mono ?_
  rintro e w2 ⟨rfl, hb2⟩
  have H2 := Aside0.mk (H1.out.trans (hb2.mono H1.out.size))
  clear hb2
  go_wp2_with fail
  refine (HL.out.2.1 _).mono ?_
  rintro e w3 ⟨rfl, hb3⟩
  have H3 := Aside0.mk (H2.out.trans (hb3.mono H2.out.size))
  clear hb3
  go_wp2_with fail
  refine (HL.out.2.2 _).mono ?_
  rintro e w4 ⟨rfl, hb4⟩
  have H4 := Aside0.mk (H3.out.trans (hb4.mono H3.out.size))
  clear hb4
  go_wp2
  go_ret
  exact ⟨rfl, H4.out⟩
end Go.Proofs.Ytiacmfgkbgfhkaa.Lin

/- Eight bytes are four, and the four behind them: the law's function. No condition but that numbers and lengths are those of the language. -/
import Derived.Test.YtiacmfgkbgfhkaaLinMath
namespace Go.Proofs.Ytiacmfgkbgfhkaa.Lin
open Go.Ob Go.RowKit Go.Proofs.YtiacmfgkbgfhkaaW.PrintWords Go.Proofs.YtiacmfgkbgfhkaaW.PrintMore
attribute [local go_sem] max2_int min2_int max_two min_two
set_option linter.unusedVariables false
set_option linter.unusedSimpArgs false
set_option maxHeartbeats 8000000 in
set_option maxRecDepth 100000 in
theorem Halves (mem : ByteArray) (addr : Int) (w : World) (hm : mem.size ≤ 9223372036854775807) (ha : -9223372036854775808 ≤ addr ∧ addr ≤ 9223372036854775807) :
    Calls Try.prog 10 #[.string mem, .int .i64 addr] w fun e w' => e = .returned (.bool true) ∧ Below w.heap.size w w' := by
  obtain ⟨M, hM, hMs⟩ : ∃ M : ByteArray, (if 5000 < mem.size then mem.extract 0 5000 else mem) = M ∧ M.size ≤ 5000 := by
    refine ⟨_, rfl, ?_⟩
    split
    · rw [ByteArray.size_extract]; omega
    · omega
  have HM := Aside0.mk hM
  have L8 := fun W => Load M addr 0 8 W (by omega) ha (by decide) (by decide)
  have L4 := fun W => Load M addr 0 4 W (by omega) ha (by decide) (by decide)
  have R4 := fun W => Load M addr 4 4 W (by omega) ha (by decide) (by decide)
  have hL := Aside0.mk (And.intro L8 (And.intro L4 R4))
  clear hM L8 L4 R4
  have split5 : 5000 < mem.size ∨ mem.size ≤ 5000 := by omega
  rcases split5 with h5 | h5
  all_goals
    go_enter Try.func10, Try.ntmps10
    go_wp2_with fail
    refine (examples _).mono ?_
    rintro e w1 ⟨rfl, hb1⟩
    have H1 := Aside0.mk hb1
    clear hb1
    go_wp2_with fail
    first
      | (have hq : mem.extract 0 5000 = M := (by have h := HM.out; rwa [if_pos h5] at h); rw [hq]; clear hq)
      | (have hq : mem = M := (by have h := HM.out; rwa [if_neg (by omega)] at h); subst mem)
    refine (hL.out.1 _).mono ?_
    rintro e w2 ⟨rfl, hb2⟩
    have H2 := Aside0.mk (H1.out.trans (hb2.mono H1.out.size))
    clear hb2
    go_wp2_with fail
    refine (hL.out.2.1 _).mono ?_
    rintro e w3 ⟨rfl, hb3⟩
    have H3 := Aside0.mk (H2.out.trans (hb3.mono H2.out.size))
    clear hb3
    go_wp2_with fail
    refine (hL.out.2.2 _).mono ?_
    rintro e w4 ⟨rfl, hb4⟩
    have H4 := Aside0.mk (H3.out.trans (hb4.mono H3.out.size))
    clear hb4
    cases hok : okAt M.size (plc addr 0) 8 with
    | true =>
      have e1 := okAt_first _ _ hok
      have e2 := hok
      rw [okAt_half] at e2
      rw [e1, e2]
      obtain ⟨⟨hx0, hx1⟩, hhv⟩ := halves M addr hok
      clear e1 e2 hok
      generalize ldr M addr 0 4 = x at *
      generalize ldr M addr 4 4 = y at *
      rw [hhv]
      clear hhv
      go_wp2
      all_goals
        go_ret
        exact ⟨by simp, H4.out⟩
    | false =>
      have e2 := hok
      rw [okAt_half] at e2
      have z1 : ldr M addr 0 8 = 0 := by unfold ldr; rw [hok, if_neg (by decide)]
      have z2 : ldr M addr 4 4 = 0 := by unfold ldr; rw [e2, if_neg (by decide)]
      rw [e2, z1, z2]
      clear e2 z1 z2 hok
      go_wp2
      go_ret
      exact ⟨rfl, H4.out⟩

theorem Halves2 (mem : ByteArray) (addr : Int) (w : World) (hm : mem.size ≤ 140737488351232) (ha : -9223372036854775808 ≤ addr ∧ addr ≤ 9223372036854775807) :
    Calls Try.prog 10 #[.string mem, .int .i64 addr] w fun e w' => e = .returned (.bool true) ∧ Below w.heap.size w w' := Halves mem addr w (by omega) ha
end Go.Proofs.Ytiacmfgkbgfhkaa.Lin

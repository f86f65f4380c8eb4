/- The reference's Right and Encode of chapter 11, of every kind. No condition but the numbers' bounds. -/
import Derived.Test.YtkfinaongajhmaaDoorXRR0
import Derived.Test.YtkfinaongajhmaaDoorXRR1
import Derived.Test.YtkfinaongajhmaaDoorXRR2
import Derived.Test.YtkfinaongajhmaaDoorXRE0
import Derived.Test.YtkfinaongajhmaaDoorXRE1
import Derived.Test.YtkfinaongajhmaaDoorXRE2
import Derived.Test.YtkfinaongajhmaaDoorXRE3
import Derived.Test.YtkfinaongajhmaaDoorXRE4
namespace Go.Proofs.YtkfinaongajhmaaDoor.X
open Go.Ob Go.Ob.Xc Go.RowKit Go.Proofs.YtkfinaongajhmaaDoorW.PrintWords Go.Proofs.YtkfinaongajhmaaDoorW.PrintMore
attribute [local go_sem] max2_int min2_int max_two min_two
set_option linter.unusedVariables false
set_option linter.unusedSimpArgs false
theorem right_ix {x : XI} (h : right x = true) : 0 ≤ x.i ∧ x.i ≤ 16 ∧ ¬ x.i = 5 := by
  rcases right_cases h with h | h | h | h | h | h | h | h | h | h | h | h | h | h
  all_goals first | omega | (have := idx_iff.mp h.2.2.2.1; omega)
theorem RRight (x : XI) (w : World) : Calls Tryd.prog 19 #[xv x] w fun e w' => e = .returned (.bool (right x)) ∧ Below w.heap.size w w' := by
  by_cases hk : (1 ≤ x.op ∧ x.op ≤ 23)
  · by_cases hg : ((0 ≤ x.r ∧ x.r ≤ 15) ∧ (0 ≤ x.b ∧ x.b ≤ 15) ∧ (0 ≤ x.i ∧ x.i ≤ 16 ∧ ¬ x.i = 5))
    · obtain ⟨o, wd, r, b, i, c, n⟩ := x
      obtain ⟨h0, h1, h2⟩ := hg
      dsimp only at hk h0 h1 h2
      have hc : o = 1 ∨ o = 2 ∨ o = 3 ∨ o = 4 ∨ o = 5 ∨ o = 6 ∨ o = 7 ∨ o = 8 ∨ o = 9 ∨ o = 10 ∨ o = 11 ∨ o = 12 ∨ o = 13 ∨ o = 14 ∨ o = 15 ∨ o = 16 ∨ o = 17 ∨ o = 18 ∨ o = 19 ∨ o = 20 ∨ o = 21 ∨ o = 22 ∨ o = 23 := by omega
      rcases hc with rfl | rfl | rfl | rfl | rfl | rfl | rfl | rfl | rfl | rfl | rfl | rfl | rfl | rfl | rfl | rfl | rfl | rfl | rfl | rfl | rfl | rfl | rfl
      · exact RR_1 wd r b i c n w h0 h1 h2
      · exact RR_2 wd r b i c n w h0 h1 h2
      · exact RR_3 wd r b i c n w h0 h1 h2
      · exact RR_4 wd r b i c n w h0 h1 h2
      · exact RR_5 wd r b i c n w h0 h1 h2
      · exact RR_6 wd r b i c n w h0 h1 h2
      · exact RR_7 wd r b i c n w h0 h1 h2
      · exact RR_8 wd r b i c n w h0 h1 h2
      · exact RR_9 wd r b i c n w h0 h1 h2
      · exact RR_10 wd r b i c n w h0 h1 h2
      · exact RR_11 wd r b i c n w h0 h1 h2
      · exact RR_12 wd r b i c n w h0 h1 h2
      · exact RR_13 wd r b i c n w h0 h1 h2
      · exact RR_14 wd r b i c n w h0 h1 h2
      · exact RR_15 wd r b i c n w h0 h1 h2
      · exact RR_16 wd r b i c n w h0 h1 h2
      · exact RR_17 wd r b i c n w h0 h1 h2
      · exact RR_18 wd r b i c n w h0 h1 h2
      · exact RR_19 wd r b i c n w h0 h1 h2
      · exact RR_20 wd r b i c n w h0 h1 h2
      · exact RR_21 wd r b i c n w h0 h1 h2
      · exact RR_22 wd r b i c n w h0 h1 h2
      · exact RR_23 wd r b i c n w h0 h1 h2
    · have hf : right x = false := by
        rw [Bool.eq_false_iff]
        intro h
        obtain ⟨hr, hb⟩ := right_regs h
        exact hg ⟨hr, hb, right_ix h⟩
      rw [hf]
      have hbad : x.r < 0 ∨ (0 ≤ x.r ∧ 15 < x.r) ∨ ((0 ≤ x.r ∧ x.r ≤ 15) ∧ x.b < 0) ∨ ((0 ≤ x.r ∧ x.r ≤ 15) ∧ 0 ≤ x.b ∧ 15 < x.b) ∨ ((0 ≤ x.r ∧ x.r ≤ 15) ∧ (0 ≤ x.b ∧ x.b ≤ 15) ∧ x.i < 0) ∨ ((0 ≤ x.r ∧ x.r ≤ 15) ∧ (0 ≤ x.b ∧ x.b ≤ 15) ∧ 0 ≤ x.i ∧ 16 < x.i) ∨ ((0 ≤ x.r ∧ x.r ≤ 15) ∧ (0 ≤ x.b ∧ x.b ≤ 15) ∧ x.i = 5) := by omega
      have hc : x.op = 1 ∨ x.op = 2 ∨ x.op = 3 ∨ x.op = 4 ∨ x.op = 5 ∨ x.op = 6 ∨ x.op = 7 ∨ x.op = 8 ∨ x.op = 9 ∨ x.op = 10 ∨ x.op = 11 ∨ x.op = 12 ∨ x.op = 13 ∨ x.op = 14 ∨ x.op = 15 ∨ x.op = 16 ∨ x.op = 17 ∨ x.op = 18 ∨ x.op = 19 ∨ x.op = 20 ∨ x.op = 21 ∨ x.op = 22 ∨ x.op = 23 := by omega
      rcases hc with h | h | h | h | h | h | h | h | h | h | h | h | h | h | h | h | h | h | h | h | h | h | h
      · exact RRightBad x w _ _ _ _ _ _ _ true (fun W => by rw [h]; exact rf_1 W) (.inr hbad)
      · exact RRightBad x w _ _ _ _ _ _ _ true (fun W => by rw [h]; exact rf_2 W) (.inr hbad)
      · exact RRightBad x w _ _ _ _ _ _ _ true (fun W => by rw [h]; exact rf_3 W) (.inr hbad)
      · exact RRightBad x w _ _ _ _ _ _ _ true (fun W => by rw [h]; exact rf_4 W) (.inr hbad)
      · exact RRightBad x w _ _ _ _ _ _ _ true (fun W => by rw [h]; exact rf_5 W) (.inr hbad)
      · exact RRightBad x w _ _ _ _ _ _ _ true (fun W => by rw [h]; exact rf_6 W) (.inr hbad)
      · exact RRightBad x w _ _ _ _ _ _ _ true (fun W => by rw [h]; exact rf_7 W) (.inr hbad)
      · exact RRightBad x w _ _ _ _ _ _ _ true (fun W => by rw [h]; exact rf_8 W) (.inr hbad)
      · exact RRightBad x w _ _ _ _ _ _ _ true (fun W => by rw [h]; exact rf_9 W) (.inr hbad)
      · exact RRightBad x w _ _ _ _ _ _ _ true (fun W => by rw [h]; exact rf_10 W) (.inr hbad)
      · exact RRightBad x w _ _ _ _ _ _ _ true (fun W => by rw [h]; exact rf_11 W) (.inr hbad)
      · exact RRightBad x w _ _ _ _ _ _ _ true (fun W => by rw [h]; exact rf_12 W) (.inr hbad)
      · exact RRightBad x w _ _ _ _ _ _ _ true (fun W => by rw [h]; exact rf_13 W) (.inr hbad)
      · exact RRightBad x w _ _ _ _ _ _ _ true (fun W => by rw [h]; exact rf_14 W) (.inr hbad)
      · exact RRightBad x w _ _ _ _ _ _ _ true (fun W => by rw [h]; exact rf_15 W) (.inr hbad)
      · exact RRightBad x w _ _ _ _ _ _ _ true (fun W => by rw [h]; exact rf_16 W) (.inr hbad)
      · exact RRightBad x w _ _ _ _ _ _ _ true (fun W => by rw [h]; exact rf_17 W) (.inr hbad)
      · exact RRightBad x w _ _ _ _ _ _ _ true (fun W => by rw [h]; exact rf_18 W) (.inr hbad)
      · exact RRightBad x w _ _ _ _ _ _ _ true (fun W => by rw [h]; exact rf_19 W) (.inr hbad)
      · exact RRightBad x w _ _ _ _ _ _ _ true (fun W => by rw [h]; exact rf_20 W) (.inr hbad)
      · exact RRightBad x w _ _ _ _ _ _ _ true (fun W => by rw [h]; exact rf_21 W) (.inr hbad)
      · exact RRightBad x w _ _ _ _ _ _ _ true (fun W => by rw [h]; exact rf_22 W) (.inr hbad)
      · exact RRightBad x w _ _ _ _ _ _ _ true (fun W => by rw [h]; exact rf_23 W) (.inr hbad)
  · have hf : right x = false := by
      rw [Bool.eq_false_iff]
      intro h
      rcases right_cases h with h | h | h | h | h | h | h | h | h | h | h | h | h | h
      all_goals omega
    rw [hf]
    exact RRightBad x w _ _ _ _ _ _ _ false (fun W => rf_no x.op W hk) (.inl rfl)
set_option maxHeartbeats 16000000 in
set_option maxRecDepth 100000 in
theorem REncode_no (x : XI) (w : World) (h : right x = false) : Calls Tryd.prog 17 #[xv x] w fun e w' => e = .returned (.tuple #[.string ⟨#[]⟩, .bool false]) ∧ Below w.heap.size w w' := by
  have HR := Aside0.mk (fun W => RRight x W)
  rw [h] at HR
  clear h
  obtain ⟨o, wd, r, b, i, c, n⟩ := x
  go_enter Tryd.func17, Tryd.ntmps17
  go_wp2_with (go_at_call 19; (with_reducible refine (HR.out _).mono ?_); rintro e w1 ⟨rfl, hb1⟩; have H1 := Aside0.mk hb1; clear hb1)
  go_ret2
  exact ⟨rfl, (below_alloc (Below.refl w.heap.size w) _).trans (H1.out.mono (by simp))⟩
theorem REncode_ok (x : XI) (w : World) (h : right x = true) (hn : -9223372036854775808 ≤ x.n ∧ x.n ≤ 9223372036854775807) : Calls Tryd.prog 17 #[xv x] w fun e w' => e = .returned (.tuple #[.string (strOfNums (enc x)), .bool true]) ∧ Below w.heap.size w w' := by
  have hR := fun W => RRight x W
  rw [h] at hR
  have hc := right_cases h
  obtain ⟨o, wd, r, b, i, c, n⟩ := x
  dsimp only at hc hn
  rcases hc with ⟨(rfl | rfl | rfl), -, -, rfl, rfl, rfl⟩ | ⟨rfl, -, -, rfl, rfl, rfl, rfl⟩ | ⟨rfl, -, rfl, rfl, rfl, rfl⟩ | ⟨rfl, -, -, -, rfl, rfl⟩ | ⟨rfl, -, -, -, rfl, rfl⟩ | ⟨rfl, -, -, rfl, rfl, rfl⟩ | ⟨(rfl | rfl), -, rfl, rfl, rfl, rfl⟩ | ⟨rfl, rfl, rfl, rfl, rfl, rfl⟩ | ⟨(rfl | rfl), -, -, -, -, rfl⟩ | ⟨rfl, -, -, -, rfl, rfl⟩ | ⟨rfl, -, -, rfl, rfl, rfl, rfl⟩ | ⟨rfl, -, rfl, rfl, rfl, rfl, rfl⟩ | ⟨(rfl | rfl), -, rfl, rfl, rfl, rfl, rfl⟩ | ⟨(rfl | rfl | rfl | rfl | rfl), rfl, rfl, rfl, rfl, rfl, rfl⟩
  · exact re_1 wd r b w h hR
  · exact re_5 wd r b w h hR
  · exact re_6 wd r b w h hR
  · exact re_16 r b w h hR
  · exact re_2 r n w h hn hR
  · exact re_4 wd b c n w h hn hR
  · exact re_3 wd r b c w h hR
  · exact re_7 wd b c w h hR
  · exact re_8 wd b w h hR
  · exact re_9 wd b w h hR
  · exact re_10 wd w h hR
  · by_cases ci : i = 0
    · exact re_11a wd r b i n w h hn ci hR
    · exact re_11b wd r b i n w h hn ci hR
  · by_cases ci : i = 0
    · exact re_12a wd r b i n w h hn ci hR
    · exact re_12b wd r b i n w h hn ci hR
  · exact re_15 wd r b c w h hR
  · exact re_18 c n w h hn hR
  · exact re_13 c w h hR
  · exact re_17 n w h hn hR
  · exact re_19 n w h hn hR
  · exact re_14 w h hR
  · exact re_20 w h hR
  · exact re_21 w h hR
  · exact re_22 w h hR
  · exact re_23 w h hR
end Go.Proofs.YtkfinaongajhmaaDoor.X

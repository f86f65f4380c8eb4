/- An instruction's bytes, or none: what the program's function computes. No condition but that the table of conditions holds what the program's text lays, and that numbers are those of the language. -/
import Derived.Test.YtkfinaongajhmaaDoorXEncode0
import Derived.Test.YtkfinaongajhmaaDoorXEncode1
import Derived.Test.YtkfinaongajhmaaDoorXEncode2
import Derived.Test.YtkfinaongajhmaaDoorXEncode3
namespace Go.Proofs.YtkfinaongajhmaaDoor.X
open Go.Ob Go.Ob.Xc Go.RowKit Go.Proofs.YtkfinaongajhmaaDoorW.PrintWords Go.Proofs.YtkfinaongajhmaaDoorW.PrintMore
attribute [local go_sem] max2_int min2_int max_two min_two
set_option linter.unusedVariables false
set_option linter.unusedSimpArgs false
set_option maxHeartbeats 4000000 in
set_option maxRecDepth 100000 in
theorem Encode_no (x : XI) (w : World) (h : right x = false) (ht : Tab w) (hn : -9223372036854775808 ≤ x.n ∧ x.n ≤ 9223372036854775807) :
    Calls Tryd.prog 16 #[xv x] w fun e w' => e = .returned (.tuple #[.string ⟨#[]⟩, .int .i64 4]) ∧ Below w.heap.size w w' := by
  have hR := Right x _ (ht.below (below_alloc (Below.refl _ _) (xo x))) hn
  rw [h] at hR
  have HR := Aside0.mk hR
  clear hR h ht hn
  obtain ⟨o, wd, r, b, i, c, n⟩ := x
  go_enter Tryd.func16, Tryd.ntmps16
  go_wp2_with (first
    | (go_at_call 18; (with_reducible refine HR.out.mono ?_); rintro e w1 ⟨rfl, hb1⟩; have H1 := Aside0.mk hb1; clear hb1))
  go_ret2
  exact ⟨rfl, (below_alloc (Below.refl w.heap.size w) _).trans (H1.out.mono (by simp))⟩
theorem Encode_ok (x : XI) (w : World) (h : right x = true) (ht : Tab w) (hn : -9223372036854775808 ≤ x.n ∧ x.n ≤ 9223372036854775807) :
    Calls Tryd.prog 16 #[xv x] w fun e w' => e = .returned (.tuple #[.string (strOfNums (enc x)), .int .i64 0]) ∧ Below w.heap.size w w' := by
  obtain ⟨o, wd, r, b, i, c, n⟩ := x
  have hc := right_cases h
  dsimp only at hc hn
  rcases hc with ⟨h0, hr, hb, hi, hc, h5⟩ | ⟨h0, hr, hb, hw, hi, hc, h5⟩ | ⟨h0, hr, hw, hb, hi, hc⟩ | ⟨h0, hb, hc, h5, hr, hi⟩ | ⟨h0, hr, hb, hc, hi, h5⟩ | ⟨h0, hb, hc, hr, hi, h5⟩ | ⟨h0, hb, hr, hi, hc, h5⟩ | ⟨h0, hr, hb, hi, hc, h5⟩ | ⟨h0, hr, hb, hi, h5, hc⟩ | ⟨h0, hr, hb, hc, hi, h5⟩ | ⟨h0, hc, h5, hw, hr, hb, hi⟩ | ⟨h0, hc, hw, hr, hb, hi, h5⟩ | ⟨h0, h5, hw, hr, hb, hi, hc⟩ | ⟨h0, hw, hr, hb, hi, hc, h5⟩
  · subst hi hc h5
    rcases h0 with rfl | rfl | rfl
    · exact enc_1 wd r b w h ht
    · exact enc_5 wd r b w h ht
    · exact enc_6 wd r b w h ht
  · subst h0 hw hi hc h5
    exact enc_16 r b w h ht
  · subst h0 hw hb hi hc
    exact enc_2 r n w h ht hn
  · subst h0 hr hi
    exact enc_4 wd b c n w h ht hn
  · subst h0 hi h5
    exact enc_3 wd r b c w h ht
  · subst h0 hr hi h5
    exact enc_7 wd b c w h ht
  · subst hr hi hc h5
    rcases h0 with rfl | rfl
    · exact enc_8 wd b w h ht
    · exact enc_9 wd b w h ht
  · subst h0 hr hb hi hc h5
    exact enc_10 wd w h ht
  · subst hc
    rcases h0 with rfl | rfl
    · exact enc_11 wd r b i n w h ht hn
    · exact enc_12 wd r b i n w h ht hn
  · subst h0 hi h5
    exact enc_15 wd r b c w h ht
  · subst h0 hw hr hb hi
    exact enc_18 c n w h ht hn
  · subst h0 hw hr hb hi h5
    exact enc_13 c w h ht
  · subst hw hr hb hi hc
    rcases h0 with rfl | rfl
    · exact enc_17 n w h ht hn
    · exact enc_19 n w h ht hn
  · subst hw hr hb hi hc h5
    rcases h0 with rfl | rfl | rfl | rfl | rfl
    · exact enc_14 w h ht
    · exact enc_20 w h ht
    · exact enc_21 w h ht
    · exact enc_22 w h ht
    · exact enc_23 w h ht
end Go.Proofs.YtkfinaongajhmaaDoor.X

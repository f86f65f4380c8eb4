/- Quotient times divisor and the rest are what was divided, if the upper half is nought; the rest is less than the divisor: for any numbers and both widths. No condition. This text is the plain law. -/
import Derived.Test.YtmmbhhapkgnlfaaFlagsCore
namespace Go.Proofs.Ytmmbhhapkgnlfaa.Pure
open Go.RowKit Go.Proofs.Ytmmbhhapkgnlfaa.MA Go.Proofs.YtmmbhhapkgnlfaaW.PrintWords Go.Proofs.YtmmbhhapkgnlfaaW.PrintLast Go.Ob Go.Ob.Flags Go.Proofs.Ytmmbhhapkgnlfaa.FlagsCore
set_option linter.unusedVariables false
/-- divided with signs, the upper half the sign of the lower one: (quotient, rest, is it fine) -/
theorem idiv_sign (w : Bool) (low d s : Int) (hs : tr w s = tr w (sg w low / 9223372036854775808)) (k : Nat) (hk : 5 ≤ k) (hd : sg w d ≠ 0) :
    ∃ q r f, flags_Idiv.f k w s low d = some (q, r, f) ∧ (f = false → q = 0 ∧ r = 0) ∧ (f = true → ∃ a b, q = tr w a ∧ r = tr w b ∧ (∃ t, a * sg w d + b = sg w low + 18446744073709551616 * t)) := by
  obtain ⟨k, rfl⟩ : ∃ m, k = m + 3 := ⟨k - 3, by omega⟩
  unfold flags_Idiv.f
  simp only [sign_eq, trim_eq, Option.bind_some]
  rw [if_neg hd, hs]
  simp only [bne_self_eq_false, flags_Idiv.j0, Bool.false_eq_true, if_false]
  by_cases h1 : sg w d = -1
  · rw [if_pos h1, h1]
    have hfine : ∃ a b, tr w (wrap64 (-(sg w low))) = tr w a ∧ (0 : Int) = tr w b ∧ (∃ t, a * (-1) + b = sg w low + 18446744073709551616 * t) := by
      obtain ⟨t, ht⟩ := wrap64_is (-(sg w low))
      exact ⟨_, 0, rfl, by unfold tr; split <;> rfl, -t, by rw [ht]; omega⟩
    by_cases h0 : sg w low = 0
    · rw [if_pos h0]
      simp only [flags_Idiv.j1, if_true, trim_eq, Option.bind_some]
      exact ⟨_, _, _, rfl, fun h => (by cases h), fun _ => hfine⟩
    · rw [if_neg h0]
      simp only [flags_Idiv.j1, sign_eq, Option.bind_some]
      by_cases h2 : (sg w (wrap64 (-(sg w low))) != sg w low) = true
      · rw [if_pos h2]
        simp only [trim_eq, Option.bind_some]
        exact ⟨_, _, _, rfl, fun h => (by cases h), fun _ => hfine⟩
      · rw [if_neg h2]
        exact ⟨_, _, _, rfl, fun _ => ⟨rfl, rfl⟩, fun h => (by cases h)⟩
  · rw [if_neg h1, if_neg hd]
    simp only [trim_eq, Option.bind_some]
    refine ⟨_, _, _, rfl, fun h => (by cases h), fun _ => ⟨_, _, rfl, rfl, ?_⟩⟩
    obtain ⟨t, ht⟩ := wrap64_is (Int.tdiv (sg w low) (sg w d))
    have e := Int.tmod_add_mul_tdiv (sg w low) (sg w d)
    refine ⟨t * sg w d, ?_⟩
    rw [ht]
    generalize Int.tdiv (sg w low) (sg w d) = x at *
    generalize Int.tmod (sg w low) (sg w d) = y at *
    grind
theorem sg_tr (w : Bool) (d : Int) (h0 : -9223372036854775808 ≤ d) (h1 : d ≤ 9223372036854775807) : (sg w d = 0 ↔ tr w d = 0) ∧ ((tr w d) % 18446744073709551616 = 0 ↔ tr w d = 0) := by
  cases w <;> simp [sg, tr] <;> omega
theorem whole (w : Bool) (x y : Int) (h : ∃ t, x = y + 18446744073709551616 * t) (hx0 : -9223372036854775808 ≤ x) (hx1 : x ≤ 9223372036854775807) (hy0 : -9223372036854775808 ≤ y) (hy1 : y ≤ 9223372036854775807) : tr w x = tr w y := by
  obtain ⟨t, rfl⟩ := h
  unfold tr
  split <;> omega
theorem wrap64_b (x : Int) : -9223372036854775808 ≤ wrap64 x ∧ wrap64 x ≤ 9223372036854775807 := by unfold wrap64; omega
theorem back64 (q b r low : Int) (h : ∃ t, q * b + r = low + 18446744073709551616 * t) : ∃ t, wrap64 (wrap64 (q * b) + r) = low + 18446744073709551616 * t := by
  obtain ⟨t1, h1⟩ := wrap64_is (q * b)
  obtain ⟨t2, h2⟩ := wrap64_is (wrap64 (q * b) + r)
  obtain ⟨t3, h3⟩ := h
  exact ⟨t1 + t2 + t3, by rw [h2, h1]; omega⟩
theorem tr32 (x y : Int) (h : ∃ t, x = y + 4294967296 * t) : tr false x = tr false y := by
  obtain ⟨t, rfl⟩ := h
  simp only [tr, Bool.false_eq_true, if_false]
  omega
theorem back32 (q b r low : Int) (h : ∃ t, q * b + r = low + 4294967296 * t) : tr false (wrap64 (wrap64 (q * b) + r)) = tr false low := by
  obtain ⟨t1, h1⟩ := wrap64_is (q * b)
  obtain ⟨t2, h2⟩ := wrap64_is (wrap64 (q * b) + r)
  obtain ⟨t3, h3⟩ := h
  exact tr32 _ _ ⟨4294967296 * t1 + 4294967296 * t2 + t3, by rw [h2, h1]; omega⟩
/-- what is put together again -/
theorem together (w : Bool) (low by_ a b : Int) (hl0 : -9223372036854775808 ≤ low) (hl1 : low ≤ 9223372036854775807) (h : ∃ t, a * sg w by_ + b = sg w low + 18446744073709551616 * t) :
    tr w (wrap64 (wrap64 (tr w a * by_) + tr w b)) = tr w low := by
  cases w with
  | true =>
    refine whole true _ _ ?_ (wrap64_b _).1 (wrap64_b _).2 hl0 hl1
    exact back64 _ _ _ _ h
  | false =>
    refine back32 _ _ _ _ ?_
    obtain ⟨t1, h1⟩ := tr_is false a
    obtain ⟨t2, h2⟩ := tr_is false b
    obtain ⟨t3, h3⟩ := sg_is by_
    obtain ⟨t4, h4⟩ := sg_is low
    obtain ⟨t5, h5⟩ := h
    rw [h3, h4] at h5
    rw [h1, h2]
    exact ⟨t1 * by_ + t2 - a * t3 + t4 + 4294967296 * t5, by grind⟩
theorem sign_of (w : Bool) (low : Int) (hl0 : -9223372036854775808 ≤ low) (hl1 : low ≤ 9223372036854775807) : sg w low / 9223372036854775808 = if sg w low < 0 then -1 else 0 := by
  have : -9223372036854775808 ≤ sg w low ∧ sg w low ≤ 9223372036854775807 := by unfold sg; split <;> omega
  split <;> omega
theorem FlagsDivides : oubliettelaw10_FlagsDivides.Pure := by
  intro w low d wl wd
  have hl := bounds_i64 wl
  have hd := bounds_i64 wd
  refine ⟨30, ?_⟩
  have hst := sg_tr w d hd.1 hd.2
  unfold oubliettelaw10_FlagsDivides.f
  simp only [ex30, div0 w low d 30 (by omega), trim_eq, Option.bind_some]
  by_cases hz : tr w d = 0
  · rw [if_pos hz, if_pos (hst.2.mpr hz)]
    rfl
  · rw [if_neg hz, if_neg (fun h => hz (hst.2.mp h))]
    have hsd : sg w d ≠ 0 := fun h => hz (hst.1.mp h)
    have key : ∀ (sgn : Int), sgn = (if sg w low < 0 then -1 else 0) → oubliettelaw10_FlagsDivides.j1 28 w low d true (wrap64 ((tr w low) % 18446744073709551616 / ((tr w d) % 18446744073709551616))) (wrap64 ((tr w low) % 18446744073709551616 % ((tr w d) % 18446744073709551616))) true sgn = some true := by
      intro sgn hsgn
      simp only [oubliettelaw10_FlagsDivides.j1]
      obtain ⟨q, r, f, hq, hf0, hf1⟩ := idiv_sign w low d sgn (by rw [hsgn, sign_of w low hl.1 hl.2]) 27 (by omega) hsd
      rw [hq]
      simp only [Option.bind_some, trim_eq]
      have hone : tr w (wrap64 (wrap64 (wrap64 ((tr w low) % 18446744073709551616 / ((tr w d) % 18446744073709551616)) * d) + wrap64 ((tr w low) % 18446744073709551616 % ((tr w d) % 18446744073709551616)))) = tr w low := by
        cases w with
        | true =>
          refine whole true _ _ (back64 _ _ _ _ ?_) (wrap64_b _).1 (wrap64_b _).2 hl.1 hl.2
          refine whole64 (low % 18446744073709551616) (d % 18446744073709551616) _ _ _ _ (wrap64_is _) (wrap64_is _) ?_ ?_
          · exact ⟨d / 18446744073709551616, by omega⟩
          · exact ⟨low / 18446744073709551616, by omega⟩
        | false =>
          refine back32 _ _ _ _ ?_
          have e1 : (tr false low) % 18446744073709551616 = low % 4294967296 := by simp [tr]; omega
          have e2 : (tr false d) % 18446744073709551616 = d % 4294967296 := by simp [tr]; omega
          rw [e1, e2]
          obtain ⟨t1, h1⟩ := wrap64_is (low % 4294967296 / (d % 4294967296))
          obtain ⟨t2, h2⟩ := wrap64_is (low % 4294967296 % (d % 4294967296))
          refine whole32 (low % 4294967296) (d % 4294967296) _ _ _ _ ⟨4294967296 * t1, by rw [h1]; omega⟩ ⟨4294967296 * t2, by rw [h2]; omega⟩ ?_ ?_
          · exact ⟨d / 4294967296, by omega⟩
          · exact ⟨low / 4294967296, by omega⟩
      rw [if_pos hone]
      have hlt : IntKind.u64.wrap (wrap64 ((tr w low) % 18446744073709551616 % ((tr w d) % 18446744073709551616))) < IntKind.u64.wrap (tr w d) := by
        rw [u64_is, u64_is]
        have hne : (tr w d) % 18446744073709551616 ≠ 0 := fun h => hz (hst.2.mp h)
        have hlt1 := Int.emod_lt_of_pos ((tr w low) % 18446744073709551616) (show 0 < (tr w d) % 18446744073709551616 by omega)
        have hge := Int.emod_nonneg ((tr w low) % 18446744073709551616) hne
        generalize (tr w low) % 18446744073709551616 % ((tr w d) % 18446744073709551616) = m at *
        unfold wrap64
        omega
      rw [if_pos hlt]
      simp only [if_true]
      cases f with
      | false =>
        obtain ⟨rfl, rfl⟩ := hf0 rfl
        simp
      | true =>
        obtain ⟨a, b, rfl, rfl, ht⟩ := hf1 rfl
        simp only [if_true]
        rw [together w low d a b hl.1 hl.2 ht, beq_self_eq_true]
    have j0 : ∀ (s : Bool), s = decide (sg w low < 0) → oubliettelaw10_FlagsDivides.j0 29 w low d true (wrap64 ((tr w low) % 18446744073709551616 / ((tr w d) % 18446744073709551616))) (wrap64 ((tr w low) % 18446744073709551616 % ((tr w d) % 18446744073709551616))) true 0 s = some true := by
      intro s hs
      simp only [oubliettelaw10_FlagsDivides.j0]
      by_cases h : sg w low < 0
      · rw [hs, decide_eq_true h]; simp only [if_true]; exact key _ (by rw [if_pos h])
      · rw [hs, decide_eq_false h]; simp only [Bool.false_eq_true, if_false]; exact key _ (by rw [if_neg h])
    have j0' : ∀ (s : Bool), s = decide (sg w low < 0) → oubliettelaw10_FlagsDivides.j0 30 w low d true (wrap64 ((tr w low) % 18446744073709551616 / ((tr w d) % 18446744073709551616))) (wrap64 ((tr w low) % 18446744073709551616 % ((tr w d) % 18446744073709551616))) true 0 s = some true := fun s hs => oubliettelaw10_FlagsDivides.mono_l 29 |>.1 _ _ _ _ _ _ _ _ _ _ (j0 s hs)
    cases w with
    | true =>
      simp only [if_true]
      split
      · exact j0' _ (by simp [sg]; omega)
      · exact j0' _ (by simp [sg]; omega)
    | false =>
      simp only [Bool.false_eq_true, if_false]
      refine j0' _ ?_
      rw [and1, Bool.eq_iff_iff]
      simp [sg]
      omega
end Go.Proofs.Ytmmbhhapkgnlfaa.Pure

/- A comparison's conditions tell how the numbers stand, without and with signs, and whether they are the same; each condition is its opposite's opposite: for any two numbers and both widths. No condition of its own. This text is the plain law. -/
import Derived.Test.YtmmbhhapkgnlfaaMAx7
import Derived.Test.YtmmbhhapkgnlfaaFlagsAlu
namespace Go.Proofs.Ytmmbhhapkgnlfaa.Pure
open Go.RowKit Go.Proofs.Ytmmbhhapkgnlfaa.MA Go.Proofs.YtmmbhhapkgnlfaaW.PrintWords Go.Proofs.YtmmbhhapkgnlfaaW.PrintLast Go.Ob Go.Ob.Flags Go.Proofs.Ytmmbhhapkgnlfaa.FlagsCore
set_option linter.unusedVariables false
theorem cmp_loop (W : List Bool) (Cs : List Int) (z s c o : Bool) (h : ∀ i : Nat, i < 10 → flags_Holds.f (rd Cs i) z s c o = some (rdOf false W i, true)) (hC : Cs.length = 10) (hW : W.length = 10) (x10 : Bool) : ∀ (d i k : Nat), i + d = 10 → d < k → oubliettelaw10_FlagsCompare.l0 k true x10 W Cs i z s c o = some x10 := by
  intro d
  induction d with
  | zero =>
    intro i k hi hk
    obtain ⟨k, rfl⟩ : ∃ m, k = m + 1 := ⟨k - 1, by omega⟩
    simp only [oubliettelaw10_FlagsCompare.l0]
    rw [if_neg (by omega)]; simp
  | succ d ih =>
    intro i k hi hk
    obtain ⟨k, rfl⟩ : ∃ m, k = m + 1 := ⟨k - 1, by omega⟩
    simp only [oubliettelaw10_FlagsCompare.l0]
    rw [if_pos (by omega), if_pos (by omega), if_pos (by omega), h i (by omega)]
    simp only [Option.bind_some, bne_self_eq_false, Bool.false_eq_true, if_false, if_true]
    rw [if_pos (by omega), show wrap64 ((i : Int) + 1) = ((i + 1 : Nat) : Int) by unfold wrap64; omega]
    exact ih (i + 1) k (by omega) (by omega)
theorem conds_all (z s c o : Bool) (U V X Y P Q : Int) (hc : c = decide (U < V)) (hz : z = decide (X = Y)) (hso : (s != o) = decide (P < Q)) (hUV : X = Y ↔ U = V) (hPQ : X = Y ↔ P = Q) : ∀ i : Nat, i < 10 →
    flags_Holds.f (rd [2, 3, 4, 5, 6, 7, 12, 13, 14, 15] i) z s c o = some (rdOf false [decide (U < V), decide (U ≥ V), (X == Y), (X != Y), decide (U ≤ V), decide (U > V), decide (P < Q), decide (P ≥ Q), decide (P ≤ Q), decide (P > Q)] i, true) := by
  intro i hi
  have e1 : (X == Y) = z := by rw [hz]; rfl
  have e2 : (X != Y) = !z := by rw [hz]; rfl
  have e3 : decide (U ≥ V) = !c := by rw [hc, Bool.eq_iff_iff]; simp
  have e4 : decide (U ≤ V) = (c || z) := by rw [hc, hz, Bool.eq_iff_iff]; simp; omega
  have e5 : decide (U > V) = !(c || z) := by rw [← e4, Bool.eq_iff_iff]; simp
  have e6 : decide (P ≥ Q) = !(s != o) := by rw [hso, Bool.eq_iff_iff]; simp
  have e7 : decide (P ≤ Q) = (z || (s != o)) := by rw [hso, hz, Bool.eq_iff_iff]; simp; omega
  have e8 : decide (P > Q) = !(z || (s != o)) := by rw [← e7, Bool.eq_iff_iff]; simp
  rw [e1, e2, e3, e4, e5, e6, e7, e8, ← hc, ← hso]
  obtain rfl | rfl | rfl | rfl | rfl | rfl | rfl | rfl | rfl | rfl : i = 0 ∨ i = 1 ∨ i = 2 ∨ i = 3 ∨ i = 4 ∨ i = 5 ∨ i = 6 ∨ i = 7 ∨ i = 8 ∨ i = 9 := by omega
  all_goals (clear e1 e2 e3 e4 e5 e6 e7 e8 hc hz hso; revert z s c o; decide)
theorem sg_lt (w : Bool) (a b : Int) (ha0 : -9223372036854775808 ≤ a) (ha1 : a ≤ 9223372036854775807) (hb0 : -9223372036854775808 ≤ b) (hb1 : b ≤ 9223372036854775807) :
    (decide (sg w (tr w (wrap64 (tr w a - tr w b))) < 0) != ovS w (tr w a) (tr w b) (wrap64 (tr w a - tr w b))) = decide (sg w (tr w a) < sg w (tr w b)) := by
  have hx : sg w (tr w a) = sg w a := by cases w <;> simp [sg, tr] <;> omega
  have hy : sg w (tr w b) = sg w b := by cases w <;> simp [sg, tr] <;> omega
  have hs : sg w (tr w (wrap64 (tr w a - tr w b))) = sg w (wrap64 (tr w a - tr w b)) := by cases w <;> simp [sg, tr] <;> omega
  have hd : w = true → sg w (wrap64 (tr w a - tr w b)) = wrap64 (a - b) := by rintro rfl; rfl
  unfold ovS
  rw [hs, hx, hy]
  have key : ∃ t, sg w (wrap64 (tr w a - tr w b)) = sg w a - sg w b + (if w then 18446744073709551616 else 4294967296) * t ∧ (t = 0 ∨ t = 1 ∨ t = -1) ∧ (-(if w then 9223372036854775808 else 2147483648) ≤ sg w (wrap64 (tr w a - tr w b)) ∧ sg w (wrap64 (tr w a - tr w b)) < (if w then 9223372036854775808 else 2147483648)) ∧ (-(if w then 9223372036854775808 else 2147483648) ≤ sg w a ∧ sg w a < (if w then 9223372036854775808 else 2147483648)) ∧ (-(if w then 9223372036854775808 else 2147483648) ≤ sg w b ∧ sg w b < (if w then 9223372036854775808 else 2147483648)) := by
    cases w with
    | true =>
      simp only [sg, tr, if_true]
      refine ⟨-((a - b + 9223372036854775808) / 18446744073709551616), ?_⟩
      unfold wrap64
      omega
    | false =>
      simp only [sg, tr, Bool.false_eq_true, if_false]
      refine ⟨(((wrap64 (a % 4294967296 - b % 4294967296) + 2147483648) % 4294967296 - 2147483648) - (((a + 2147483648) % 4294967296 - 2147483648) - ((b + 2147483648) % 4294967296 - 2147483648))) / 4294967296, ?_⟩
      unfold wrap64
      omega
  generalize sg w (wrap64 (tr w a - tr w b)) = s at *
  generalize sg w a = p at *
  generalize sg w b = q at *
  obtain ⟨t, hst, ht, hb⟩ := key
  cases w <;> simp at hst hb <;> (by_cases c1 : p ≥ 0 <;> by_cases c2 : q ≥ 0 <;> by_cases c3 : s ≥ 0 <;> by_cases c4 : p < q <;> by_cases c5 : s < 0 <;> simp [c1, c2, c3, c4, c5] <;> omega)
theorem FlagsCompare : oubliettelaw10_FlagsCompare.Pure := by
  intro w a b wa wb
  have ha := bounds_i64 wa
  have hb := bounds_i64 wb
  refine ⟨30, ?_⟩
  have hso := sg_lt w a b ha.1 ha.2 hb.1 hb.2
  have hz : (tr w (wrap64 (tr w a - tr w b)) == 0) = decide (tr w a = tr w b) := by
    rw [Bool.eq_iff_iff]
    cases w <;> simp [tr] <;> unfold wrap64 <;> omega
  have hUV : tr w a = tr w b ↔ (tr w a) % 18446744073709551616 = (tr w b) % 18446744073709551616 := by cases w <;> simp [tr] <;> omega
  have hPQ : tr w a = tr w b ↔ sg w (tr w a) = sg w (tr w b) := by cases w <;> simp [tr, sg] <;> omega
  have hl : oubliettelaw10_FlagsCompare.l0 26 true true
      [decide ((tr w a) % 18446744073709551616 < (tr w b) % 18446744073709551616), decide ((tr w a) % 18446744073709551616 ≥ (tr w b) % 18446744073709551616), (tr w a == tr w b), (tr w a != tr w b), decide ((tr w a) % 18446744073709551616 ≤ (tr w b) % 18446744073709551616), decide ((tr w a) % 18446744073709551616 > (tr w b) % 18446744073709551616), decide (sg w (tr w a) < sg w (tr w b)), decide (sg w (tr w a) ≥ sg w (tr w b)), decide (sg w (tr w a) ≤ sg w (tr w b)), decide (sg w (tr w a) > sg w (tr w b))]
      [2, 3, 4, 5, 6, 7, 12, 13, 14, 15] 0 (tr w (wrap64 (tr w a - tr w b)) == 0) (decide (sg w (tr w (wrap64 (tr w a - tr w b))) < 0)) (decide ((tr w b) % 18446744073709551616 > (tr w a) % 18446744073709551616)) (ovS w (tr w a) (tr w b) (wrap64 (tr w a - tr w b))) = some true :=
    cmp_loop _ _ _ _ _ _ (conds_all _ _ _ _ ((tr w a) % 18446744073709551616) ((tr w b) % 18446744073709551616) (tr w a) (tr w b) (sg w (tr w a)) (sg w (tr w b)) rfl hz hso hUV hPQ) rfl rfl true 10 0 26 rfl (by omega)
  unfold oubliettelaw10_FlagsCompare.f
  rw [ex30, alu_sub_cmp 28 7 (.inr rfl)]
  simp only [Option.bind_some, trim_eq]
  cases w with
  | true =>
    simp only [if_true, oubliettelaw10_FlagsCompare.j0, oubliettelaw10_FlagsCompare.j1, oubliettelaw10_FlagsCompare.j2, oubliettelaw10_FlagsCompare.j3, Bool.false_eq_true, if_false, u64_is]
    exact hl
  | false =>
    have hx : ∀ v : Int, sg false (tr false v) = if tr false v ≥ 2147483648 then wrap64 (tr false v - 4294967296) else tr false v := by
      intro v
      simp only [sg, tr, Bool.false_eq_true, if_false]
      unfold wrap64
      split <;> omega
    rw [hx a, hx b] at hl
    simp only [Bool.false_eq_true, if_false, oubliettelaw10_FlagsCompare.j0, oubliettelaw10_FlagsCompare.j1, oubliettelaw10_FlagsCompare.j2, oubliettelaw10_FlagsCompare.j3, u64_is, decide_eq_true_eq]
    by_cases c1 : tr false a ≥ 2147483648 <;> by_cases c2 : tr false b ≥ 2147483648 <;> simp only [c1, c2, if_true, if_false] at hl ⊢ <;> exact hl
end Go.Proofs.Ytmmbhhapkgnlfaa.Pure

/- How long an instruction is, and when a byte stands ahead: plain, no program. -/
import Derived.Test.YtkfinaongajhmaaDoorXBytes
namespace Go.Ob.Xc
/-- the head of bytes behind a byte ahead -/
theorem rex_head (w : Bool) {r i b : Int} (hr : 0 ≤ r ∧ r ≤ 15) (hi : 0 ≤ i ∧ i ≤ 15) (hb : 0 ≤ b ∧ b ≤ 15) {a : Int} (t : List Int) (ha : ¬ (64 ≤ a ∧ a < 80)) :
    (64 ≤ at0 (rexL w r i b ++ a :: t) 0 ∧ at0 (rexL w r i b ++ a :: t) 0 < 80) ↔ (w = true ∨ 7 < r ∨ 7 < i ∨ 7 < b) := by
  unfold rexL
  by_cases h : rexN w r i b = 64
  · rw [if_pos h]
    have e : at0 ([] ++ a :: t) 0 = a := rfl
    rw [e]
    unfold rexN at h
    constructor
    · intro hc; exact absurd hc ha
    · rintro (rfl | hc | hc | hc)
      · simp at h; omega
      · split at h <;> omega
      · split at h <;> omega
      · split at h <;> omega
  · rw [if_neg h]
    have e : at0 ([rexN w r i b] ++ a :: t) 0 = rexN w r i b := rfl
    rw [e]
    unfold rexN at h ⊢
    cases w <;> simp at h ⊢ <;> omega
/-- the sizes and the byte ahead -/
theorem sizes {x : XI} (h : right x = true) :
    1 ≤ (enc x).length ∧ (enc x).length ≤ 10 ∧ ((x.op = 17 ∨ x.op = 19) → (enc x).length = 5) ∧ (x.op = 18 → (enc x).length = 6) ∧
    ((64 ≤ at0 (enc x) 0 ∧ at0 (enc x) 0 < 80) ↔ (7 < x.r ∨ 7 < x.b ∨ 8 < x.i ∨ x.wide = true)) := by
  obtain ⟨op, w, r, b, i, c, n⟩ := x
  have z15 : (0 : Int) ≤ 0 ∧ (0 : Int) ≤ 15 := by decide
  rcases right_cases h with ⟨h0, hr, hb, hi, hc, h5⟩ | ⟨h0, hr, hb, hw, hi, hc, h5⟩ | ⟨h0, hr, hw, hb, hi, hc⟩ | ⟨h0, hb, hc, h5, hr, hi⟩ | ⟨h0, hr, hb, hc, hi, h5⟩ | ⟨h0, hb, hc, hr, hi, h5⟩ | ⟨h0, hb, hr, hi, hc, h5⟩ | ⟨h0, hr, hb, hi, hc, h5⟩ | ⟨h0, hr, hb, hi, h5, hc⟩ | ⟨h0, hr, hb, hc, hi, h5⟩ | ⟨h0, hc, h5, hw, hr, hb, hi⟩ | ⟨h0, hc, hw, hr, hb, hi, h5⟩ | ⟨h0, h5, hw, hr, hb, hi, hc⟩ | ⟨h0, hw, hr, hb, hi, hc, h5⟩
  all_goals (try dsimp only at h0; try dsimp only at hr; try dsimp only at hb; try dsimp only at hi; try dsimp only at hc; try dsimp only at h5; try dsimp only at hw)
  all_goals try rw [reg_iff] at hr
  all_goals try rw [reg_iff] at hb
  all_goals try rw [cnd_iff] at hc
  all_goals try rw [alu_iff] at hc
  all_goals try rw [shf_iff] at hc
  all_goals try have hix := ix_bd hi
  all_goals clear h
  all_goals (rcases h0 with rfl | rfl | rfl | rfl | rfl)
  all_goals (unfold enc; simp only [Int.reduceEq, reduceIte])
  all_goals have l1 := rexL_len w r 0 b
  all_goals have l2 := rexL_len true 0 0 r
  all_goals have l3 := rexL_len w 0 0 b
  all_goals have l4 := rexL_len w 0 0 0
  all_goals have l5 := rexL_len w r (ix i) b
  all_goals refine ⟨by simp [le4, le8] <;> omega, by simp [le4, le8] <;> omega, by simp [le4, le8], by simp [le4, le8], ?_⟩
  all_goals try simp only [List.append_assoc, List.cons_append, List.nil_append]
  all_goals clear l1 l2 l3 l4 l5
  all_goals first
    | (rw [rex_head _ (by first | assumption | exact z15) (by first | assumption | exact z15) (by first | assumption | exact z15) _ (by omega)]; first | (cases w <;> simp <;> omega) | (unfold ix; split <;> cases w <;> simp <;> omega))
    | (rw [rex_head _ (by first | assumption | exact z15) (by first | assumption | exact z15) (by first | assumption | exact z15) _ (by omega)]; simp_all)
    | (subst hw hr hb hi; simp [at0]; done)
    | (subst hw hr hb hi; simp [at0]; omega)
end Go.Ob.Xc

/- The bytes of an instruction are bytes, and few: plain, no program. -/
import Derived.Test.YtkfinaongajhmaaDoorXMath
namespace Go.Ob.Xc
/-- bytes -/
def Okl (l : List Int) : Prop := ∀ b ∈ l, 0 ≤ b ∧ b < 256
theorem Okl.nil : Okl [] := by simp [Okl]
theorem Okl.cons {l : List Int} {a : Int} (ha : 0 ≤ a ∧ a < 256) (h : Okl l) : Okl (a :: l) := by
  intro b hb
  rcases List.mem_cons.1 hb with rfl | hb
  · exact ha
  · exact h b hb
theorem Okl.app {l t : List Int} (h : Okl l) (h2 : Okl t) : Okl (l ++ t) := by
  intro b hb
  rcases List.mem_append.1 hb with hb | hb
  · exact h b hb
  · exact h2 b hb
theorem Okl.le4 (n : Int) : Okl (le4 n) := by
  unfold Xc.le4
  exact .cons (by omega) (.cons (by omega) (.cons (by omega) (.cons (by omega) .nil)))
theorem Okl.le8 (n : Int) : Okl (le8 n) := by
  unfold Xc.le8
  exact .app (.le4 n) (.cons (by omega) (.cons (by omega) (.cons (by omega) (.cons (by omega) .nil))))
theorem Okl.rexL (w : Bool) {r i b : Int} (hr : 0 ≤ r ∧ r ≤ 15) (hi : 0 ≤ i ∧ i ≤ 15) (hb : 0 ≤ b ∧ b ≤ 15) : Okl (rexL w r i b) := by
  unfold Xc.rexL
  split
  · exact Okl.nil
  · refine .cons ?_ .nil
    unfold rexN
    split <;> omega
theorem rexL_len (w : Bool) (r i b : Int) : (rexL w r i b).length ≤ 1 := by
  unfold Xc.rexL
  split <;> simp
theorem ite_len {c : Prop} [Decidable c] {a b : List Int} {k : Nat} (ha : a.length ≤ k) (hb : b.length ≤ k) : (if c then a else b).length ≤ k := by split <;> assumption
theorem enc_len (x : XI) : (enc x).length ≤ 15 := by
  have h1 := rexL_len x.wide x.r 0 x.b
  have h2 := rexL_len true 0 0 x.r
  have h3 := rexL_len x.wide 0 0 x.b
  have h4 := rexL_len x.wide 0 0 0
  have h5 := rexL_len x.wide x.r (ix x.i) x.b
  unfold enc
  repeat' refine ite_len ?_ ?_
  all_goals (simp [Xc.le4, Xc.le8]; try omega)
theorem mr_bd {m r b : Int} (hm : 0 ≤ m ∧ m ≤ 3) : 0 ≤ mr m r b ∧ mr m r b < 256 := by unfold mr; omega
theorem ix_bd {i : Int} (h : idx i = true) : 0 ≤ ix i ∧ ix i ≤ 15 := by
  unfold idx at h
  have h := of_decide_eq_true h
  unfold ix
  split <;> omega
theorem enc_okl {x : XI} (h : right x = true) : Okl (enc x) := by
  obtain ⟨op, w, r, b, i, c, n⟩ := x
  have z15 : (0 : Int) ≤ 0 ∧ (0 : Int) ≤ 15 := by decide
  rcases right_cases h with ⟨h0, hr, hb, hi, hc, h5⟩ | ⟨h0, hr, hb, hw, hi, hc, h5⟩ | ⟨h0, hr, hw, hb, hi, hc⟩ | ⟨h0, hb, hc, h5, hr, hi⟩ | ⟨h0, hr, hb, hc, hi, h5⟩ | ⟨h0, hb, hc, hr, hi, h5⟩ | ⟨h0, hb, hr, hi, hc, h5⟩ | ⟨h0, hr, hb, hi, hc, h5⟩ | ⟨h0, hr, hb, hi, h5, hc⟩ | ⟨h0, hr, hb, hc, hi, h5⟩ | ⟨h0, hc, h5, hw, hr, hb, hi⟩ | ⟨h0, hc, hw, hr, hb, hi, h5⟩ | ⟨h0, h5, hw, hr, hb, hi, hc⟩ | ⟨h0, hw, hr, hb, hi, hc, h5⟩
  all_goals (try dsimp only at h0; try dsimp only at hr; try dsimp only at hb; try dsimp only at hi; try dsimp only at hc; try dsimp only at h5)
  all_goals try rw [reg_iff] at hr
  all_goals try rw [reg_iff] at hb
  all_goals try rw [cnd_iff] at hc
  all_goals try rw [alu_iff] at hc
  all_goals try rw [shf_iff] at hc
  all_goals try have hix := ix_bd hi
  all_goals clear h
  all_goals (rcases h0 with rfl | rfl | rfl | rfl | rfl)
  all_goals (unfold enc; simp only [Int.reduceEq, reduceIte])
  all_goals
    repeat (first
        | with_reducible exact Okl.nil
        | with_reducible exact Okl.le4 _
        | with_reducible exact Okl.le8 _
        | with_reducible exact Okl.rexL _ (by first | assumption | exact z15) (by first | assumption | exact z15) (by first | assumption | exact z15)
        | with_reducible refine Okl.app ?_ ?_
        | with_reducible refine Okl.cons (by first | exact mr_bd (by decide) | decide | omega) ?_)
end Go.Ob.Xc

/- The assembler's labels, plain: places by label, and a map that reads as them. -/
import Derived.Test.YtkfinaongajhmaaDoorAMath
import Derived.Maps.OwnSet
import Derived.Maps.OwnOps
namespace Go.Ob.Xc
open Go.Maps
set_option linter.unusedVariables false
set_option linter.unusedSimpArgs false
/-- where a label stands among the first n items -/
def lk (L : List It) : Nat → Int → Option Int
  | 0, _ => none
  | n + 1, a => if (L.getD n default).lab = a ∧ a ≠ 0 ∧ lk L n a = none then some (pos L n) else lk L n a
/-- is no label twice among the first n? -/
def nd (L : List It) : Nat → Bool
  | 0 => true
  | n + 1 => nd L n && ((L.getD n default).lab == 0 || (lk L n (L.getD n default).lab).isNone)
theorem lk_zero (L : List It) (n : Nat) : lk L n 0 = none := by
  induction n with
  | zero => rfl
  | succ n ih => unfold lk; rw [if_neg (by simp), ih]
theorem lk_bd (L : List It) (n : Nat) (a v : Int) (h : lk L n a = some v) : 0 ≤ v ∧ v ≤ 15 * n := by
  induction n with
  | zero => cases h
  | succ n ih =>
    unfold lk at h
    split at h
    · simp only [Option.some.injEq] at h
      subst h
      have := pos_bd L n
      omega
    · have := ih h
      omega
/-- a map that reads as a function -/
def MapIs (D : DataW Unit) (f : Int → Option Int) : Prop := IsMap D ∧ ∀ a, has D (.int .i64 a) = (f a).isSome ∧ ∀ v, f a = some v → D.atKey (.int .i64 a) (.lit (.int .i64 0)) = .lit (.int .i64 v)
theorem mapIs_empty : MapIs (.map []) (fun _ => none) := ⟨isMap_empty, fun a => ⟨rfl, fun v h => by cases h⟩⟩
theorem MapIs.same {D : DataW Unit} {f g : Int → Option Int} (h : MapIs D f) (e : ∀ a, g a = f a) : MapIs D g := ⟨h.1, fun a => by rw [e a]; exact h.2 a⟩
theorem key_lit (a : Int) : WideAt.IsKeyLit (.int .i64 a) := trivial
theorem MapIs.put {D : DataW Unit} {f : Int → Option Int} (h : MapIs D f) (k v : Int) : MapIs (D.put (.int .i64 k) (.lit (.int .i64 v))) (fun a => if a = k then some v else f a) := by
  refine ⟨h.1.put _ _, fun a => ?_⟩
  by_cases e : a = k
  · subst e
    simp only [if_true]
    refine ⟨?_, fun u hu => ?_⟩
    · rw [has_put_same h.1 (key_lit a)]; rfl
    · rw [atKey_put_same h.1 (key_lit a)]
      simp only [Option.some.injEq] at hu
      rw [hu]
  · have hne : (Lit.int .i64 a) ≠ .int .i64 k := fun c => e (by injection c)
    simp only [if_neg e]
    rw [has_put_other hne]
    refine ⟨(h.2 a).1, fun u hu => ?_⟩
    rw [atKey_put_other hne]
    exact (h.2 a).2 u hu
/-- the bytes of item k, if all labels are known -/
def itemB (L : List It) (k : Nat) : Option (List Int) :=
  let t := L.getD k default
  if 0 < t.lab then some []
  else if 0 < t.to then
    (match lk L L.length t.to with
     | none => none
     | some p => let x := { t.x with n := p - pos L (k + 1) }; if right x = true then some (enc x) else none)
  else if right t.x = true then some (enc t.x) else none
/-- the bytes of the first k items -/
def itemsB (L : List It) : Nat → Option (List Int)
  | 0 => some []
  | n + 1 => match itemsB L n, itemB L n with
    | some a, some b => some (a ++ b)
    | _, _ => none
/-- what the assembler answers: bytes, or none -/
def asmB (L : List It) : Option (List Int) := if okL L = true ∧ nd L L.length = true then itemsB L L.length else none
theorem nd_le {L : List It} {n m : Nat} (h : n ≤ m) (hm : nd L m = true) : nd L n = true := by
  induction m with
  | zero => rw [Nat.le_zero.mp h]; rfl
  | succ m ih =>
    rcases Nat.lt_or_ge n (m + 1) with c | c
    · unfold nd at hm
      rw [Bool.and_eq_true] at hm
      exact ih (by omega) hm.1
    · rw [show n = m + 1 by omega]; exact hm
theorem itemsB_none {L : List It} {n m : Nat} (h : n ≤ m) (hn : itemsB L n = none) : itemsB L m = none := by
  induction m with
  | zero => rw [Nat.le_zero.mp h] at hn; exact hn
  | succ m ih =>
    rcases Nat.lt_or_ge n (m + 1) with c | c
    · unfold itemsB
      rw [ih (by omega)]
    · rw [show m + 1 = n by omega]; exact hn
theorem itemB_ok {L : List It} {n : Nat} {b : List Int} (h : itemB L n = some b) : b.length ≤ 15 ∧ ∀ x ∈ b, 0 ≤ x ∧ x < 256 := by
  unfold itemB at h
  dsimp only at h
  split at h
  · simp only [Option.some.injEq] at h
    subst h
    simp
  · split at h
    · split at h
      · cases h
      · split at h
        · rename_i hr
          simp only [Option.some.injEq] at h
          subst h
          exact ⟨enc_len _, enc_okl hr⟩
        · cases h
    · split at h
      · rename_i hr
        simp only [Option.some.injEq] at h
        subst h
        exact ⟨enc_len _, enc_okl hr⟩
      · cases h
theorem itemsB_ok {L : List It} : ∀ {n : Nat} {b : List Int}, itemsB L n = some b → b.length ≤ 15 * n ∧ ∀ x ∈ b, 0 ≤ x ∧ x < 256
  | 0, b, h => by
    unfold itemsB at h
    simp only [Option.some.injEq] at h
    subst h
    simp
  | n + 1, b, h => by
    unfold itemsB at h
    split at h
    · rename_i a c ha hc
      simp only [Option.some.injEq] at h
      subst h
      have h1 := itemsB_ok ha
      have h2 := itemB_ok hc
      refine ⟨by rw [List.length_append]; omega, fun x hx => ?_⟩
      rcases List.mem_append.mp hx with hx | hx
      · exact h1.2 x hx
      · exact h2.2 x hx
    · cases h
theorem itemsB_step {L : List It} {n : Nat} {a b : List Int} (ha : itemsB L n = some a) (hb : itemB L n = some b) : itemsB L (n + 1) = some (a ++ b) := by
  unfold itemsB
  rw [ha, hb]
theorem asmB_item {L : List It} {n : Nat} (hn : n < L.length) (h : itemB L n = none) : asmB L = none := by
  have h1 : itemsB L (n + 1) = none := by
    unfold itemsB
    rw [h]
    cases itemsB L n <;> rfl
  have h2 := itemsB_none (show n + 1 ≤ L.length from hn) h1
  unfold asmB
  rw [h2]
  split <;> rfl
/-- an item that may stand is a label, or none -/
theorem lab_of {t : It} (h : (lenI t).isSome = true) : t.lab = 0 ∨ 0 < t.lab := by
  unfold lenI at h
  split at h
  · split at h
    · exact .inl (by assumption)
    · split at h
      · rename_i hc
        exact .inr hc.1
      · cases h
  · cases h
theorem to_of {t : It} (h : (lenI t).isSome = true) : 0 ≤ t.to := by
  unfold lenI at h
  split at h
  · rename_i ht
    unfold toOk at ht
    omega
  · cases h
end Go.Ob.Xc

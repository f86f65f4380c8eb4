/- The assembler's items of chapter 13, plain: lengths, places, bytes. -/
import Derived.Test.YtkfinaongajhmaaDoorXBytes
import Derived.Test.YtkfinaongajhmaaDoorXBack
namespace Go.Ob.Xc
set_option linter.unusedVariables false
set_option linter.unusedSimpArgs false
structure It where
  x : XI
  lab : Int
  to : Int
instance : Inhabited It := ⟨⟨xz, 0, 0⟩⟩
def isJ (o : Int) : Prop := o = 17 ∨ o = 18 ∨ o = 19
instance (o : Int) : Decidable (isJ o) := inferInstanceAs (Decidable (o = 17 ∨ o = 18 ∨ o = 19))
/-- may the jump be? -/
def toOk (t : It) : Prop := (isJ t.x.op ∧ (t.to = 0 ∨ (0 < t.to ∧ t.x.n = 0))) ∨ (¬ isJ t.x.op ∧ t.to = 0)
instance (t : It) : Decidable (toOk t) := inferInstanceAs (Decidable ((isJ t.x.op ∧ (t.to = 0 ∨ (0 < t.to ∧ t.x.n = 0))) ∨ (¬ isJ t.x.op ∧ t.to = 0)))
instance : DecidableEq XI := fun a b => decidable_of_iff (a.op = b.op ∧ a.wide = b.wide ∧ a.r = b.r ∧ a.b = b.b ∧ a.i = b.i ∧ a.c = b.c ∧ a.n = b.n)
  ⟨fun ⟨h1, h2, h3, h4, h5, h6, h7⟩ => XI.ext' h1 h2 h3 h4 h5 h6 h7, fun h => by subst h; exact ⟨rfl, rfl, rfl, rfl, rfl, rfl, rfl⟩⟩
/-- an item's length, or none -/
def lenI (t : It) : Option Nat :=
  if toOk t then
    if t.lab = 0 then (if right t.x = true then some (enc t.x).length else none)
    else (if 0 < t.lab ∧ t.x = xz ∧ t.to = 0 then some 0 else none)
  else none
theorem lenI_le (t : It) : (lenI t).getD 0 ≤ 15 := by
  unfold lenI
  have := enc_len t.x
  split
  · split
    · split
      · simpa using this
      · simp
    · split <;> simp
  · simp
/-- where the n-th stands -/
def pos (L : List It) (n : Nat) : Int := ((L.take n).map fun t => (((lenI t).getD 0 : Nat) : Int)).sum
def okL (L : List It) : Bool := L.all fun t => (lenI t).isSome
theorem pos_zero (L : List It) : pos L 0 = 0 := by simp [pos]
theorem pos_succ (L : List It) (n : Nat) (h : n < L.length) : pos L (n + 1) = pos L n + ((lenI L[n]).getD 0 : Nat) := by
  unfold pos
  rw [List.take_succ_eq_append_getElem h, List.map_append, List.sum_append]
  simp only [List.map_cons, List.map_nil, List.sum_cons, List.sum_nil, Int.add_zero]
theorem pos_bd (L : List It) (n : Nat) : 0 ≤ pos L n ∧ pos L n ≤ 15 * n := by
  unfold pos
  have key : ∀ (M : List It), 0 ≤ (M.map fun t => (((lenI t).getD 0 : Nat) : Int)).sum ∧ (M.map fun t => (((lenI t).getD 0 : Nat) : Int)).sum ≤ 15 * M.length := by
    intro M
    induction M with
    | nil => simp
    | cons t M ih =>
      have := lenI_le t
      simp only [List.map_cons, List.sum_cons, List.length_cons]
      omega
  have h := key (L.take n)
  have hl : (L.take n).length ≤ n := by rw [List.length_take]; omega
  omega
/-- the places of all, and the end -/
def places (L : List It) : List Int := (List.range (L.length + 1)).map fun n => pos L n
end Go.Ob.Xc

/- The assembler's items of chapter 13, plain: lengths, places, bytes. -/
import Derived.Test.YtkfinaongajhmaaDoorXBytes
import Derived.Test.YtkfinaongajhmaaDoorXBack
import Derived.Maps.OwnSet
import Derived.Maps.OwnOps
namespace Go.Ob.Xc
set_option linter.unusedVariables false
set_option linter.unusedSimpArgs false
structure It where
  x : XI
  lab : Int
  to : Int
instance : Inhabited It := ⟨⟨xz, 0, 0⟩⟩
def isJ (o : Int) : Prop := o = 17 ∨ o = 18 ∨ o = 19
instance (o : Int) : Decidable (isJ o) := inferInstanceAs (Decidable (o = 17 ∨ o = 18 ∨ o = 19))
/-- may the jump be? -/
def toOk (t : It) : Prop := (isJ t.x.op ∧ (t.to = 0 ∨ (0 < t.to ∧ t.x.n = 0))) ∨ (¬ isJ t.x.op ∧ t.to = 0)
instance (t : It) : Decidable (toOk t) := inferInstanceAs (Decidable ((isJ t.x.op ∧ (t.to = 0 ∨ (0 < t.to ∧ t.x.n = 0))) ∨ (¬ isJ t.x.op ∧ t.to = 0)))
instance : DecidableEq XI := fun a b => decidable_of_iff (a.op = b.op ∧ a.wide = b.wide ∧ a.r = b.r ∧ a.b = b.b ∧ a.i = b.i ∧ a.c = b.c ∧ a.n = b.n)
  ⟨fun ⟨h1, h2, h3, h4, h5, h6, h7⟩ => XI.ext' h1 h2 h3 h4 h5 h6 h7, fun h => by subst h; exact ⟨rfl, rfl, rfl, rfl, rfl, rfl, rfl⟩⟩
/-- an item's length, or none -/
def lenI (t : It) : Option Nat :=
  if toOk t then
    if t.lab = 0 then (if right t.x = true then some (enc t.x).length else none)
    else (if 0 < t.lab ∧ t.x = xz ∧ t.to = 0 then some 0 else none)
  else none
theorem lenI_le (t : It) : (lenI t).getD 0 ≤ 15 := by
  unfold lenI
  have := enc_len t.x
  split
  · split
    · split
      · simpa using this
      · simp
    · split <;> simp
  · simp
/-- where the n-th stands -/
def pos (L : List It) (n : Nat) : Int := ((L.take n).map fun t => (((lenI t).getD 0 : Nat) : Int)).sum
def okL (L : List It) : Bool := L.all fun t => (lenI t).isSome
theorem pos_zero (L : List It) : pos L 0 = 0 := by simp [pos]
theorem pos_succ (L : List It) (n : Nat) (h : n < L.length) : pos L (n + 1) = pos L n + ((lenI L[n]).getD 0 : Nat) := by
  unfold pos
  rw [List.take_succ_eq_append_getElem h, List.map_append, List.sum_append]
  simp only [List.map_cons, List.map_nil, List.sum_cons, List.sum_nil, Int.add_zero]
theorem pos_bd (L : List It) (n : Nat) : 0 ≤ pos L n ∧ pos L n ≤ 15 * n := by
  unfold pos
  have key : ∀ (M : List It), 0 ≤ (M.map fun t => (((lenI t).getD 0 : Nat) : Int)).sum ∧ (M.map fun t => (((lenI t).getD 0 : Nat) : Int)).sum ≤ 15 * M.length := by
    intro M
    induction M with
    | nil => simp
    | cons t M ih =>
      have := lenI_le t
      simp only [List.map_cons, List.sum_cons, List.length_cons]
      omega
  have h := key (L.take n)
  have hl : (L.take n).length ≤ n := by rw [List.length_take]; omega
  omega
/-- the places of all, and the end -/
def places (L : List It) : List Int := (List.range (L.length + 1)).map fun n => pos L n
end Go.Ob.Xc
/- The assembler's labels, plain: places by label, and a map that reads as them. -/
namespace Go.Ob.Xc
open Go.Maps
set_option linter.unusedVariables false
set_option linter.unusedSimpArgs false
/-- where a label stands among the first n items -/
def lk (L : List It) : Nat → Int → Option Int
  | 0, _ => none
  | n + 1, a => if (L.getD n default).lab = a ∧ a ≠ 0 ∧ lk L n a = none then some (pos L n) else lk L n a
/-- is no label twice among the first n? -/
def nd (L : List It) : Nat → Bool
  | 0 => true
  | n + 1 => nd L n && ((L.getD n default).lab == 0 || (lk L n (L.getD n default).lab).isNone)
theorem lk_zero (L : List It) (n : Nat) : lk L n 0 = none := by
  induction n with
  | zero => rfl
  | succ n ih => unfold lk; rw [if_neg (by simp), ih]
theorem lk_bd (L : List It) (n : Nat) (a v : Int) (h : lk L n a = some v) : 0 ≤ v ∧ v ≤ 15 * n := by
  induction n with
  | zero => cases h
  | succ n ih =>
    unfold lk at h
    split at h
    · simp only [Option.some.injEq] at h
      subst h
      have := pos_bd L n
      omega
    · have := ih h
      omega
/-- a map that reads as a function -/
def MapIs (D : DataW Unit) (f : Int → Option Int) : Prop := IsMap D ∧ ∀ a, has D (.int .i64 a) = (f a).isSome ∧ ∀ v, f a = some v → D.atKey (.int .i64 a) (.lit (.int .i64 0)) = .lit (.int .i64 v)
theorem mapIs_empty : MapIs (.map []) (fun _ => none) := ⟨isMap_empty, fun a => ⟨rfl, fun v h => by cases h⟩⟩
theorem MapIs.same {D : DataW Unit} {f g : Int → Option Int} (h : MapIs D f) (e : ∀ a, g a = f a) : MapIs D g := ⟨h.1, fun a => by rw [e a]; exact h.2 a⟩
theorem key_lit (a : Int) : WideAt.IsKeyLit (.int .i64 a) := trivial
theorem MapIs.put {D : DataW Unit} {f : Int → Option Int} (h : MapIs D f) (k v : Int) : MapIs (D.put (.int .i64 k) (.lit (.int .i64 v))) (fun a => if a = k then some v else f a) := by
  refine ⟨h.1.put _ _, fun a => ?_⟩
  by_cases e : a = k
  · subst e
    simp only [if_true]
    refine ⟨?_, fun u hu => ?_⟩
    · rw [has_put_same h.1 (key_lit a)]; rfl
    · rw [atKey_put_same h.1 (key_lit a)]
      simp only [Option.some.injEq] at hu
      rw [hu]
  · have hne : (Lit.int .i64 a) ≠ .int .i64 k := fun c => e (by injection c)
    simp only [if_neg e]
    rw [has_put_other hne]
    refine ⟨(h.2 a).1, fun u hu => ?_⟩
    rw [atKey_put_other hne]
    exact (h.2 a).2 u hu
/-- the bytes of item k, if all labels are known -/
def itemB (L : List It) (k : Nat) : Option (List Int) :=
  let t := L.getD k default
  if 0 < t.lab then some []
  else if 0 < t.to then
    (match lk L L.length t.to with
     | none => none
     | some p => let x := { t.x with n := p - pos L (k + 1) }; if right x = true then some (enc x) else none)
  else if right t.x = true then some (enc t.x) else none
/-- the bytes of the first k items -/
def itemsB (L : List It) : Nat → Option (List Int)
  | 0 => some []
  | n + 1 => match itemsB L n, itemB L n with
    | some a, some b => some (a ++ b)
    | _, _ => none
/-- what the assembler answers: bytes, or none -/
def asmB (L : List It) : Option (List Int) := if okL L = true ∧ nd L L.length = true then itemsB L L.length else none
theorem nd_le {L : List It} {n m : Nat} (h : n ≤ m) (hm : nd L m = true) : nd L n = true := by
  induction m with
  | zero => rw [Nat.le_zero.mp h]; rfl
  | succ m ih =>
    rcases Nat.lt_or_ge n (m + 1) with c | c
    · unfold nd at hm
      rw [Bool.and_eq_true] at hm
      exact ih (by omega) hm.1
    · rw [show n = m + 1 by omega]; exact hm
theorem itemsB_none {L : List It} {n m : Nat} (h : n ≤ m) (hn : itemsB L n = none) : itemsB L m = none := by
  induction m with
  | zero => rw [Nat.le_zero.mp h] at hn; exact hn
  | succ m ih =>
    rcases Nat.lt_or_ge n (m + 1) with c | c
    · unfold itemsB
      rw [ih (by omega)]
    · rw [show m + 1 = n by omega]; exact hn
theorem itemB_ok {L : List It} {n : Nat} {b : List Int} (h : itemB L n = some b) : b.length ≤ 15 ∧ ∀ x ∈ b, 0 ≤ x ∧ x < 256 := by
  unfold itemB at h
  dsimp only at h
  split at h
  · simp only [Option.some.injEq] at h
    subst h
    simp
  · split at h
    · split at h
      · cases h
      · split at h
        · rename_i hr
          simp only [Option.some.injEq] at h
          subst h
          exact ⟨enc_len _, enc_okl hr⟩
        · cases h
    · split at h
      · rename_i hr
        simp only [Option.some.injEq] at h
        subst h
        exact ⟨enc_len _, enc_okl hr⟩
      · cases h
theorem itemsB_ok {L : List It} : ∀ {n : Nat} {b : List Int}, itemsB L n = some b → b.length ≤ 15 * n ∧ ∀ x ∈ b, 0 ≤ x ∧ x < 256
  | 0, b, h => by
    unfold itemsB at h
    simp only [Option.some.injEq] at h
    subst h
    simp
  | n + 1, b, h => by
    unfold itemsB at h
    split at h
    · rename_i a c ha hc
      simp only [Option.some.injEq] at h
      subst h
      have h1 := itemsB_ok ha
      have h2 := itemB_ok hc
      refine ⟨by rw [List.length_append]; omega, fun x hx => ?_⟩
      rcases List.mem_append.mp hx with hx | hx
      · exact h1.2 x hx
      · exact h2.2 x hx
    · cases h
theorem itemsB_step {L : List It} {n : Nat} {a b : List Int} (ha : itemsB L n = some a) (hb : itemB L n = some b) : itemsB L (n + 1) = some (a ++ b) := by
  unfold itemsB
  rw [ha, hb]
theorem asmB_item {L : List It} {n : Nat} (hn : n < L.length) (h : itemB L n = none) : asmB L = none := by
  have h1 : itemsB L (n + 1) = none := by
    unfold itemsB
    rw [h]
    cases itemsB L n <;> rfl
  have h2 := itemsB_none (show n + 1 ≤ L.length from hn) h1
  unfold asmB
  rw [h2]
  split <;> rfl
/-- an item that may stand is a label, or none -/
theorem lab_of {t : It} (h : (lenI t).isSome = true) : t.lab = 0 ∨ 0 < t.lab := by
  unfold lenI at h
  split at h
  · split at h
    · exact .inl (by assumption)
    · split at h
      · rename_i hc
        exact .inr hc.1
      · cases h
  · cases h
theorem to_of {t : It} (h : (lenI t).isSome = true) : 0 ≤ t.to := by
  unfold lenI at h
  split at h
  · rename_i ht
    unfold toOk at ht
    omega
  · cases h
end Go.Ob.Xc
/- The reference's assembler, plain: its search for a label, its items, and that they are the program's. -/
namespace Go.Ob.Xc
set_option linter.unusedVariables false
set_option linter.unusedSimpArgs false
/-- the search among the first n: none if the label came twice -/
def fnd (L : List It) (a : Int) : Nat → Option Int
  | 0 => some (-1)
  | n + 1 => match fnd L a n with
    | none => none
    | some k => if (L.getD n default).lab = a then (if 0 ≤ k then none else some n) else some k
/-- the search's answer -/
def fndA (L : List It) (a : Int) : Int := (fnd L a L.length).getD (-1)
theorem fnd_none {L : List It} {a : Int} {n m : Nat} (h : n ≤ m) (hn : fnd L a n = none) : fnd L a m = none := by
  induction m with
  | zero => rw [Nat.le_zero.mp h] at hn; exact hn
  | succ m ih =>
    rcases Nat.lt_or_ge n (m + 1) with c | c
    · unfold fnd
      rw [ih (by omega)]
    · rw [show m + 1 = n by omega]; exact hn
theorem fnd_bd (L : List It) (a : Int) : ∀ (n : Nat) (k : Int), fnd L a n = some k → -1 ≤ k ∧ k < n
  | 0, k, h => by
    unfold fnd at h
    simp only [Option.some.injEq] at h
    omega
  | n + 1, k, h => by
    unfold fnd at h
    split at h
    · cases h
    · rename_i j hj
      have := fnd_bd L a n j hj
      split at h
      · split at h
        · cases h
        · simp only [Option.some.injEq] at h
          omega
      · simp only [Option.some.injEq] at h
        omega
theorem fndA_bd (L : List It) (a : Int) : -1 ≤ fndA L a ∧ fndA L a < (L.length : Int) ∨ fndA L a = -1 := by
  unfold fndA
  cases h : fnd L a L.length with
  | none => exact .inr rfl
  | some k => exact .inl (fnd_bd L a _ k h)
/-- the bytes of item k, as the reference reckons them -/
def ritemB (L : List It) (k : Nat) : Option (List Int) :=
  let t := L.getD k default
  if 0 < t.lab then (if fndA L t.lab < 0 then none else some [])
  else if 0 < t.to then
    (if fndA L t.to < 0 then none
     else let x := { t.x with n := pos L (fndA L t.to).toNat - pos L (k + 1) }; if right x = true then some (enc x) else none)
  else if right t.x = true then some (enc t.x) else none
def ritemsB (L : List It) : Nat → Option (List Int)
  | 0 => some []
  | n + 1 => match ritemsB L n, ritemB L n with
    | some a, some b => some (a ++ b)
    | _, _ => none
def rasmB (L : List It) : Option (List Int) := if okL L = true then ritemsB L L.length else none
theorem ritemB_ok {L : List It} {n : Nat} {b : List Int} (h : ritemB L n = some b) : b.length ≤ 15 ∧ ∀ x ∈ b, 0 ≤ x ∧ x < 256 := by
  unfold ritemB at h
  dsimp only at h
  split at h
  · split at h
    · cases h
    · simp only [Option.some.injEq] at h
      subst h
      simp
  · split at h
    · split at h
      · cases h
      · split at h
        · rename_i hr
          simp only [Option.some.injEq] at h
          subst h
          exact ⟨enc_len _, enc_okl hr⟩
        · cases h
    · split at h
      · rename_i hr
        simp only [Option.some.injEq] at h
        subst h
        exact ⟨enc_len _, enc_okl hr⟩
      · cases h
theorem ritemsB_ok {L : List It} : ∀ {n : Nat} {b : List Int}, ritemsB L n = some b → b.length ≤ 15 * n ∧ ∀ x ∈ b, 0 ≤ x ∧ x < 256
  | 0, b, h => by
    unfold ritemsB at h
    simp only [Option.some.injEq] at h
    subst h
    simp
  | n + 1, b, h => by
    unfold ritemsB at h
    split at h
    · rename_i a c ha hc
      simp only [Option.some.injEq] at h
      subst h
      have h1 := ritemsB_ok ha
      have h2 := ritemB_ok hc
      refine ⟨by rw [List.length_append]; omega, fun x hx => ?_⟩
      rcases List.mem_append.mp hx with hx | hx
      · exact h1.2 x hx
      · exact h2.2 x hx
    · cases h
theorem ritemsB_step {L : List It} {n : Nat} {a b : List Int} (ha : ritemsB L n = some a) (hb : ritemB L n = some b) : ritemsB L (n + 1) = some (a ++ b) := by
  unfold ritemsB
  rw [ha, hb]
theorem ritemsB_none {L : List It} {n m : Nat} (h : n ≤ m) (hn : ritemsB L n = none) : ritemsB L m = none := by
  induction m with
  | zero => rw [Nat.le_zero.mp h] at hn; exact hn
  | succ m ih =>
    rcases Nat.lt_or_ge n (m + 1) with c | c
    · unfold ritemsB
      rw [ih (by omega)]
    · rw [show m + 1 = n by omega]; exact hn
theorem rasmB_item {L : List It} {n : Nat} (hn : n < L.length) (h : ritemB L n = none) : rasmB L = none := by
  have h1 : ritemsB L (n + 1) = none := by
    unfold ritemsB
    rw [h]
    cases ritemsB L n <;> rfl
  have h2 := ritemsB_none (show n + 1 ≤ L.length from hn) h1
  unfold rasmB
  rw [h2]
  split <;> rfl
/-- the search and the map, while no label is twice -/
theorem fnd_lk {L : List It} {a : Int} (ha : a ≠ 0) : ∀ n, nd L n = true → (∃ k, fnd L a n = some k ∧ ((k = -1 ∧ lk L n a = none) ∨ (0 ≤ k ∧ lk L n a = some (pos L k.toNat))))
  | 0, _ => ⟨-1, rfl, .inl ⟨rfl, rfl⟩⟩
  | n + 1, h => by
    unfold nd at h
    rw [Bool.and_eq_true] at h
    obtain ⟨k, hk, hc⟩ := fnd_lk ha n h.1
    by_cases hl : (L.getD n default).lab = a
    · have h2 := h.2
      rw [hl, show (a == 0) = false from beq_eq_false_iff_ne.mpr ha, Bool.false_or] at h2
      rcases hc with ⟨rfl, hn⟩ | ⟨h0, hs⟩
      · refine ⟨(n : Int), ?_, .inr ⟨by omega, ?_⟩⟩
        · unfold fnd
          rw [hk]
          simp only [if_pos hl]
          rw [if_neg (by decide)]
        · unfold lk
          rw [if_pos ⟨hl, ha, hn⟩]
          rfl
      · rw [hs] at h2
        cases h2
    · refine ⟨k, ?_, ?_⟩
      · unfold fnd
        rw [hk]
        simp only [if_neg hl]
      · have : lk L (n + 1) a = lk L n a := by
          show (if (L.getD n default).lab = a ∧ a ≠ 0 ∧ lk L n a = none then some (pos L n) else lk L n a) = lk L n a
          rw [if_neg (fun c => hl c.1)]
        rw [this]
        exact hc
/-- a label that is twice is found to be so -/
theorem nd_false {L : List It} : ∀ n, nd L n = false → ∃ m, m < n ∧ (L.getD m default).lab ≠ 0 ∧ fnd L (L.getD m default).lab n = none
  | 0, h => by cases h
  | n + 1, h => by
    by_cases hn : nd L n = true
    · unfold nd at h
      rw [hn, Bool.true_and, Bool.or_eq_false_iff, beq_eq_false_iff_ne] at h
      obtain ⟨h1, h2⟩ := h
      obtain ⟨k, hk, hc⟩ := fnd_lk h1 n hn
      refine ⟨n, Nat.lt_succ_self n, h1, ?_⟩
      unfold fnd
      rw [hk]
      simp only [if_true]
      rcases hc with ⟨_, hx⟩ | ⟨h0, _⟩
      · rw [hx] at h2
        cases h2
      · rw [if_pos h0]
    · obtain ⟨m, hm, h1, h2⟩ := nd_false n (Bool.eq_false_iff.mpr hn)
      exact ⟨m, by omega, h1, fnd_none (Nat.le_succ n) h2⟩
/-- the two are the same -/
theorem rasm_eq (L : List It) : rasmB L = asmB L := by
  unfold rasmB asmB
  by_cases hok : okL L = true
  · rw [if_pos hok]
    by_cases hnd : nd L L.length = true
    · rw [if_pos ⟨hok, hnd⟩]
      have key : ∀ n, n ≤ L.length → ritemsB L n = itemsB L n := by
        intro n
        induction n with
        | zero => intro _; rfl
        | succ n ih =>
          intro hn
          unfold ritemsB itemsB
          rw [ih (by omega)]
          have hi : ritemB L n = itemB L n := by
            unfold ritemB itemB
            dsimp only
            have e : L.getD n default = L[n] := by rw [List.getD_eq_getElem?_getD, List.getElem?_eq_getElem (by omega)]; rfl
            by_cases hl : 0 < (L.getD n default).lab
            · rw [if_pos hl, if_pos hl]
              obtain ⟨k, hk, hc⟩ := fnd_lk (a := (L.getD n default).lab) (by omega) L.length hnd
              have hne : lk L L.length (L.getD n default).lab ≠ none := by
                have h1 : lk L (n + 1) (L.getD n default).lab ≠ none := by
                  unfold lk
                  split
                  · simp
                  · rename_i hc2
                    intro hc3
                    exact hc2 ⟨rfl, by omega, hc3⟩
                intro hc2
                have mono : ∀ m, n + 1 ≤ m → lk L m (L.getD n default).lab ≠ none := by
                  intro m hm
                  induction m with
                  | zero => omega
                  | succ m ihm =>
                    rcases Nat.lt_or_ge n m with c | c
                    · unfold lk
                      split
                      · simp
                      · exact ihm (by omega)
                    · rw [show m = n by omega]; exact h1
                exact mono L.length (by omega) hc2
              rcases hc with ⟨_, hx⟩ | ⟨h0, _⟩
              · exact absurd hx hne
              · have : fndA L (L.getD n default).lab = k := by unfold fndA; rw [hk]; rfl
                rw [this, if_neg (by omega)]
            · rw [if_neg hl, if_neg hl]
              by_cases hto : 0 < (L.getD n default).to
              · rw [if_pos hto, if_pos hto]
                obtain ⟨k, hk, hc⟩ := fnd_lk (a := (L.getD n default).to) (by omega) L.length hnd
                have hf : fndA L (L.getD n default).to = k := by unfold fndA; rw [hk]; rfl
                rw [hf]
                rcases hc with ⟨rfl, hx⟩ | ⟨h0, hx⟩
                · rw [hx, if_pos (by decide)]
                · rw [hx, if_neg (by omega)]
              · rw [if_neg hto, if_neg hto]
          rw [hi]
          all_goals (cases itemsB L n <;> cases itemB L n <;> rfl)
      exact key L.length (Nat.le_refl _)
    · rw [if_neg (fun c => hnd c.2)]
      obtain ⟨m, hm, h1, h2⟩ := nd_false L.length (Bool.eq_false_iff.mpr hnd)
      have e : L.getD m default = L[m] := by rw [List.getD_eq_getElem?_getD, List.getElem?_eq_getElem hm]; rfl
      have hp : 0 < (L.getD m default).lab := by
        have := lab_of (List.all_eq_true.mp hok L[m] (List.getElem_mem hm))
        rw [e] at h1 ⊢
        omega
      have hi : ritemB L m = none := by
        unfold ritemB
        dsimp only
        rw [if_pos hp]
        have : fndA L (L.getD m default).lab = -1 := by unfold fndA; rw [h2]; rfl
        rw [this, if_pos (by decide)]
      have h3 : ritemsB L (m + 1) = none := by
        unfold ritemsB
        rw [hi]
        cases ritemsB L m <;> rfl
      exact ritemsB_none (by omega) h3
  · rw [if_neg hok, if_neg (fun c => hok c.1)]
end Go.Ob.Xc

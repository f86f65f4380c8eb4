/- Labels of other numbers make the same bytes: plain. -/
import Derived.Test.YtkfinaongajhmaaDoorAMap
namespace Go.Ob.Xc
set_option linter.unusedVariables false
set_option linter.unusedSimpArgs false
/-- an item, its labels so much more -/
def sh (d : Int) (t : It) : It := ⟨t.x, if 0 < t.lab then t.lab + d else t.lab, if 0 < t.to then t.to + d else t.to⟩
theorem sh_to (d : Int) (hd : 0 ≤ d) (t : It) : toOk (sh d t) ↔ toOk t := by
  unfold toOk sh
  dsimp only
  by_cases hj : isJ t.x.op <;> simp only [hj, true_and, not_true_eq_false, false_and, or_false, false_or, not_false_eq_true] <;> split <;> omega
theorem sh_len (d : Int) (hd : 0 ≤ d) (t : It) : lenI (sh d t) = lenI t := by
  unfold lenI
  by_cases h : toOk t
  · rw [if_pos h, if_pos ((sh_to d hd t).mpr h)]
    have h1 : (sh d t).lab = 0 ↔ t.lab = 0 := by unfold sh; dsimp only; split <;> omega
    have h2 : (0 < (sh d t).lab ∧ (sh d t).x = xz ∧ (sh d t).to = 0) ↔ (0 < t.lab ∧ t.x = xz ∧ t.to = 0) := by
      unfold sh
      dsimp only
      constructor
      · rintro ⟨a, b, c⟩
        refine ⟨?_, b, ?_⟩
        · split at a <;> omega
        · split at c <;> omega
      · rintro ⟨a, b, c⟩
        refine ⟨?_, b, ?_⟩
        · rw [if_pos a]; omega
        · rw [if_neg (by omega)]; exact c
    by_cases hl : t.lab = 0
    · rw [if_pos hl, if_pos (h1.mpr hl)]; rfl
    · rw [if_neg hl, if_neg (fun c => hl (h1.mp c))]
      by_cases hc : 0 < t.lab ∧ t.x = xz ∧ t.to = 0
      · rw [if_pos hc, if_pos (h2.mpr hc)]
      · rw [if_neg hc, if_neg (fun c => hc (h2.mp c))]
  · rw [if_neg h, if_neg (fun c => h ((sh_to d hd t).mp c))]
theorem sh_pos (d : Int) (hd : 0 ≤ d) (L : List It) (n : Nat) : pos (L.map (sh d)) n = pos L n := by
  unfold pos
  rw [← List.map_take, List.map_map]
  congr 1
  apply List.map_congr_left
  intro t _
  simp only [Function.comp, sh_len d hd]
theorem sh_ok (d : Int) (hd : 0 ≤ d) (L : List It) : okL (L.map (sh d)) = okL L := by
  unfold okL
  rw [List.all_map]
  congr 1
  funext t
  simp only [Function.comp, sh_len d hd]
theorem sh_get (d : Int) (L : List It) (n : Nat) : (L.map (sh d)).getD n default = sh d (L.getD n default) := by
  simp only [List.getD_eq_getElem?_getD, List.getElem?_map]
  cases L[n]? <;> rfl
/-- all labels are nought or more -/
def lab0 (L : List It) : Prop := ∀ n, 0 ≤ (L.getD n default).lab
theorem sh_lk (d : Int) (hd : 0 ≤ d) (L : List It) (h0 : lab0 L) (a : Int) (ha : 0 < a) : ∀ n, lk (L.map (sh d)) n (a + d) = lk L n a
  | 0 => rfl
  | n + 1 => by
    have ih := sh_lk d hd L h0 a ha n
    unfold lk
    rw [ih, sh_get, sh_pos d hd]
    have h1 := h0 n
    have h2 : ((sh d (L.getD n default)).lab = a + d ∧ a + d ≠ 0 ∧ lk L n a = none) ↔ ((L.getD n default).lab = a ∧ a ≠ 0 ∧ lk L n a = none) := by
      unfold sh
      dsimp only
      constructor
      · rintro ⟨x, y, z⟩
        exact ⟨by split at x <;> omega, by omega, z⟩
      · rintro ⟨x, y, z⟩
        exact ⟨by rw [if_pos (by omega)]; omega, by omega, z⟩
    by_cases hc : (L.getD n default).lab = a ∧ a ≠ 0 ∧ lk L n a = none
    · rw [if_pos hc, if_pos (h2.mpr hc)]
    · rw [if_neg hc, if_neg (fun c => hc (h2.mp c))]
theorem sh_nd (d : Int) (hd : 0 ≤ d) (L : List It) (h0 : lab0 L) : ∀ n, nd (L.map (sh d)) n = nd L n
  | 0 => rfl
  | n + 1 => by
    have ih := sh_nd d hd L h0 n
    unfold nd
    rw [ih, sh_get]
    have h1 := h0 n
    by_cases hl : (L.getD n default).lab = 0
    · have e : (sh d (L.getD n default)).lab = 0 := by unfold sh; dsimp only; rw [if_neg (by omega)]; exact hl
      rw [e, hl]
      simp
    · have hp : 0 < (L.getD n default).lab := by omega
      have e : (sh d (L.getD n default)).lab = (L.getD n default).lab + d := by unfold sh; dsimp only; rw [if_pos hp]
      rw [e, sh_lk d hd L h0 _ hp, show ((L.getD n default).lab + d == 0) = false from beq_eq_false_iff_ne.mpr (by omega), show ((L.getD n default).lab == 0) = false from beq_eq_false_iff_ne.mpr hl]
theorem sh_item (d : Int) (hd : 0 ≤ d) (L : List It) (h0 : lab0 L) (k : Nat) : itemB (L.map (sh d)) k = itemB L k := by
  unfold itemB
  dsimp only
  rw [sh_get, List.length_map]
  generalize ht : L.getD k default = t
  have h1 := h0 k
  rw [ht] at h1
  have ex : (sh d t).x = t.x := rfl
  by_cases hl : 0 < t.lab
  · have : 0 < (sh d t).lab := by unfold sh; dsimp only; rw [if_pos hl]; omega
    rw [if_pos hl, if_pos this]
  · have : ¬ 0 < (sh d t).lab := by unfold sh; dsimp only; rw [if_neg hl]; exact hl
    rw [if_neg hl, if_neg this]
    by_cases hto : 0 < t.to
    · have e : (sh d t).to = t.to + d := by unfold sh; dsimp only; rw [if_pos hto]
      rw [e, if_pos (by omega), if_pos hto, sh_lk d hd L h0 _ hto, ex]
      simp only [sh_pos d hd]
    · have e : (sh d t).to = t.to := by unfold sh; dsimp only; rw [if_neg hto]
      rw [e, if_neg hto, if_neg hto, ex]
theorem sh_items (d : Int) (hd : 0 ≤ d) (L : List It) (h0 : lab0 L) : ∀ n, itemsB (L.map (sh d)) n = itemsB L n
  | 0 => rfl
  | n + 1 => by
    unfold itemsB
    rw [sh_items d hd L h0 n, sh_item d hd L h0]
/-- labels of other numbers make the same bytes -/
theorem asm_shift (d : Int) (hd : 0 ≤ d) (L : List It) : asmB (L.map (sh d)) = asmB L := by
  unfold asmB
  rw [sh_ok d hd, List.length_map]
  by_cases hok : okL L = true
  · have h0 : lab0 L := fun n => by
      by_cases hn : n < L.length
      · have e : L.getD n default = L[n] := by rw [List.getD_eq_getElem?_getD, List.getElem?_eq_getElem hn]; rfl
        rw [e]
        have := lab_of (List.all_eq_true.mp hok L[n] (List.getElem_mem hn))
        omega
      · have e : L.getD n default = default := by rw [List.getD_eq_getElem?_getD, List.getElem?_eq_none (by omega)]; rfl
        rw [e]
        decide
    rw [sh_nd d hd L h0, sh_items d hd L h0]
  · rw [if_neg (fun c => hok c.1), if_neg (fun c => hok c.1)]
end Go.Ob.Xc

/- What was assembled, item by item: plain, no program. -/
import Derived.Test.YtkfinaongajhmaaDoorACat
namespace Go.Proofs.YtkfinaongajhmaaDoor.X
open Go.Ob Go.Ob.Xc
set_option linter.unusedVariables false
set_option linter.unusedSimpArgs false
theorem ins_more (L : List It) (n : Nat) : ∀ j, ∃ r, ins L (n + j) = ins L n ++ r
  | 0 => ⟨[], by simp⟩
  | j + 1 => by
    obtain ⟨r, hr⟩ := ins_more L n j
    rw [← Nat.add_assoc]
    show ∃ r, (if 0 < (L.getD (n + j) default).lab then ins L (n + j) else ins L (n + j) ++ [res L (n + j)]) = _
    split
    · exact ⟨r, hr⟩
    · exact ⟨r ++ [res L (n + j)], by rw [hr, List.append_assoc]⟩
theorem ins_at {L : List It} {i : Nat} (hi : i < L.length) (hl : ¬ 0 < (L.getD i default).lab) : ∃ r, ins L L.length = ins L i ++ res L i :: r := by
  obtain ⟨r, hr⟩ := ins_more L (i + 1) (L.length - (i + 1))
  rw [show i + 1 + (L.length - (i + 1)) = L.length by omega] at hr
  refine ⟨r, ?_⟩
  rw [hr]
  conv => lhs; unfold ins
  rw [if_neg hl, List.append_assoc]
  rfl
theorem lk_there {L : List It} {a p : Int} : ∀ n, lk L n a = some p → ∃ j, j < n ∧ (L.getD j default).lab = a ∧ pos L j = p
  | 0, h => by cases h
  | n + 1, h => by
    unfold lk at h
    split at h
    · rename_i hc
      simp only [Option.some.injEq] at h
      exact ⟨n, by omega, hc.1, h⟩
    · obtain ⟨j, hj, h1, h2⟩ := lk_there n h
      exact ⟨j, by omega, h1, h2⟩
theorem offs_at (A B : List XI) (x : XI) (k : Int) : (offs k (A ++ x :: B)).getD A.length 0 = k + (cat A).length := by
  rw [offs_append, offs, List.getD_eq_getElem?_getD, List.getElem?_append_right (by rw [offs_length]; exact Nat.le_refl _), offs_length, Nat.sub_self]
  rfl
/-- what the law asks of item i -/
structure ItAt (L : List It) (s : List Int) (i : Nat) : Prop where
  one : (ins L i).length < (ins L L.length).length
  two : (offs 0 (ins L L.length)).getD (ins L i).length 0 = pos L i
  le : pos L i ≤ s.length
  dec : ∃ n : Nat, dec (s.drop (pos L i).toNat) = some (res L i, n) ∧ (n : Int) = pos L (i + 1) - pos L i ∧ 1 ≤ n ∧ n ≤ 10
  jump : 0 < (L.getD i default).to → ∃ j p, j < L.length ∧ (L.getD j default).lab = (L.getD i default).to ∧ pos L j = p ∧ p = pos L (i + 1) + (res L i).n ∧ { res L i with n := 0 } = (L.getD i default).x
  still : ¬ 0 < (L.getD i default).to → res L i = (L.getD i default).x
  nb : NB (res L i)
  next : (ins L (i + 1)).length = (ins L i).length + 1
theorem at_of {L : List It} {s : List Int} (hL : L.length ≤ 1000) (hi : ∀ t ∈ L, NB t.x) (h : asmB L = some s) {i : Nat} (hlt : i < L.length) (hl : ¬ 0 < (L.getD i default).lab) : ItAt L s i := by
  obtain ⟨h1, h2, h3, h4, h5, h6⟩ := asm_ins hL hi h
  obtain ⟨r, hr⟩ := ins_at hlt hl
  obtain ⟨a, ha⟩ := itemsB_le (show i ≤ L.length by omega) h3
  obtain ⟨b, hb⟩ := itemsB_item hlt h3
  obtain ⟨e1, e2, -⟩ := itemsB_ins h1 i a (by omega) ha
  obtain ⟨f1, f2, f3, f4⟩ := item_ins hl hb (okL_get h1 hlt)
  have hnb := res_nb hL hi hlt
  have hp : pos L i = (cat (ins L i)).length := by rw [← e2, e1]
  obtain ⟨s1, s2, -⟩ := sizes f2
  have hs : s = cat (ins L i) ++ (enc (res L i) ++ cat r) := by rw [h4, hr, cat_append]; rfl
  refine ⟨?_, ?_, ?_, ⟨(enc (res L i)).length, ?_, ?_, s1, s2⟩, ?_, ?_, hnb, ?_⟩
  · rw [hr]; simp
  · rw [hr, offs_at, hp, Int.zero_add]
  · rw [hp, hs]; simp only [List.length_append]; omega
  · rw [hp, Int.toNat_natCast, hs, List.drop_left, dec_enc _ _ f2 hnb]
  · rw [pos_get hlt, f3]; omega
  · intro hto
    obtain ⟨g1, g2, p, g3⟩ := f4 hto
    obtain ⟨j, j1, j2, j3⟩ := lk_there _ g3
    refine ⟨j, p, j1, j2, j3, ?_, ?_⟩
    · unfold res
      dsimp only
      rw [if_pos hto, g3, Option.getD_some]
      show p = pos L (i + 1) + (p - pos L (i + 1))
      omega
    · unfold res
      dsimp only
      rw [if_pos hto]
      refine XI.ext' rfl rfl rfl rfl rfl rfl ?_
      exact g2.symm
  · intro hto
    unfold res
    dsimp only
    rw [if_neg hto]
  · conv => lhs; unfold ins
    rw [if_neg hl, List.length_append]
    rfl
theorem ins_skip {L : List It} {i : Nat} (hl : 0 < (L.getD i default).lab) : (ins L (i + 1)).length = (ins L i).length := by
  conv => lhs; unfold ins
  rw [if_pos hl]
end Go.Proofs.YtkfinaongajhmaaDoor.X

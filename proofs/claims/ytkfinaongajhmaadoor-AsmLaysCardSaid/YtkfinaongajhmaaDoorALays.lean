/- AsmLays: the walk. -/
import Derived.Test.YtkfinaongajhmaaDoorRAsm
import Derived.Test.YtkfinaongajhmaaDoorAExamples
import Derived.Test.YtkfinaongajhmaaDoorAPlaces
namespace Go.Proofs.YtkfinaongajhmaaDoor.X
open Go.Ob Go.Ob.Xc Go.RowKit Go.Proofs.YtkfinaongajhmaaDoorW.PrintWords Go.Proofs.YtkfinaongajhmaaDoorW.PrintMore
attribute [local go_sem] max2_int min2_int max_two min_two
set_option linter.unusedVariables false
set_option linter.unusedSimpArgs false
/-- what the reference's assembler computes -/
theorem RAssemble (L : List It) (A : Option Addr) (cap : Nat) (w : World) (hL : L.length ≤ 1000) (hi : Its w A L) :
    Calls Tryd.prog 29 #[.slice A L.length cap] w (RAsmAns L w) := by
  cases hok : okL L with
  | false => exact RAsmBad L A cap w hL hi hok
  | true => exact RAsmOk L A cap w hL hi hok
theorem Its.take2 {w : World} {A : Option Addr} {L : List It} (h : Its w A L) (n : Nat) : Its w A (L.take n) := by
  refine ⟨fun t ht => h.1 t (List.mem_of_mem_take ht), fun h0 => ?_⟩
  rw [List.length_take] at h0
  obtain ⟨a, rfl, ha, hc⟩ := h.2 (by omega)
  refine ⟨a, rfl, ha, fun i hi => ?_⟩
  have hi' := hi
  rw [List.length_take] at hi'
  rw [List.getElem_take]
  exact hc i (by omega)
theorem ps_map (L : List It) (n : Nat) : ps L n = ((List.range (n + 1)).map (pos L)).map (Value.int .i64) := by
  unfold ps
  rw [List.map_map]
  rfl
/-- the places of both, as lists of numbers -/
theorem places_two (M : List It) (A : Option Addr) (cap : Nat) (hM : M.length ≤ 1000) : ∃ (n : Nat) (xs : List Int) (e1 : Int) (ok : Bool), ((e1 = 0 ∧ ok = true) ∨ (e1 = 4 ∧ ok = false)) ∧
    (∀ W, Tab W → Its W A M → Calls Tryd.prog 25 #[.slice A M.length cap] W fun e w' => ∃ (B : Option Addr) (c : Nat), e = .returned (.tuple #[.slice B n c, .int .i64 e1]) ∧ ReadsInt w' .i64 B n xs ∧ Below W.heap.size W w') ∧
    (∀ W, Its W A M → Calls Tryd.prog 26 #[.slice A M.length cap] W fun e w' => ∃ (B : Option Addr) (c : Nat), e = .returned (.tuple #[.slice B n c, .bool ok]) ∧ ReadsInt w' .i64 B n xs ∧ Below W.heap.size W w') := by
  cases hok : okL M with
  | true =>
    refine ⟨M.length + 1, (List.range (M.length + 1)).map (pos M), 0, true, .inl ⟨rfl, rfl⟩, fun W ht hi => (Places M A cap W ht hM hi).mono fun e w' h => ?_, fun W hi => (RPlaces M A cap W hM hi).mono fun e w' h => ?_⟩
    · unfold PlacesAns at h
      rw [hok] at h
      obtain ⟨⟨v, rfl, ho⟩, hb⟩ := h
      rw [ps_map] at ho
      obtain ⟨B, c, rfl, hr⟩ := reads_of_own ho (by omega)
      exact ⟨B, c, rfl, hr, hb⟩
    · unfold RPlacesAns at h
      rw [hok] at h
      obtain ⟨⟨v, rfl, ho⟩, hb⟩ := h
      rw [ps_map] at ho
      obtain ⟨B, c, rfl, hr⟩ := reads_of_own ho (by omega)
      exact ⟨B, c, rfl, hr, hb⟩
  | false =>
    have hnil : ∀ W : World, ReadsInt W .i64 none 0 [] := fun W => ⟨rfl, by decide, fun h => absurd h (by decide)⟩
    refine ⟨0, [], 4, false, .inr ⟨rfl, rfl⟩, fun W ht hi => (Places M A cap W ht hM hi).mono fun e w' h => ?_, fun W hi => (RPlaces M A cap W hM hi).mono fun e w' h => ?_⟩
    · unfold PlacesAns at h
      rw [hok] at h
      obtain ⟨he, hb⟩ := h
      exact ⟨none, 0, he, hnil _, hb⟩
    · unfold RPlacesAns at h
      rw [hok] at h
      obtain ⟨he, hb⟩ := h
      exact ⟨none, 0, he, hnil _, hb⟩
/-- the bytes of both -/
theorem asm_two (M : List It) (A : Option Addr) (cap : Nat) (hM : M.length ≤ 1000) : ∃ (s : ByteArray) (e1 : Int) (ok : Bool), ((e1 = 0 ∧ ok = true) ∨ (e1 = 4 ∧ ok = false)) ∧
    (∀ W, Tab W → Its W A M → Calls Tryd.prog 28 #[.slice A M.length cap] W fun e w' => e = .returned (.tuple #[.string s, .int .i64 e1]) ∧ Below W.heap.size W w') ∧
    (∀ W, Its W A M → Calls Tryd.prog 29 #[.slice A M.length cap] W fun e w' => e = .returned (.tuple #[.string s, .bool ok]) ∧ Below W.heap.size W w') := by
  have hr := rasm_eq M
  cases h : asmB M with
  | some b =>
    rw [h] at hr
    refine ⟨strOfNums b, 0, true, .inl ⟨rfl, rfl⟩, fun W ht hi => (Assemble M A cap W ht hM hi).mono fun e w' q => ?_, fun W hi => (RAssemble M A cap W hM hi).mono fun e w' q => ?_⟩
    · unfold AsmAns at q
      rw [h] at q
      exact ⟨q.1, q.2⟩
    · unfold RAsmAns at q
      rw [hr] at q
      exact ⟨q.1, q.2⟩
  | none =>
    rw [h] at hr
    refine ⟨⟨#[]⟩, 4, false, .inr ⟨rfl, rfl⟩, fun W ht hi => (Assemble M A cap W ht hM hi).mono fun e w' q => ?_, fun W hi => (RAssemble M A cap W hM hi).mono fun e w' q => ?_⟩
    · unfold AsmAns at q
      rw [h] at q
      exact ⟨q.1, q.2⟩
    · unfold RAsmAns at q
      rw [hr] at q
      exact ⟨q.1, q.2⟩
set_option maxHeartbeats 16000000 in
set_option maxRecDepth 100000 in
theorem LaysWalk (L M : List It) (A : Option Addr) (cap n : Nat) (w : World) (ht : Tab w) (hi : Its w A M) (hcap : L.length ≤ cap) (hlen : L.length ≤ 9223372036854775807) (hnM : M.length = n) (hn200 : n ≤ 200)
    (hn : (L.length ≤ 200 ∧ n = L.length) ∨ (¬ L.length ≤ 200 ∧ n = 200)) :
    Calls Tryd.prog 10 #[.slice A L.length cap] w fun e w' => e = .returned (.bool true) ∧ Below w.heap.size w w' := by
  obtain ⟨m, xs, e1, ok, hv, hP, hR⟩ := places_two M A cap (by omega)
  obtain ⟨s, e2, ok2, hv2, hA, hB⟩ := asm_two M A cap (by omega)
  rw [hnM] at hP hR hA hB
  have HP := Aside0.mk hP
  have HR := Aside0.mk hR
  have HA := Aside0.mk hA
  have HB := Aside0.mk hB
  have HE := Aside0.mk (AExamples w ht)
  have HT := Aside0.mk (And.intro ht hi)
  clear ht hi hP hR hA hB hnM
  have eq1 : (s.toList == s.toList) = true := beq_self_eq_true _
  rcases hn with ⟨hn, rfl⟩ | ⟨hn, rfl⟩ <;> rcases hv with ⟨rfl, rfl⟩ | ⟨rfl, rfl⟩ <;> rcases hv2 with ⟨rfl, rfl⟩ | ⟨rfl, rfl⟩
  all_goals
    go_enter Tryd.func10, Tryd.ntmps10
    go_wp2_with (first
      | (go_at_call 24; (with_reducible refine HE.out.mono ?_); rintro e w1 ⟨rfl, hb⟩; have H1 := Aside0.mk hb; clear hb)
      | (go_at_call 25; (with_reducible refine (HP.out _ (HT.out.1.below H1.out) (HT.out.2.below H1.out)).mono ?_); rintro e w2 ⟨B, c, rfl, hr, hb⟩; have H2 := Aside0.mk (And.intro (H1.out.trans (hb.mono H1.out.size)) hr); clear hb hr)
      | (go_at_call 26; (with_reducible refine (HR.out _ (HT.out.2.below H2.out.1)).mono ?_); rintro e w3 ⟨B2, c2, rfl, hr, hb⟩; have H3 := Aside0.mk (And.intro (H2.out.1.trans (hb.mono H2.out.1.size)) (And.intro (H2.out.2.below hb) hr)); clear hb hr)
      | (go_at_call 27; (with_reducible refine (Numbers xs _ _ _ _ _ _ H3.out.2.1 H3.out.2.2).mono ?_); rintro e w4 ⟨rfl, hb⟩; have H4 := Aside0.mk (H3.out.1.trans (hb.mono H3.out.1.size)); clear hb)
      | (go_at_call 28; (with_reducible refine (HA.out _ (HT.out.1.below H4.out) (HT.out.2.below H4.out)).mono ?_); rintro e w5 ⟨rfl, hb⟩; have H5 := Aside0.mk (H4.out.trans (hb.mono H4.out.size)); clear hb)
      | (go_at_call 29; (with_reducible refine (HB.out _ (HT.out.2.below H5.out)).mono ?_); rintro e w6 ⟨rfl, hb⟩; have H6 := Aside0.mk (H5.out.trans (hb.mono H5.out.size)); clear hb))
    go_ret
    exact ⟨by first | rfl | simp, H6.out⟩
/-- the law, for a slice of items as a parameter -/
theorem LaysT (v : Value) (w : World) (ht : Tab w) (hv : TsIs w v) :
    Calls Tryd.prog 10 #[v] w fun e w' => e = .returned (.bool true) ∧ Below w.heap.size w w' := by
  obtain ⟨L, A, cap, rfl, hc, hl, hi⟩ := hv
  by_cases h : L.length ≤ 200
  · exact LaysWalk L L A cap L.length w ht hi hc hl rfl h (.inl ⟨h, rfl⟩)
  · exact LaysWalk L (L.take 200) A cap 200 w ht (hi.take2 200) hc hl (by rw [List.length_take]; omega) (Nat.le_refl _) (.inr ⟨h, rfl⟩)
end Go.Proofs.YtkfinaongajhmaaDoor.X

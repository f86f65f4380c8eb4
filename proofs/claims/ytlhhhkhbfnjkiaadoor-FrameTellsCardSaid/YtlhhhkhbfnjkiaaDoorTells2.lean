/- The places of chapter 19: the law of telling, its function. No condition but that the table of registers holds what the program's text lays, and that lengths are those of the language. -/
import Derived.Test.YtlhhhkhbfnjkiaaDoorTells
namespace Go.Proofs.YtlhhhkhbfnjkiaaDoor.Tells
open Go.RowKit Go.Proofs.YtlhhhkhbfnjkiaaDoorW.PrintWords Go.Proofs.YtlhhhkhbfnjkiaaDoorW.PrintMore
attribute [local go_sem] max2_int min2_int max_two min_two
set_option linter.unusedVariables false
set_option linter.unusedSimpArgs false
theorem wrap_in {x : Int} (h0 : -9223372036854775808 ≤ x) (h1 : x ≤ 9223372036854775807) : wrap64 x = x := by unfold wrap64; omega
/-- are all of them at most a million away from nought? -/
def near (L : List Int) : Prop := ∀ x ∈ L, -1000000 ≤ x ∧ x ≤ 1000000
/-- how many places behind the registers some use -/
def sl (L : List Int) : Int := L.foldl (fun n p => max n (p - 5)) 0
theorem sl_snoc (L : List Int) (x : Int) : sl (L ++ [x]) = max (sl L) (x - 5) := by unfold sl; rw [List.foldl_append]; rfl
theorem sl_bd (L : List Int) (h : near L) : 0 ≤ sl L ∧ sl L ≤ 1000000 := by
  unfold sl
  have key : ∀ (L : List Int) (n : Int), near L → 0 ≤ n → n ≤ 1000000 → 0 ≤ L.foldl (fun n p => max n (p - 5)) n ∧ L.foldl (fun n p => max n (p - 5)) n ≤ 1000000 := by
    intro L
    induction L with
    | nil => intro n _ h0 h1; exact ⟨h0, h1⟩
    | cons x L ih =>
      intro n hn h0 h1
      have hx := hn x (by simp)
      exact ih (max n (x - 5)) (fun y hy => hn y (by simp [hy])) (by omega) (by omega)
  exact key L 0 h (by omega) (by omega)
theorem take_step (L : List Int) (k : Nat) (h : k < L.length) : L.take (k + 1) = L.take k ++ [L.getD k 0] := by
  rw [List.take_succ_eq_append_getElem h, List.getD_eq_getElem?_getD, List.getElem?_eq_getElem h]; rfl
set_option maxHeartbeats 2000000 in
set_option maxRecDepth 100000 in
theorem Slots (L : List Int) (A : Option Addr) (n cap : Nat) (w : World) (hr : ReadsInt w .i64 A n L) (hn : near L) :
    Calls Tryd.prog 32 #[.slice A n cap] w fun e w' => e = .returned (.int .i64 (sl L)) ∧ w = w' := by
  obtain ⟨hl, hm, hc⟩ := hr
  have HL := Aside0.mk hl
  have HN := Aside0.mk hn
  have HC := Aside0.mk hc
  clear hl hn hc
  go_enter Tryd.func32, Tryd.ntmps32
  go_wp2
  go_loop [3, 8] (fun t i => ∃ k : Nat, k ≤ n ∧ i = .int .i64 k ∧ t = .int .i64 (sl (L.take k))) (fun _ i => n - (intOf i).toNat)
  case atStart => exact ⟨0, Nat.zero_le _, rfl, rfl⟩
  case round =>
    obtain ⟨k, hk, rfl, rfl⟩ := hrel
    by_cases hlt : k < n
    · obtain ⟨ad, hA, hcell⟩ := HC.out (by omega)
      subst hA
      have hck := hcell k hlt
      have hmem : L.getD k 0 ∈ L := by
        rw [List.getD_eq_getElem?_getD, List.getElem?_eq_getElem (by rw [HL.out]; exact hlt)]
        exact List.getElem_mem _
      obtain ⟨hx0, hx1⟩ := HN.out _ hmem
      obtain ⟨hs0, hs1⟩ := sl_bd (L.take k) (fun y hy => HN.out y (List.mem_of_mem_take hy))
      have hstep : sl (L.take (k + 1)) = max (sl (L.take k)) (L.getD k 0 - 5) := by rw [take_step L k (by rw [HL.out]; exact hlt), sl_snoc]
      have HS := Aside0.mk hstep
      clear hcell hstep hmem
      generalize L.getD k 0 = x at *
      generalize hs : sl (L.take k) = s at *
      have HE := Aside0.mk hs
      clear hs
      go_wp2
      refine ⟨⟨k + 1, hlt, rfl, ?_⟩, by simp [intOf]; omega⟩
      rw [HS.out]
      exact congrArg (Value.int .i64) (by split <;> omega)
    · obtain rfl : k = n := by omega
      go_wp2
      go_ret
      exact ⟨by rw [List.take_of_length_le (by rw [HL.out]; exact Nat.le_refl _)]; rfl, rfl⟩
set_option maxHeartbeats 2000000 in
set_option maxRecDepth 100000 in
theorem rSlots (L : List Int) (A : Option Addr) (n cap : Nat) (w : World) (hr : ReadsInt w .i64 A n L) (hn : near L) :
    Calls Tryd.prog 33 #[.slice A n cap] w fun e w' => e = .returned (.int .i64 (sl L)) ∧ w = w' := by
  obtain ⟨hl, hm, hc⟩ := hr
  have HL := Aside0.mk hl
  have HN := Aside0.mk hn
  have HC := Aside0.mk hc
  clear hl hn hc
  go_enter Tryd.func33, Tryd.ntmps33
  go_wp2
  go_loop [3, 4] (fun t i => ∃ k : Nat, k ≤ n ∧ i = .int .i64 k ∧ t = .int .i64 (sl (L.take k))) (fun _ i => n - (intOf i).toNat)
  case atStart => exact ⟨0, Nat.zero_le _, rfl, rfl⟩
  case round =>
    obtain ⟨k, hk, rfl, rfl⟩ := hrel
    by_cases hlt : k < n
    · obtain ⟨ad, hA, hcell⟩ := HC.out (by omega)
      subst hA
      have hck := hcell k hlt
      have hmem : L.getD k 0 ∈ L := by
        rw [List.getD_eq_getElem?_getD, List.getElem?_eq_getElem (by rw [HL.out]; exact hlt)]
        exact List.getElem_mem _
      obtain ⟨hx0, hx1⟩ := HN.out _ hmem
      obtain ⟨hs0, hs1⟩ := sl_bd (L.take k) (fun y hy => HN.out y (List.mem_of_mem_take hy))
      have hstep : sl (L.take (k + 1)) = max (sl (L.take k)) (L.getD k 0 - 5) := by rw [take_step L k (by rw [HL.out]; exact hlt), sl_snoc]
      have HS := Aside0.mk hstep
      clear hcell hstep hmem
      generalize L.getD k 0 = x at *
      generalize hs : sl (L.take k) = s at *
      have HE := Aside0.mk hs
      clear hs
      go_wp2
      refine ⟨⟨k + 1, hlt, rfl, ?_⟩, by simp [intOf]; omega⟩
      rw [HS.out]
      exact congrArg (Value.int .i64) (by split <;> omega)
    · obtain rfl : k = n := by omega
      go_wp2
      go_ret
      exact ⟨by rw [List.take_of_length_le (by rw [HL.out]; exact Nat.le_refl _)]; rfl, rfl⟩
end Go.Proofs.YtlhhhkhbfnjkiaaDoor.Tells

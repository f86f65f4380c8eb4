/- The places of chapter 19: the law of telling, its function. No condition but that the table of registers holds what the program's text lays, and that lengths are those of the language. -/
import Derived.Test.YtlhhhkhbfnjkiaaDoorTells3
namespace Go.Proofs.YtlhhhkhbfnjkiaaDoor.Tells
open Go.RowKit Go.Proofs.YtlhhhkhbfnjkiaaDoorW.PrintWords Go.Proofs.YtlhhhkhbfnjkiaaDoorW.PrintMore
attribute [local go_sem] max2_int min2_int max_two min_two
set_option linter.unusedVariables false
set_option linter.unusedSimpArgs false
set_option maxHeartbeats 2000000 in
set_option maxRecDepth 100000 in
theorem examples (w : World) (hg : Glb w) : Calls Tryd.prog 8 #[] w fun e w' => e = .returned (.bool true) ∧ Below w.heap.size w w' := by
  have HG := Aside0.mk hg
  clear hg
  have e1 : rg 3 = 7 := rfl
  have e2 : isRg 3 = true := rfl
  have e3 : ld 0 7 = xv 11 true 0 4 0 0 8 := rfl
  have e4 : ldOk 0 7 = true := rfl
  have e5 : wrap64 (40 + wrap64 (8 * 1)) = 48 := by unfold wrap64; omega
  have e6 : wrap64 (wrap64 (131072 + wrap64 (65536 * 1)) - 65536) = 131072 := by unfold wrap64; omega
  have E := Aside0.mk (And.intro (And.intro e1 e2) (And.intro (And.intro e3 e4) (And.intro e5 e6)))
  clear e1 e2 e3 e4 e5 e6
  have heq := fun W => eqx 11 true 0 4 0 0 8 11 true 0 4 0 0 8 W
  go_enter Tryd.func8, Tryd.ntmps8
  go_wp2_with (first
    | (go_at_call 9; (with_reducible refine (Register 3 _ HG.out).mono ?_); rw [E.out.1.1, E.out.1.2]; rintro e w1 ⟨rfl, rfl⟩)
    | (go_at_call 11; (with_reducible refine (Load 0 7 _ HG.out).mono ?_); rw [E.out.2.1.1, E.out.2.1.2]; rintro e w1 ⟨rfl, hb1⟩; have H1 := Aside0.mk hb1; clear hb1)
    | (go_at_call 29; (with_reducible refine (NCalls _).mono ?_); rintro e w2 ⟨rfl, rfl⟩)
    | (go_at_call 19; (with_reducible refine (Global 1 _).mono ?_); rw [E.out.2.2.1]; rintro e w3 ⟨rfl, rfl⟩)
    | (go_at_call 21; (with_reducible refine (Memory 1 _).mono ?_); rw [E.out.2.2.2]; rintro e w4 ⟨rfl, rfl⟩))
  go_ret
  exact ⟨rfl, below_alloc H1.out _⟩
theorem ld_form (reg place : Int) : ∃ o wd r b i c n, ld reg place = xv o wd r b i c n := by
  unfold ld
  split
  · split <;> exact ⟨_, _, _, _, _, _, _, rfl⟩
  · exact ⟨_, _, _, _, _, _, _, rfl⟩
theorem sv_form (place reg : Int) : ∃ o wd r b i c n, sv place reg = xv o wd r b i c n := by
  unfold sv
  split
  · split <;> exact ⟨_, _, _, _, _, _, _, rfl⟩
  · exact ⟨_, _, _, _, _, _, _, rfl⟩
theorem reads_in {w : World} {A : Option Addr} {n : Nat} {L : List Int} (h : ReadsInt w .i64 A n L) {B : Nat} {w' : World} (hb : Below w.heap.size w w') : ReadsInt w' .i64 A n L := h.below hb
set_option maxHeartbeats 8000000 in
set_option maxRecDepth 100000 in
theorem Tells (place reg : Int) (L : List Int) (A : Option Addr) (n cap : Nat) (i : Int) (w : World) (hg : Glb w) (hr : ReadsInt w .i64 A n L) (hi : -9223372036854775808 ≤ i ∧ i ≤ 9223372036854775807) :
    Calls Tryd.prog 3 #[.int .i64 place, .int .i64 reg, .slice A n cap, .int .i64 i] w fun e w' => e = .returned (.bool true) ∧ Below w.heap.size w w' := by
  have g : ∀ W, Below w.heap.size w W → Glb W ∧ ReadsInt W .i64 A n L := fun W hb => ⟨hg.below hb, hr.below hb⟩
  have G := Aside0.mk g
  obtain ⟨hl, hm, hc⟩ := hr
  have HL := Aside0.mk hl
  obtain ⟨o1, d1, r1, b1, i1, c1, n1, f1⟩ := ld_form reg place
  obtain ⟨o2, d2, r2, b2, i2, c2, n2, f2⟩ := sv_form place reg
  have F := Aside0.mk (And.intro f1 f2)
  clear g hl hg hc f1 f2
  have heq1 := fun W => eqx o1 d1 r1 b1 i1 c1 n1 o1 d1 r1 b1 i1 c1 n1 W
  have heq2 := fun W => eqx o2 d2 r2 b2 i2 c2 n2 o2 d2 r2 b2 i2 c2 n2 W
  obtain ⟨hi0, hi1⟩ := hi
  obtain ⟨j, hj0, hj1, hji⟩ : ∃ j : Int, 0 ≤ j ∧ j ≤ 9223372036854775807 ∧ (if i < 0 then -(i + 1) else i) = j := by
    by_cases h : i < 0
    · rw [if_pos h]; exact ⟨_, by omega, by omega, rfl⟩
    · rw [if_neg h]; exact ⟨_, by omega, by omega, rfl⟩
  have HJ := Aside0.mk hji
  clear hji
  go_enter Tryd.func3, Tryd.ntmps3
  go_wp2_with (first
    | (go_at_call 8; (with_reducible refine (examples _ (G.out _ (Below.refl _ _)).1).mono ?_); rintro e w1 ⟨rfl, hb1⟩; have H1 := Aside0.mk hb1; clear hb1)
    | (go_at_call 9; (with_reducible refine (Register place _ (G.out _ H1.out).1).mono ?_); rintro e w2 ⟨rfl, rfl⟩)
    | (go_at_call 10; (with_reducible refine (rRegister place _).mono ?_); rintro e w2 ⟨rfl, rfl⟩)
    | (go_at_call 11; (with_reducible refine (Load reg place _ (G.out _ H1.out).1).mono ?_); rw [F.out.1]; rintro e w3 ⟨rfl, hb3⟩; have H3 := Aside0.mk (H1.out.trans (hb3.mono H1.out.size)); clear hb3)
    | (go_at_call 12; (with_reducible refine (rLoad reg place _).mono ?_); rw [F.out.1]; rintro e w4 ⟨rfl, hb4⟩; have K1 := Aside0.mk (blk_below (blk_new w3 _) hb4); have H4 := Aside0.mk ((below_alloc H3.out _).trans (hb4.mono (below_alloc H3.out _).size)); clear hb4)
    | (go_at_call 13; (with_reducible refine (Save place reg _ (G.out _ (below_alloc H4.out _)).1).mono ?_); rw [F.out.2]; rintro e w5 ⟨rfl, hb5⟩; have K1b := Aside0.mk (blk_below (blk_alloc K1.out _) hb5); have K2 := Aside0.mk (blk_below (blk_new w4 _) hb5); have H5 := Aside0.mk ((below_alloc H4.out _).trans (hb5.mono (below_alloc H4.out _).size)); clear hb5)
    | (go_at_call 14; (with_reducible refine (rSave place reg _).mono ?_); rw [F.out.2]; rintro e w6 ⟨rfl, hb6⟩; have K1c := Aside0.mk (blk_below (blk_alloc K1b.out _) hb6); have K2b := Aside0.mk (blk_below (blk_alloc K2.out _) hb6); have K3 := Aside0.mk (blk_below (blk_new w5 _) hb6); have H6 := Aside0.mk ((below_alloc H5.out _).trans (hb6.mono (below_alloc H5.out _).size)); clear hb6))
  all_goals
    obtain ⟨m, hm0, hm1, hme⟩ : ∃ m : Int, 0 ≤ m ∧ m ≤ 1000000 ∧ (i < 0 → -((i + 1).tmod 1000001) = m) ∧ (0 ≤ i → i % 1000001 = m) := by
      rcases Int.lt_or_le i 0 with h | h
      · refine ⟨-((i + 1).tmod 1000001), ?_, ?_, fun _ => rfl, fun h' => by omega⟩
        · rw [← Int.neg_tmod, Int.tmod_eq_emod_of_nonneg (by omega)]; omega
        · rw [← Int.neg_tmod, Int.tmod_eq_emod_of_nonneg (by omega)]; omega
      · exact ⟨i % 1000001, by omega, by omega, fun h' => by omega, fun _ => rfl⟩
    first
      | (have hq : -((i + 1).tmod 1000001) = m := hme.1 (by assumption); rw [hq]; clear hq)
      | (have hq : i % 1000001 = m := hme.2 (by assumption); rw [hq]; clear hq)
    clear hme
    have K1 := blk_alloc K1c.out (.cells #[.int .i64 o2, .bool d2, .int .i64 r2, .int .i64 b2, .int .i64 i2, .int .i64 c2, .int .i64 n2] 27)
    have K2 := blk_alloc K2b.out (.cells #[.int .i64 o2, .bool d2, .int .i64 r2, .int .i64 b2, .int .i64 i2, .int .i64 c2, .int .i64 n2] 27)
    have K3' := blk_alloc K3.out (.cells #[.int .i64 o2, .bool d2, .int .i64 r2, .int .i64 b2, .int .i64 i2, .int .i64 c2, .int .i64 n2] 27)
    have K4 := blk_new w6 (.cells #[.int .i64 o2, .bool d2, .int .i64 r2, .int .i64 b2, .int .i64 i2, .int .i64 c2, .int .i64 n2] 27)
    have H7 := below_alloc H6.out (.cells #[.int .i64 o2, .bool d2, .int .i64 r2, .int .i64 b2, .int .i64 i2, .int .i64 c2, .int .i64 n2] 27)
    generalize w6.alloc _ = W at K1 K2 K3' K4 H7 ⊢
    have L1 := Aside0.mk (blk_cell K1)
    have L2 := Aside0.mk (blk_cell K2)
    have L3 := Aside0.mk (blk_cell K3')
    have L4 := Aside0.mk (blk_cell K4)
    have H8 := Aside0.mk H7
    have HR := Aside0.mk (G.out _ H7).2
    clear K1 K2 K3' K4 H7
    clear K1c K2b K3
    go_loop [22] (fun q => ∃ k : Nat, k ≤ n ∧ q = .int .i64 k ∧ near (L.take k)) (fun q => n - (intOf q).toNat)
    case atStart => exact ⟨0, Nat.zero_le _, rfl, fun x hx => by simp at hx⟩
    case round =>
      obtain ⟨k, hk, rfl, hnear⟩ := hrel
      have HN := Aside0.mk hnear
      clear hnear
      by_cases hlt : k < n
      · obtain ⟨hl', hm', hc'⟩ := HR.out
        obtain ⟨ad, hA, hcell⟩ := hc' (by omega)
        subst hA
        have hck := hcell k hlt
        have hts := take_step L k (by rw [HL.out]; exact hlt)
        have HT := Aside0.mk hts
        clear hcell hts hl' hc'
        generalize L.getD k 0 = x at *
        go_wp2
        all_goals first
          | (go_ret; exact ⟨rfl, H8.out⟩)
          | (refine ⟨⟨k + 1, hlt, by first | rfl | simp, ?_⟩, by simp [intOf]; omega⟩
             intro y hy
             rw [HT.out, List.mem_append] at hy
             rcases hy with hy | hy
             · exact HN.out y hy
             · have hyx : y = x := by simpa using hy
               have hx : -1000000 ≤ x ∧ x ≤ 1000000 := by assumption
               rw [hyx]
               exact hx)
      · obtain rfl : k = n := by omega
        have hall : near L := by
          have := HN.out
          rw [List.take_of_length_le (by rw [HL.out]; exact Nat.le_refl _)] at this
          exact this
        have HA := Aside0.mk hall
        clear hall
        have l1 := L1.out
        have l2 := L2.out
        have l3 := L3.out
        have l4 := L4.out
        go_wp2_with (first
          | (go_at_call 15; (with_reducible refine (Bytes L A k cap _ HR.out HA.out).mono ?_); rintro e w7 ⟨rfl, rfl⟩)
          | (go_at_call 16; (with_reducible refine (rBytes L A k cap _ HR.out HA.out).mono ?_); rintro e w7 ⟨rfl, rfl⟩)
          | (go_at_call 17; (with_reducible refine (Args m _).mono ?_); rintro e w7 ⟨rfl, rfl⟩)
          | (go_at_call 18; (with_reducible refine (rArgs m _).mono ?_); rintro e w7 ⟨rfl, rfl⟩)
          | (go_at_call 19; (with_reducible refine (Global m _).mono ?_); rintro e w7 ⟨rfl, rfl⟩)
          | (go_at_call 20; (with_reducible refine (rGlobal m _).mono ?_); rintro e w7 ⟨rfl, rfl⟩)
          | (go_at_call 21; (with_reducible refine (Memory (m % 2) _).mono ?_); rintro e w7 ⟨rfl, rfl⟩)
          | (go_at_call 22; (with_reducible refine (rMemory (m % 2) _).mono ?_); rintro e w7 ⟨rfl, rfl⟩))
        all_goals
          go_ret
          exact ⟨rfl, H8.out⟩
theorem Tells2 (place reg : Int) (L : List Int) (A : Option Addr) (n cap : Nat) (i : Int) (w : World) (hg : Glb w) (_h0 : -9223372036854775808 ≤ place ∧ place ≤ 9223372036854775807) (_h1 : -9223372036854775808 ≤ reg ∧ reg ≤ 9223372036854775807) (hr : ReadsInt w .i64 A n L) (hi : -9223372036854775808 ≤ i ∧ i ≤ 9223372036854775807) :
    Calls Tryd.prog 3 #[.int .i64 place, .int .i64 reg, .slice A n cap, .int .i64 i] w fun e w' => e = .returned (.bool true) ∧ Below w.heap.size w w' := Tells place reg L A n cap i w hg hr hi
end Go.Proofs.YtlhhhkhbfnjkiaaDoor.Tells

/- What bytes are: the program's Decode. No condition but lengths and the table that Encode reads. -/
import Derived.Test.YtkfinaongajhmaaDoorXOne
import Derived.Test.YtkfinaongajhmaaDoorXEncode
import Derived.Test.YtkfinaongajhmaaDoorXBack
import Derived.Test.YtkfinaongajhmaaDoorXBytes
namespace Go.Proofs.YtkfinaongajhmaaDoor.X
open Go.Ob Go.Ob.Xc Go.RowKit Go.Proofs.YtkfinaongajhmaaDoorW.PrintWords Go.Proofs.YtkfinaongajhmaaDoorW.PrintMore
attribute [local go_sem] max2_int min2_int max_two min_two
set_option linter.unusedVariables false
set_option linter.unusedSimpArgs false
theorem sg4_bd (s : ByteArray) (k : Nat) : -9223372036854775808 ≤ sg4 (bl s) k ∧ sg4 (bl s) k ≤ 9223372036854775807 := by
  rw [← sg4_le]
  unfold wrap64
  omega
theorem sg8_bd (s : ByteArray) (k : Nat) : -9223372036854775808 ≤ sg8 (bl s) k ∧ sg8 (bl s) k ≤ 9223372036854775807 := by
  rw [← sg8_le]
  unfold wrap64
  omega
/-- the number of an instruction is a machine's -/
def NB (x : XI) : Prop := -9223372036854775808 ≤ x.n ∧ x.n ≤ 9223372036854775807
theorem nb_ite {c : Prop} [Decidable c] {x y : XI} (hx : NB x) (hy : NB y) : NB (if c then x else y) := by split <;> assumption
theorem body_n (s : ByteArray) (wd : Bool) (r i m : Int) : NB (body (bl s) wd r i m) := by
  have h41 := sg4_bd s 1
  have h42 := sg4_bd s 2
  have h43 := sg4_bd s 3
  have h81 := sg8_bd s 1
  unfold body two one xz
  repeat' refine nb_ite ?_ ?_
  all_goals first | exact h41 | exact h42 | exact h43 | exact h81 | (unfold NB; dsimp only; decide)
theorem bl_tail (s : ByteArray) (h : 0 < s.size) : bl (s.extract 1 s.size) = (bl s).tail := by
  rw [bl_extract]
  rw [List.drop_one]
  exact List.take_of_length_le (by rw [List.length_tail, bl_length]; exact Nat.le_refl _)
theorem size_pos {s : ByteArray} (h : at0 (bl s) 0 ≠ 0) : 0 < s.size := by
  rcases Nat.eq_zero_or_pos s.size with h2 | h2
  · exfalso
    apply h
    unfold at0
    rw [List.getD_eq_getElem?_getD, List.getElem?_eq_none (by rw [bl_length]; omega)]
    rfl
  · exact h2
theorem krex_bits (a : Int) (h : a / 16 = 4) : Go.bits .and .i64 a 8 = a / 8 % 2 * 8 ∧ Go.bits .and .i64 a 4 = a / 4 % 2 * 4 ∧ Go.bits .and .i64 a 2 = a / 2 % 2 * 2 ∧ Go.bits .and .i64 a 1 = a % 2 := by
  have H : ∀ c : Fin 16, Go.bits .and .i64 (64 + (c.val : Int)) 8 = (64 + (c.val : Int)) / 8 % 2 * 8 ∧ Go.bits .and .i64 (64 + (c.val : Int)) 4 = (64 + (c.val : Int)) / 4 % 2 * 4 ∧ Go.bits .and .i64 (64 + (c.val : Int)) 2 = (64 + (c.val : Int)) / 2 % 2 * 2 ∧ Go.bits .and .i64 (64 + (c.val : Int)) 1 = (64 + (c.val : Int)) % 2 := by decide +kernel
  have h2 := H ⟨(a - 64).toNat, by omega⟩
  simp only [Int.toNat_of_nonneg (show 0 ≤ a - 64 by omega)] at h2
  rwa [show 64 + (a - 64) = a by omega] at h2
theorem cells7 {W : World} {g : Nat} {v0 v1 v2 v3 v4 v5 v6 : Value} {t : TypeId} (h : W.heap[g]? = some (.cells #[v0, v1, v2, v3, v4, v5, v6] t (0, 0))) :
    W.cell? ⟨g, 0, none⟩ = some v0 ∧ W.cell? ⟨g, 1, none⟩ = some v1 ∧ W.cell? ⟨g, 2, none⟩ = some v2 ∧ W.cell? ⟨g, 3, none⟩ = some v3 ∧ W.cell? ⟨g, 4, none⟩ = some v4 ∧ W.cell? ⟨g, 5, none⟩ = some v5 ∧ W.cell? ⟨g, 6, none⟩ = some v6 ∧ ∀ j, W.frozen? ⟨g, j, none⟩ = false :=
  ⟨blk_cell h 0, blk_cell h 1, blk_cell h 2, blk_cell h 3, blk_cell h 4, blk_cell h 5, blk_cell h 6, fun j => blk_frozen h j⟩
/-- the answer for bytes -/
def decA (l : List Int) : Value := match dec l with
  | some (x, k) => .tuple #[xv x, .int .i64 k, .int .i64 0]
  | none => .tuple #[xv ⟨0, false, 0, 0, 0, 0, 0⟩, .int .i64 0, .int .i64 6]
theorem decA_cases (l : List Int) (x : XI) (hx : cand l = x) :
    (right x = false ∧ decA l = .tuple #[xv ⟨0, false, 0, 0, 0, 0, 0⟩, .int .i64 0, .int .i64 6]) ∨
    (right x = true ∧ decide (enc x <+: l) = false ∧ decA l = .tuple #[xv ⟨0, false, 0, 0, 0, 0, 0⟩, .int .i64 0, .int .i64 6]) ∨
    (right x = true ∧ decide (enc x <+: l) = true ∧ decA l = .tuple #[xv x, .int .i64 (enc x).length, .int .i64 0]) := by
  unfold decA dec
  rw [hx]
  by_cases h : right x = true
  · by_cases h2 : enc x <+: l
    · rw [if_pos ⟨h, h2⟩]
      exact .inr (.inr ⟨h, decide_eq_true h2, rfl⟩)
    · rw [if_neg (fun c => h2 c.2)]
      exact .inr (.inl ⟨h, decide_eq_false h2, rfl⟩)
  · rw [if_neg (fun c => h c.1)]
    exact .inl ⟨Bool.eq_false_iff.mpr h, rfl⟩
/-- what Encode and HasPrefix answer for what bytes would be -/
theorem ends (s : ByteArray) (x : XI) (hs : s.size ≤ 281474976710656) (hx : cand (bl s) = x) (hn : -9223372036854775808 ≤ x.n ∧ x.n ≤ 9223372036854775807) :
    (decA (bl s) = .tuple #[xv ⟨0, false, 0, 0, 0, 0, 0⟩, .int .i64 0, .int .i64 6] ∧ ∀ W, Tab W → Calls Tryd.prog 16 #[xv x] W fun e w' => e = .returned (.tuple #[.string ⟨#[]⟩, .int .i64 4]) ∧ Below W.heap.size W w') ∨
    ∃ t : ByteArray, t.size ≤ 15 ∧ (∀ W, Tab W → Calls Tryd.prog 16 #[xv x] W fun e w' => e = .returned (.tuple #[.string t, .int .i64 0]) ∧ Below W.heap.size W w') ∧
      ((decA (bl s) = .tuple #[xv ⟨0, false, 0, 0, 0, 0, 0⟩, .int .i64 0, .int .i64 6] ∧ ∀ W, Calls Tryd.prog 49 #[.string s, .string t] W fun e w' => e = .returned (.bool false) ∧ W = w') ∨
       (decA (bl s) = .tuple #[xv x, .int .i64 t.size, .int .i64 0] ∧ ∀ W, Calls Tryd.prog 49 #[.string s, .string t] W fun e w' => e = .returned (.bool true) ∧ W = w')) := by
  rcases decA_cases (bl s) x hx with ⟨h, hA⟩ | ⟨h, h2, hA⟩ | ⟨h, h2, hA⟩
  · exact .inl ⟨hA, fun W ht => Encode_no x W h ht hn⟩
  all_goals
    have hb := bl_num (enc x) (enc_okl h)
    have hz : (strOfNums (enc x)).size = (enc x).length := by rw [← bl_length, hb]
    have hl := enc_len x
    refine .inr ⟨strOfNums (enc x), by omega, fun W ht => Encode_ok x W h ht hn, ?_⟩
    have hp := fun W => Prefix s (strOfNums (enc x)) W (by omega) (by omega)
    rw [hb, h2] at hp
    rw [hz]
  · exact .inl ⟨hA, hp⟩
  · exact .inr ⟨hA, hp⟩
set_option maxHeartbeats 16000000 in
set_option maxRecDepth 100000 in
theorem Dec1 (s : ByteArray) (w : World) (ht : Tab w) (hs : s.size ≤ 281474976710656) (h4 : ¬ at0 (bl s) 0 / 16 = 4) (h15 : at0 (bl s) 0 = 15) :
    Calls Tryd.prog 20 #[.string s] w fun e w' => e = .returned (decA (bl s)) ∧ Below w.heap.size w w' := by
  obtain ⟨X, hX⟩ : ∃ X, two (bl s) false 0 0 = X := ⟨_, rfl⟩
  have hc : cand (bl s) = X := by
    rw [← hX]
    unfold cand body
    rw [if_neg h4, if_pos h15]
  have hn : NB X := by
    have hq := body_n s false 0 0 0
    unfold body at hq
    rw [if_pos h15] at hq
    rw [← hX]
    exact hq
  have hE := ends s X hs hc hn
  have A0 : ∀ W, W.heap[w.heap.size + 1]? = some (co s 0 0 0) → Calls Tryd.prog 46 #[.pointer (some ⟨w.heap.size + 1, 0, none⟩), .int .i64 0] W fun e w' => e = .returned (.int .i64 (at0 (bl s) 0)) ∧ W = w' := fun W h => At s 0 0 0 (w.heap.size + 1) 0 W (by decide) hs h
  have B0 : ∀ W, W.heap[w.heap.size + 1]? = some (co s 0 0 0) → Calls Tryd.prog 47 #[.pointer (some ⟨w.heap.size + 1, 0, none⟩), .bool false] W fun e w' => e = .returned (xv X) ∧ Below W.heap.size W w' := fun W h => by
    rw [← hX]
    exact Two s 0 0 0 (w.heap.size + 1) false W hs (.inl rfl) (.inl rfl) h
  have hb0 := at0_bd s 0
  have e4 : (at0 (bl s) 0 / 16 == 4) = false := beq_eq_false_iff_ne.mpr h4
  have e15 : (at0 (bl s) 0 == 15) = true := beq_iff_eq.mpr h15
  have hg : ((w.alloc (.cells #[.int .i64 0, .bool false, .int .i64 0, .int .i64 0, .int .i64 0, .int .i64 0, .int .i64 0] 23 (0, 0))).alloc (co s 0 0 0)).heap[w.heap.size + 1]? = some (co s 0 0 0) := by
    have h := blk_new (w.alloc (.cells #[.int .i64 0, .bool false, .int .i64 0, .int .i64 0, .int .i64 0, .int .i64 0, .int .i64 0] 23 (0, 0))) (co s 0 0 0)
    rwa [World.size_alloc] at h
  have hB1 : Below w.heap.size w ((w.alloc (.cells #[.int .i64 0, .bool false, .int .i64 0, .int .i64 0, .int .i64 0, .int .i64 0, .int .i64 0] 23 (0, 0))).alloc (co s 0 0 0)) := below_alloc (below_alloc (Below.refl _ _) _) _
  have hz1 : ((w.alloc (.cells #[.int .i64 0, .bool false, .int .i64 0, .int .i64 0, .int .i64 0, .int .i64 0, .int .i64 0] 23 (0, 0))).alloc (co s 0 0 0)).heap.size = w.heap.size + 1 + 1 := by simp only [World.size_alloc]
  have HC := Aside0.mk (And.intro A0 (And.intro B0 (And.intro hg (And.intro hB1 (And.intro hz1 ht)))))
  clear hc hn hX A0 B0 ht hg hB1 hz1
  obtain ⟨op, wid, r, b, i, c, n⟩ := X
  generalize at0 (bl s) 0 = a at *
  obtain ⟨hb00, hb01⟩ := hb0
  rcases hE with ⟨hA, hE⟩ | ⟨t, ht15, hE, ⟨hA, hP⟩ | ⟨hA, hP⟩⟩
  · rw [hA]
    have HE := Aside0.mk hE
    clear hE hA
    go_enter Tryd.func20, Tryd.ntmps20
    go_upto_region 10 with (first
      | (go_at_call 46; (with_reducible refine (HC.out.1 _ HC.out.2.2.1).mono ?_); rintro e w1 ⟨rfl, rfl⟩)
      | (go_at_call 47; (with_reducible refine (HC.out.2.1 _ HC.out.2.2.1).mono ?_); rintro e w2 ⟨rfl, hb2⟩; have hc2 := bcell hb2; rw [HC.out.2.2.2.2.1] at hc2; have H2 := Aside0.mk hb2; clear hb2; obtain ⟨hc2, hc3⟩ := hc2))
    have hx2 := blk_below (blk_alloc (blk_new w (.cells #[.int .i64 0, .bool false, .int .i64 0, .int .i64 0, .int .i64 0, .int .i64 0, .int .i64 0] 23 (0, 0))) (co s 0 0 0)) H2.out
    have hr := row7 hx2 (.int .i64 op) (.bool wid) (.int .i64 r) (.int .i64 b) (.int .i64 i) (.int .i64 c) (.int .i64 n)
    have hbw := below7 (Nat.le_refl w.heap.size) (HC.out.2.2.2.1.trans (H2.out.mono (by simp; omega))) (.int .i64 op) (.bool wid) (.int .i64 r) (.int .i64 b) (.int .i64 i) (.int .i64 c) (.int .i64 n)
    generalize (((((((w2.setCell ⟨w.heap.size, 0, none⟩ (.int .i64 op)).setCell ⟨w.heap.size, 1, none⟩ (.bool wid)).setCell ⟨w.heap.size, 2, none⟩ (.int .i64 r)).setCell ⟨w.heap.size, 3, none⟩ (.int .i64 b)).setCell ⟨w.heap.size, 4, none⟩ (.int .i64 i)).setCell ⟨w.heap.size, 5, none⟩ (.int .i64 c)).setCell ⟨w.heap.size, 6, none⟩ (.int .i64 n)) = W9 at hr hbw ⊢
    have HT := Aside0.mk (HC.out.2.2.2.2.2.below hbw)
    have HB := Aside0.mk hbw
    have hlt := blk_lt hr
    obtain ⟨k0, k1, k2, k3, k4, k5, k6, f0⟩ := cells7 hr
    clear hr hbw hx2 hc2 hc3
    go_wp2_with (first
      | (go_at_call 16; refine (HE.out _ HT.out).mono ?_; rintro e w5 ⟨rfl, hb5⟩; have q5 := bcell hb5; obtain ⟨q5, q6⟩ := q5; have H5 := Aside0.mk hb5; clear hb5))
    have hb6 := HB.out.trans (H5.out.mono (Nat.le_of_lt hlt))
    exact bodyPost_ret (v := .tuple #[xv ⟨0, false, 0, 0, 0, 0, 0⟩, .int .i64 0, .int .i64 6]) (by simp [results, Tryd.results20, go_sem, *]) rfl ⟨rfl, by repeat (first | with_reducible exact hb6 | with_reducible refine below_own ?_ _ _ | with_reducible refine below_drew ?_)⟩
  · rw [hA]
    have HE := Aside0.mk hE
    have HP := Aside0.mk hP
    clear hE hA hP
    go_enter Tryd.func20, Tryd.ntmps20
    go_upto_region 10 with (first
      | (go_at_call 46; (with_reducible refine (HC.out.1 _ HC.out.2.2.1).mono ?_); rintro e w1 ⟨rfl, rfl⟩)
      | (go_at_call 47; (with_reducible refine (HC.out.2.1 _ HC.out.2.2.1).mono ?_); rintro e w2 ⟨rfl, hb2⟩; have hc2 := bcell hb2; rw [HC.out.2.2.2.2.1] at hc2; have H2 := Aside0.mk hb2; clear hb2; obtain ⟨hc2, hc3⟩ := hc2))
    have hx2 := blk_below (blk_alloc (blk_new w (.cells #[.int .i64 0, .bool false, .int .i64 0, .int .i64 0, .int .i64 0, .int .i64 0, .int .i64 0] 23 (0, 0))) (co s 0 0 0)) H2.out
    have hr := row7 hx2 (.int .i64 op) (.bool wid) (.int .i64 r) (.int .i64 b) (.int .i64 i) (.int .i64 c) (.int .i64 n)
    have hbw := below7 (Nat.le_refl w.heap.size) (HC.out.2.2.2.1.trans (H2.out.mono (by simp; omega))) (.int .i64 op) (.bool wid) (.int .i64 r) (.int .i64 b) (.int .i64 i) (.int .i64 c) (.int .i64 n)
    generalize (((((((w2.setCell ⟨w.heap.size, 0, none⟩ (.int .i64 op)).setCell ⟨w.heap.size, 1, none⟩ (.bool wid)).setCell ⟨w.heap.size, 2, none⟩ (.int .i64 r)).setCell ⟨w.heap.size, 3, none⟩ (.int .i64 b)).setCell ⟨w.heap.size, 4, none⟩ (.int .i64 i)).setCell ⟨w.heap.size, 5, none⟩ (.int .i64 c)).setCell ⟨w.heap.size, 6, none⟩ (.int .i64 n)) = W9 at hr hbw ⊢
    have HT := Aside0.mk (HC.out.2.2.2.2.2.below hbw)
    have HB := Aside0.mk hbw
    have hlt := blk_lt hr
    obtain ⟨k0, k1, k2, k3, k4, k5, k6, f0⟩ := cells7 hr
    clear hr hbw hx2 hc2 hc3
    go_wp2_with (first
      | (go_at_call 16; refine (HE.out _ HT.out).mono ?_; rintro e w5 ⟨rfl, hb5⟩; have q5 := bcell hb5; obtain ⟨q5, q6⟩ := q5; have H5 := Aside0.mk hb5; clear hb5)
      | (go_at_call 49; (with_reducible refine (HP.out _).mono ?_); rintro e w6 ⟨rfl, rfl⟩))
    have hb6 := HB.out.trans (H5.out.mono (Nat.le_of_lt hlt))
    exact bodyPost_ret (v := .tuple #[xv ⟨0, false, 0, 0, 0, 0, 0⟩, .int .i64 0, .int .i64 6]) (by simp [results, Tryd.results20, go_sem, *]) rfl ⟨rfl, by repeat (first | with_reducible exact hb6 | with_reducible refine below_own ?_ _ _ | with_reducible refine below_drew ?_)⟩
  · rw [hA]
    have HE := Aside0.mk hE
    have HP := Aside0.mk hP
    clear hE hA hP
    go_enter Tryd.func20, Tryd.ntmps20
    go_upto_region 10 with (first
      | (go_at_call 46; (with_reducible refine (HC.out.1 _ HC.out.2.2.1).mono ?_); rintro e w1 ⟨rfl, rfl⟩)
      | (go_at_call 47; (with_reducible refine (HC.out.2.1 _ HC.out.2.2.1).mono ?_); rintro e w2 ⟨rfl, hb2⟩; have hc2 := bcell hb2; rw [HC.out.2.2.2.2.1] at hc2; have H2 := Aside0.mk hb2; clear hb2; obtain ⟨hc2, hc3⟩ := hc2))
    have hx2 := blk_below (blk_alloc (blk_new w (.cells #[.int .i64 0, .bool false, .int .i64 0, .int .i64 0, .int .i64 0, .int .i64 0, .int .i64 0] 23 (0, 0))) (co s 0 0 0)) H2.out
    have hr := row7 hx2 (.int .i64 op) (.bool wid) (.int .i64 r) (.int .i64 b) (.int .i64 i) (.int .i64 c) (.int .i64 n)
    have hbw := below7 (Nat.le_refl w.heap.size) (HC.out.2.2.2.1.trans (H2.out.mono (by simp; omega))) (.int .i64 op) (.bool wid) (.int .i64 r) (.int .i64 b) (.int .i64 i) (.int .i64 c) (.int .i64 n)
    generalize (((((((w2.setCell ⟨w.heap.size, 0, none⟩ (.int .i64 op)).setCell ⟨w.heap.size, 1, none⟩ (.bool wid)).setCell ⟨w.heap.size, 2, none⟩ (.int .i64 r)).setCell ⟨w.heap.size, 3, none⟩ (.int .i64 b)).setCell ⟨w.heap.size, 4, none⟩ (.int .i64 i)).setCell ⟨w.heap.size, 5, none⟩ (.int .i64 c)).setCell ⟨w.heap.size, 6, none⟩ (.int .i64 n)) = W9 at hr hbw ⊢
    have HT := Aside0.mk (HC.out.2.2.2.2.2.below hbw)
    have HB := Aside0.mk hbw
    have hlt := blk_lt hr
    obtain ⟨k0, k1, k2, k3, k4, k5, k6, f0⟩ := cells7 hr
    clear hr hbw hx2 hc2 hc3
    go_wp2_with (first
      | (go_at_call 16; refine (HE.out _ HT.out).mono ?_; rintro e w5 ⟨rfl, hb5⟩; have q5 := bcell hb5; obtain ⟨q5, q6⟩ := q5; have H5 := Aside0.mk hb5; clear hb5)
      | (go_at_call 49; (with_reducible refine (HP.out _).mono ?_); rintro e w6 ⟨rfl, rfl⟩))
    have hb6 := HB.out.trans (H5.out.mono (Nat.le_of_lt hlt))
    exact bodyPost_ret (v := .tuple #[xv ⟨op, wid, r, b, i, c, n⟩, .int .i64 t.size, .int .i64 0]) (by simp [results, Tryd.results20, go_sem, *]) rfl ⟨rfl, by repeat (first | with_reducible exact hb6 | with_reducible refine below_own ?_ _ _ | with_reducible refine below_drew ?_)⟩
set_option maxHeartbeats 16000000 in
set_option maxRecDepth 100000 in
theorem Dec2 (s : ByteArray) (w : World) (ht : Tab w) (hs : s.size ≤ 281474976710656) (h4 : ¬ at0 (bl s) 0 / 16 = 4) (h15 : ¬ at0 (bl s) 0 = 15) :
    Calls Tryd.prog 20 #[.string s] w fun e w' => e = .returned (decA (bl s)) ∧ Below w.heap.size w w' := by
  obtain ⟨X, hX⟩ : ∃ X, one (bl s) false 0 0 0 = X := ⟨_, rfl⟩
  have hc : cand (bl s) = X := by
    rw [← hX]
    unfold cand body
    rw [if_neg h4, if_neg h15]
  have hn : NB X := by
    have hq := body_n s false 0 0 0
    unfold body at hq
    rw [if_neg h15] at hq
    rw [← hX]
    exact hq
  have hE := ends s X hs hc hn
  have A0 : ∀ W, W.heap[w.heap.size + 1]? = some (co s 0 0 0) → Calls Tryd.prog 46 #[.pointer (some ⟨w.heap.size + 1, 0, none⟩), .int .i64 0] W fun e w' => e = .returned (.int .i64 (at0 (bl s) 0)) ∧ W = w' := fun W h => At s 0 0 0 (w.heap.size + 1) 0 W (by decide) hs h
  have B0 : ∀ W, W.heap[w.heap.size + 1]? = some (co s 0 0 0) → Calls Tryd.prog 48 #[.pointer (some ⟨w.heap.size + 1, 0, none⟩), .bool false] W fun e w' => e = .returned (xv X) ∧ Below W.heap.size W w' := fun W h => by
    rw [← hX]
    exact One s 0 0 0 (w.heap.size + 1) false W hs (.inl rfl) (.inl rfl) (.inl rfl) h
  have hb0 := at0_bd s 0
  have e4 : (at0 (bl s) 0 / 16 == 4) = false := beq_eq_false_iff_ne.mpr h4
  have e15 : (at0 (bl s) 0 == 15) = false := beq_eq_false_iff_ne.mpr h15
  have hg : ((w.alloc (.cells #[.int .i64 0, .bool false, .int .i64 0, .int .i64 0, .int .i64 0, .int .i64 0, .int .i64 0] 23 (0, 0))).alloc (co s 0 0 0)).heap[w.heap.size + 1]? = some (co s 0 0 0) := by
    have h := blk_new (w.alloc (.cells #[.int .i64 0, .bool false, .int .i64 0, .int .i64 0, .int .i64 0, .int .i64 0, .int .i64 0] 23 (0, 0))) (co s 0 0 0)
    rwa [World.size_alloc] at h
  have hB1 : Below w.heap.size w ((w.alloc (.cells #[.int .i64 0, .bool false, .int .i64 0, .int .i64 0, .int .i64 0, .int .i64 0, .int .i64 0] 23 (0, 0))).alloc (co s 0 0 0)) := below_alloc (below_alloc (Below.refl _ _) _) _
  have hz1 : ((w.alloc (.cells #[.int .i64 0, .bool false, .int .i64 0, .int .i64 0, .int .i64 0, .int .i64 0, .int .i64 0] 23 (0, 0))).alloc (co s 0 0 0)).heap.size = w.heap.size + 1 + 1 := by simp only [World.size_alloc]
  have HC := Aside0.mk (And.intro A0 (And.intro B0 (And.intro hg (And.intro hB1 (And.intro hz1 ht)))))
  clear hc hn hX A0 B0 ht hg hB1 hz1
  obtain ⟨op, wid, r, b, i, c, n⟩ := X
  generalize at0 (bl s) 0 = a at *
  obtain ⟨hb00, hb01⟩ := hb0
  rcases hE with ⟨hA, hE⟩ | ⟨t, ht15, hE, ⟨hA, hP⟩ | ⟨hA, hP⟩⟩
  · rw [hA]
    have HE := Aside0.mk hE
    clear hE hA
    go_enter Tryd.func20, Tryd.ntmps20
    go_upto_region 10 with (first
      | (go_at_call 46; (with_reducible refine (HC.out.1 _ HC.out.2.2.1).mono ?_); rintro e w1 ⟨rfl, rfl⟩)
      | (go_at_call 48; (with_reducible refine (HC.out.2.1 _ HC.out.2.2.1).mono ?_); rintro e w2 ⟨rfl, hb2⟩; have hc2 := bcell hb2; rw [HC.out.2.2.2.2.1] at hc2; have H2 := Aside0.mk hb2; clear hb2; obtain ⟨hc2, hc3⟩ := hc2))
    have hx2 := blk_below (blk_alloc (blk_new w (.cells #[.int .i64 0, .bool false, .int .i64 0, .int .i64 0, .int .i64 0, .int .i64 0, .int .i64 0] 23 (0, 0))) (co s 0 0 0)) H2.out
    have hr := row7 hx2 (.int .i64 op) (.bool wid) (.int .i64 r) (.int .i64 b) (.int .i64 i) (.int .i64 c) (.int .i64 n)
    have hbw := below7 (Nat.le_refl w.heap.size) (HC.out.2.2.2.1.trans (H2.out.mono (by simp; omega))) (.int .i64 op) (.bool wid) (.int .i64 r) (.int .i64 b) (.int .i64 i) (.int .i64 c) (.int .i64 n)
    generalize (((((((w2.setCell ⟨w.heap.size, 0, none⟩ (.int .i64 op)).setCell ⟨w.heap.size, 1, none⟩ (.bool wid)).setCell ⟨w.heap.size, 2, none⟩ (.int .i64 r)).setCell ⟨w.heap.size, 3, none⟩ (.int .i64 b)).setCell ⟨w.heap.size, 4, none⟩ (.int .i64 i)).setCell ⟨w.heap.size, 5, none⟩ (.int .i64 c)).setCell ⟨w.heap.size, 6, none⟩ (.int .i64 n)) = W9 at hr hbw ⊢
    have HT := Aside0.mk (HC.out.2.2.2.2.2.below hbw)
    have HB := Aside0.mk hbw
    have hlt := blk_lt hr
    obtain ⟨k0, k1, k2, k3, k4, k5, k6, f0⟩ := cells7 hr
    clear hr hbw hx2 hc2 hc3
    go_wp2_with (first
      | (go_at_call 16; refine (HE.out _ HT.out).mono ?_; rintro e w5 ⟨rfl, hb5⟩; have q5 := bcell hb5; obtain ⟨q5, q6⟩ := q5; have H5 := Aside0.mk hb5; clear hb5))
    have hb6 := HB.out.trans (H5.out.mono (Nat.le_of_lt hlt))
    exact bodyPost_ret (v := .tuple #[xv ⟨0, false, 0, 0, 0, 0, 0⟩, .int .i64 0, .int .i64 6]) (by simp [results, Tryd.results20, go_sem, *]) rfl ⟨rfl, by repeat (first | with_reducible exact hb6 | with_reducible refine below_own ?_ _ _ | with_reducible refine below_drew ?_)⟩
  · rw [hA]
    have HE := Aside0.mk hE
    have HP := Aside0.mk hP
    clear hE hA hP
    go_enter Tryd.func20, Tryd.ntmps20
    go_upto_region 10 with (first
      | (go_at_call 46; (with_reducible refine (HC.out.1 _ HC.out.2.2.1).mono ?_); rintro e w1 ⟨rfl, rfl⟩)
      | (go_at_call 48; (with_reducible refine (HC.out.2.1 _ HC.out.2.2.1).mono ?_); rintro e w2 ⟨rfl, hb2⟩; have hc2 := bcell hb2; rw [HC.out.2.2.2.2.1] at hc2; have H2 := Aside0.mk hb2; clear hb2; obtain ⟨hc2, hc3⟩ := hc2))
    have hx2 := blk_below (blk_alloc (blk_new w (.cells #[.int .i64 0, .bool false, .int .i64 0, .int .i64 0, .int .i64 0, .int .i64 0, .int .i64 0] 23 (0, 0))) (co s 0 0 0)) H2.out
    have hr := row7 hx2 (.int .i64 op) (.bool wid) (.int .i64 r) (.int .i64 b) (.int .i64 i) (.int .i64 c) (.int .i64 n)
    have hbw := below7 (Nat.le_refl w.heap.size) (HC.out.2.2.2.1.trans (H2.out.mono (by simp; omega))) (.int .i64 op) (.bool wid) (.int .i64 r) (.int .i64 b) (.int .i64 i) (.int .i64 c) (.int .i64 n)
    generalize (((((((w2.setCell ⟨w.heap.size, 0, none⟩ (.int .i64 op)).setCell ⟨w.heap.size, 1, none⟩ (.bool wid)).setCell ⟨w.heap.size, 2, none⟩ (.int .i64 r)).setCell ⟨w.heap.size, 3, none⟩ (.int .i64 b)).setCell ⟨w.heap.size, 4, none⟩ (.int .i64 i)).setCell ⟨w.heap.size, 5, none⟩ (.int .i64 c)).setCell ⟨w.heap.size, 6, none⟩ (.int .i64 n)) = W9 at hr hbw ⊢
    have HT := Aside0.mk (HC.out.2.2.2.2.2.below hbw)
    have HB := Aside0.mk hbw
    have hlt := blk_lt hr
    obtain ⟨k0, k1, k2, k3, k4, k5, k6, f0⟩ := cells7 hr
    clear hr hbw hx2 hc2 hc3
    go_wp2_with (first
      | (go_at_call 16; refine (HE.out _ HT.out).mono ?_; rintro e w5 ⟨rfl, hb5⟩; have q5 := bcell hb5; obtain ⟨q5, q6⟩ := q5; have H5 := Aside0.mk hb5; clear hb5)
      | (go_at_call 49; (with_reducible refine (HP.out _).mono ?_); rintro e w6 ⟨rfl, rfl⟩))
    have hb6 := HB.out.trans (H5.out.mono (Nat.le_of_lt hlt))
    exact bodyPost_ret (v := .tuple #[xv ⟨0, false, 0, 0, 0, 0, 0⟩, .int .i64 0, .int .i64 6]) (by simp [results, Tryd.results20, go_sem, *]) rfl ⟨rfl, by repeat (first | with_reducible exact hb6 | with_reducible refine below_own ?_ _ _ | with_reducible refine below_drew ?_)⟩
  · rw [hA]
    have HE := Aside0.mk hE
    have HP := Aside0.mk hP
    clear hE hA hP
    go_enter Tryd.func20, Tryd.ntmps20
    go_upto_region 10 with (first
      | (go_at_call 46; (with_reducible refine (HC.out.1 _ HC.out.2.2.1).mono ?_); rintro e w1 ⟨rfl, rfl⟩)
      | (go_at_call 48; (with_reducible refine (HC.out.2.1 _ HC.out.2.2.1).mono ?_); rintro e w2 ⟨rfl, hb2⟩; have hc2 := bcell hb2; rw [HC.out.2.2.2.2.1] at hc2; have H2 := Aside0.mk hb2; clear hb2; obtain ⟨hc2, hc3⟩ := hc2))
    have hx2 := blk_below (blk_alloc (blk_new w (.cells #[.int .i64 0, .bool false, .int .i64 0, .int .i64 0, .int .i64 0, .int .i64 0, .int .i64 0] 23 (0, 0))) (co s 0 0 0)) H2.out
    have hr := row7 hx2 (.int .i64 op) (.bool wid) (.int .i64 r) (.int .i64 b) (.int .i64 i) (.int .i64 c) (.int .i64 n)
    have hbw := below7 (Nat.le_refl w.heap.size) (HC.out.2.2.2.1.trans (H2.out.mono (by simp; omega))) (.int .i64 op) (.bool wid) (.int .i64 r) (.int .i64 b) (.int .i64 i) (.int .i64 c) (.int .i64 n)
    generalize (((((((w2.setCell ⟨w.heap.size, 0, none⟩ (.int .i64 op)).setCell ⟨w.heap.size, 1, none⟩ (.bool wid)).setCell ⟨w.heap.size, 2, none⟩ (.int .i64 r)).setCell ⟨w.heap.size, 3, none⟩ (.int .i64 b)).setCell ⟨w.heap.size, 4, none⟩ (.int .i64 i)).setCell ⟨w.heap.size, 5, none⟩ (.int .i64 c)).setCell ⟨w.heap.size, 6, none⟩ (.int .i64 n)) = W9 at hr hbw ⊢
    have HT := Aside0.mk (HC.out.2.2.2.2.2.below hbw)
    have HB := Aside0.mk hbw
    have hlt := blk_lt hr
    obtain ⟨k0, k1, k2, k3, k4, k5, k6, f0⟩ := cells7 hr
    clear hr hbw hx2 hc2 hc3
    go_wp2_with (first
      | (go_at_call 16; refine (HE.out _ HT.out).mono ?_; rintro e w5 ⟨rfl, hb5⟩; have q5 := bcell hb5; obtain ⟨q5, q6⟩ := q5; have H5 := Aside0.mk hb5; clear hb5)
      | (go_at_call 49; (with_reducible refine (HP.out _).mono ?_); rintro e w6 ⟨rfl, rfl⟩))
    have hb6 := HB.out.trans (H5.out.mono (Nat.le_of_lt hlt))
    exact bodyPost_ret (v := .tuple #[xv ⟨op, wid, r, b, i, c, n⟩, .int .i64 t.size, .int .i64 0]) (by simp [results, Tryd.results20, go_sem, *]) rfl ⟨rfl, by repeat (first | with_reducible exact hb6 | with_reducible refine below_own ?_ _ _ | with_reducible refine below_drew ?_)⟩
set_option maxHeartbeats 16000000 in
set_option maxRecDepth 100000 in
theorem Dec3 (s : ByteArray) (w : World) (ht : Tab w) (hs : s.size ≤ 281474976710656) (h4 : at0 (bl s) 0 / 16 = 4) (h15 : at0 (bl (s.extract 1 s.size)) 0 = 15) :
    Calls Tryd.prog 20 #[.string s] w fun e w' => e = .returned (decA (bl s)) ∧ Below w.heap.size w w' := by
  obtain ⟨X, hX⟩ : ∃ X, two (bl (s.extract 1 s.size)) (at0 (bl s) 0 / 8 % 2 * 8 != 0) (at0 (bl s) 0 / 4 % 2 * 4 * 2) (at0 (bl s) 0 % 2 * 8) = X := ⟨_, rfl⟩
  have hc : cand (bl s) = X := by
    rw [← hX]
    unfold cand body
    have e1 : decide (at0 (bl s) 0 / 8 % 2 = 1) = (at0 (bl s) 0 / 8 % 2 * 8 != 0) := by rw [Bool.eq_iff_iff]; simp; omega
    have e2 : at0 (bl s) 0 / 4 % 2 * 8 = (at0 (bl s) 0 / 4 % 2 * 4 * 2) := by omega
    have e3 : at0 (bl s) 0 / 2 % 2 * 8 = (at0 (bl s) 0 / 2 % 2 * 2 * 4) := by omega
    have hz : 0 < s.size := size_pos (by omega)
    rw [if_pos h4, ← bl_tail s hz, if_pos h15, e1, e2]
  have hn : NB X := by
    have hq := body_n (s.extract 1 s.size) (at0 (bl s) 0 / 8 % 2 * 8 != 0) (at0 (bl s) 0 / 4 % 2 * 4 * 2) (at0 (bl s) 0 / 2 % 2 * 2 * 4) (at0 (bl s) 0 % 2 * 8)
    unfold body at hq
    rw [if_pos h15] at hq
    rw [← hX]
    exact hq
  have hE := ends s X hs hc hn
  have A0 : ∀ W, W.heap[w.heap.size + 1]? = some (co s 0 0 0) → Calls Tryd.prog 46 #[.pointer (some ⟨w.heap.size + 1, 0, none⟩), .int .i64 0] W fun e w' => e = .returned (.int .i64 (at0 (bl s) 0)) ∧ W = w' := fun W h => At s 0 0 0 (w.heap.size + 1) 0 W (by decide) hs h
  have hsT : (s.extract 1 s.size).size ≤ 281474976710656 := by rw [ByteArray.size_extract]; omega
  have A2 : ∀ W, W.heap[w.heap.size + 1]? = some (co (s.extract 1 s.size) (at0 (bl s) 0 / 4 % 2 * 4 * 2) (at0 (bl s) 0 / 2 % 2 * 2 * 4) (at0 (bl s) 0 % 2 * 8)) → Calls Tryd.prog 46 #[.pointer (some ⟨w.heap.size + 1, 0, none⟩), .int .i64 0] W fun e w' => e = .returned (.int .i64 (at0 (bl (s.extract 1 s.size)) 0)) ∧ W = w' := fun W h => At (s.extract 1 s.size) _ _ _ (w.heap.size + 1) 0 W (by decide) hsT h
  have B0 : ∀ W, W.heap[w.heap.size + 1]? = some (co (s.extract 1 s.size) (at0 (bl s) 0 / 4 % 2 * 4 * 2) (at0 (bl s) 0 / 2 % 2 * 2 * 4) (at0 (bl s) 0 % 2 * 8)) → Calls Tryd.prog 47 #[.pointer (some ⟨w.heap.size + 1, 0, none⟩), .bool (at0 (bl s) 0 / 8 % 2 * 8 != 0)] W fun e w' => e = .returned (xv X) ∧ Below W.heap.size W w' := fun W h => by
    rw [← hX]
    exact Two (s.extract 1 s.size) _ _ _ (w.heap.size + 1) _ W hsT (by omega) (by omega) h
  have hb0 := at0_bd s 0
  have hb2 := at0_bd (s.extract 1 s.size) 0
  have hz : 1 ≤ s.size := size_pos (by omega)
  have e4 : (at0 (bl s) 0 / 16 == 4) = true := beq_iff_eq.mpr h4
  have e15 : (at0 (bl (s.extract 1 s.size)) 0 == 15) = true := beq_iff_eq.mpr h15
  obtain ⟨q8, q4, q2, q1⟩ := krex_bits _ h4
  have u8 : 0 ≤ at0 (bl s) 0 / 8 % 2 ∧ at0 (bl s) 0 / 8 % 2 ≤ 1 := by omega
  have u4 : 0 ≤ at0 (bl s) 0 / 4 % 2 ∧ at0 (bl s) 0 / 4 % 2 ≤ 1 := by omega
  have u2 : 0 ≤ at0 (bl s) 0 / 2 % 2 ∧ at0 (bl s) 0 / 2 % 2 ≤ 1 := by omega
  have u1 : 0 ≤ at0 (bl s) 0 % 2 ∧ at0 (bl s) 0 % 2 ≤ 1 := by omega
  have hg2 : ((w.alloc (.cells #[.int .i64 0, .bool false, .int .i64 0, .int .i64 0, .int .i64 0, .int .i64 0, .int .i64 0] 23 (0, 0))).alloc (co (s.extract 1 s.size) (at0 (bl s) 0 / 4 % 2 * 4 * 2) (at0 (bl s) 0 / 2 % 2 * 2 * 4) (at0 (bl s) 0 % 2 * 8))).heap[w.heap.size + 1]? = some (co (s.extract 1 s.size) (at0 (bl s) 0 / 4 % 2 * 4 * 2) (at0 (bl s) 0 / 2 % 2 * 2 * 4) (at0 (bl s) 0 % 2 * 8)) := by
    have h := blk_new (w.alloc (.cells #[.int .i64 0, .bool false, .int .i64 0, .int .i64 0, .int .i64 0, .int .i64 0, .int .i64 0] 23 (0, 0))) (co (s.extract 1 s.size) (at0 (bl s) 0 / 4 % 2 * 4 * 2) (at0 (bl s) 0 / 2 % 2 * 2 * 4) (at0 (bl s) 0 % 2 * 8))
    rwa [World.size_alloc] at h
  have hB2 : Below w.heap.size w ((w.alloc (.cells #[.int .i64 0, .bool false, .int .i64 0, .int .i64 0, .int .i64 0, .int .i64 0, .int .i64 0] 23 (0, 0))).alloc (co (s.extract 1 s.size) (at0 (bl s) 0 / 4 % 2 * 4 * 2) (at0 (bl s) 0 / 2 % 2 * 2 * 4) (at0 (bl s) 0 % 2 * 8))) := below_alloc (below_alloc (Below.refl _ _) _) _
  have hz2 : ((w.alloc (.cells #[.int .i64 0, .bool false, .int .i64 0, .int .i64 0, .int .i64 0, .int .i64 0, .int .i64 0] 23 (0, 0))).alloc (co (s.extract 1 s.size) (at0 (bl s) 0 / 4 % 2 * 4 * 2) (at0 (bl s) 0 / 2 % 2 * 2 * 4) (at0 (bl s) 0 % 2 * 8))).heap.size = w.heap.size + 1 + 1 := by simp only [World.size_alloc]
  have HD := Aside0.mk (And.intro A2 (And.intro B0 (And.intro hg2 (And.intro hB2 hz2))))
  have hg : ((w.alloc (.cells #[.int .i64 0, .bool false, .int .i64 0, .int .i64 0, .int .i64 0, .int .i64 0, .int .i64 0] 23 (0, 0))).alloc (co s 0 0 0)).heap[w.heap.size + 1]? = some (co s 0 0 0) := by
    have h := blk_new (w.alloc (.cells #[.int .i64 0, .bool false, .int .i64 0, .int .i64 0, .int .i64 0, .int .i64 0, .int .i64 0] 23 (0, 0))) (co s 0 0 0)
    rwa [World.size_alloc] at h
  have hB1 : Below w.heap.size w ((w.alloc (.cells #[.int .i64 0, .bool false, .int .i64 0, .int .i64 0, .int .i64 0, .int .i64 0, .int .i64 0] 23 (0, 0))).alloc (co s 0 0 0)) := below_alloc (below_alloc (Below.refl _ _) _) _
  have hz1 : ((w.alloc (.cells #[.int .i64 0, .bool false, .int .i64 0, .int .i64 0, .int .i64 0, .int .i64 0, .int .i64 0] 23 (0, 0))).alloc (co s 0 0 0)).heap.size = w.heap.size + 1 + 1 := by simp only [World.size_alloc]
  have HC := Aside0.mk (And.intro A0 (And.intro B0 (And.intro hg (And.intro hB1 (And.intro hz1 ht)))))
  clear hc hn hX A0 B0 ht hg hB1 hz1 A2 hg2 hB2 hz2 hsT
  obtain ⟨op, wid, r, b, i, c, n⟩ := X
  generalize at0 (bl s) 0 = a at *
  generalize at0 (bl (s.extract 1 s.size)) 0 = a2 at *
  obtain ⟨hb00, hb01⟩ := hb0
  obtain ⟨hb20, hb21⟩ := hb2
  rcases hE with ⟨hA, hE⟩ | ⟨t, ht15, hE, ⟨hA, hP⟩ | ⟨hA, hP⟩⟩
  · rw [hA]
    have HE := Aside0.mk hE
    clear hE hA
    go_enter Tryd.func20, Tryd.ntmps20
    go_upto_region 10 with (first
      | (go_at_call 46; (with_reducible refine (HC.out.1 _ HC.out.2.2.1).mono ?_); rintro e w1 ⟨rfl, rfl⟩)
      | (go_at_call 46; (with_reducible refine (HD.out.1 _ HD.out.2.2.1).mono ?_); rintro e w1 ⟨rfl, rfl⟩)
      | (go_at_call 47; (with_reducible refine (HD.out.2.1 _ HD.out.2.2.1).mono ?_); rintro e w2 ⟨rfl, hb2⟩; have hc2 := bcell hb2; rw [HD.out.2.2.2.2] at hc2; have H2 := Aside0.mk hb2; clear hb2; obtain ⟨hc2, hc3⟩ := hc2))
    have hx2 := blk_below (blk_alloc (blk_new w (.cells #[.int .i64 0, .bool false, .int .i64 0, .int .i64 0, .int .i64 0, .int .i64 0, .int .i64 0] 23 (0, 0))) _) H2.out
    have hr := row7 hx2 (.int .i64 op) (.bool wid) (.int .i64 r) (.int .i64 b) (.int .i64 i) (.int .i64 c) (.int .i64 n)
    have hbw := below7 (Nat.le_refl w.heap.size) (HD.out.2.2.2.1.trans (H2.out.mono (by simp; omega))) (.int .i64 op) (.bool wid) (.int .i64 r) (.int .i64 b) (.int .i64 i) (.int .i64 c) (.int .i64 n)
    generalize (((((((w2.setCell ⟨w.heap.size, 0, none⟩ (.int .i64 op)).setCell ⟨w.heap.size, 1, none⟩ (.bool wid)).setCell ⟨w.heap.size, 2, none⟩ (.int .i64 r)).setCell ⟨w.heap.size, 3, none⟩ (.int .i64 b)).setCell ⟨w.heap.size, 4, none⟩ (.int .i64 i)).setCell ⟨w.heap.size, 5, none⟩ (.int .i64 c)).setCell ⟨w.heap.size, 6, none⟩ (.int .i64 n)) = W9 at hr hbw ⊢
    have HT := Aside0.mk (HC.out.2.2.2.2.2.below hbw)
    have HB := Aside0.mk hbw
    have hlt := blk_lt hr
    obtain ⟨k0, k1, k2, k3, k4, k5, k6, f0⟩ := cells7 hr
    clear hr hbw hx2 hc2 hc3
    go_wp2_with (first
      | (go_at_call 16; refine (HE.out _ HT.out).mono ?_; rintro e w5 ⟨rfl, hb5⟩; have q5 := bcell hb5; obtain ⟨q5, q6⟩ := q5; have H5 := Aside0.mk hb5; clear hb5))
    have hb6 := HB.out.trans (H5.out.mono (Nat.le_of_lt hlt))
    exact bodyPost_ret (v := .tuple #[xv ⟨0, false, 0, 0, 0, 0, 0⟩, .int .i64 0, .int .i64 6]) (by simp [results, Tryd.results20, go_sem, *]) rfl ⟨rfl, by repeat (first | with_reducible exact hb6 | with_reducible refine below_own ?_ _ _ | with_reducible refine below_drew ?_)⟩
  · rw [hA]
    have HE := Aside0.mk hE
    have HP := Aside0.mk hP
    clear hE hA hP
    go_enter Tryd.func20, Tryd.ntmps20
    go_upto_region 10 with (first
      | (go_at_call 46; (with_reducible refine (HC.out.1 _ HC.out.2.2.1).mono ?_); rintro e w1 ⟨rfl, rfl⟩)
      | (go_at_call 46; (with_reducible refine (HD.out.1 _ HD.out.2.2.1).mono ?_); rintro e w1 ⟨rfl, rfl⟩)
      | (go_at_call 47; (with_reducible refine (HD.out.2.1 _ HD.out.2.2.1).mono ?_); rintro e w2 ⟨rfl, hb2⟩; have hc2 := bcell hb2; rw [HD.out.2.2.2.2] at hc2; have H2 := Aside0.mk hb2; clear hb2; obtain ⟨hc2, hc3⟩ := hc2))
    have hx2 := blk_below (blk_alloc (blk_new w (.cells #[.int .i64 0, .bool false, .int .i64 0, .int .i64 0, .int .i64 0, .int .i64 0, .int .i64 0] 23 (0, 0))) _) H2.out
    have hr := row7 hx2 (.int .i64 op) (.bool wid) (.int .i64 r) (.int .i64 b) (.int .i64 i) (.int .i64 c) (.int .i64 n)
    have hbw := below7 (Nat.le_refl w.heap.size) (HD.out.2.2.2.1.trans (H2.out.mono (by simp; omega))) (.int .i64 op) (.bool wid) (.int .i64 r) (.int .i64 b) (.int .i64 i) (.int .i64 c) (.int .i64 n)
    generalize (((((((w2.setCell ⟨w.heap.size, 0, none⟩ (.int .i64 op)).setCell ⟨w.heap.size, 1, none⟩ (.bool wid)).setCell ⟨w.heap.size, 2, none⟩ (.int .i64 r)).setCell ⟨w.heap.size, 3, none⟩ (.int .i64 b)).setCell ⟨w.heap.size, 4, none⟩ (.int .i64 i)).setCell ⟨w.heap.size, 5, none⟩ (.int .i64 c)).setCell ⟨w.heap.size, 6, none⟩ (.int .i64 n)) = W9 at hr hbw ⊢
    have HT := Aside0.mk (HC.out.2.2.2.2.2.below hbw)
    have HB := Aside0.mk hbw
    have hlt := blk_lt hr
    obtain ⟨k0, k1, k2, k3, k4, k5, k6, f0⟩ := cells7 hr
    clear hr hbw hx2 hc2 hc3
    go_wp2_with (first
      | (go_at_call 16; refine (HE.out _ HT.out).mono ?_; rintro e w5 ⟨rfl, hb5⟩; have q5 := bcell hb5; obtain ⟨q5, q6⟩ := q5; have H5 := Aside0.mk hb5; clear hb5)
      | (go_at_call 49; (with_reducible refine (HP.out _).mono ?_); rintro e w6 ⟨rfl, rfl⟩))
    have hb6 := HB.out.trans (H5.out.mono (Nat.le_of_lt hlt))
    exact bodyPost_ret (v := .tuple #[xv ⟨0, false, 0, 0, 0, 0, 0⟩, .int .i64 0, .int .i64 6]) (by simp [results, Tryd.results20, go_sem, *]) rfl ⟨rfl, by repeat (first | with_reducible exact hb6 | with_reducible refine below_own ?_ _ _ | with_reducible refine below_drew ?_)⟩
  · rw [hA]
    have HE := Aside0.mk hE
    have HP := Aside0.mk hP
    clear hE hA hP
    go_enter Tryd.func20, Tryd.ntmps20
    go_upto_region 10 with (first
      | (go_at_call 46; (with_reducible refine (HC.out.1 _ HC.out.2.2.1).mono ?_); rintro e w1 ⟨rfl, rfl⟩)
      | (go_at_call 46; (with_reducible refine (HD.out.1 _ HD.out.2.2.1).mono ?_); rintro e w1 ⟨rfl, rfl⟩)
      | (go_at_call 47; (with_reducible refine (HD.out.2.1 _ HD.out.2.2.1).mono ?_); rintro e w2 ⟨rfl, hb2⟩; have hc2 := bcell hb2; rw [HD.out.2.2.2.2] at hc2; have H2 := Aside0.mk hb2; clear hb2; obtain ⟨hc2, hc3⟩ := hc2))
    have hx2 := blk_below (blk_alloc (blk_new w (.cells #[.int .i64 0, .bool false, .int .i64 0, .int .i64 0, .int .i64 0, .int .i64 0, .int .i64 0] 23 (0, 0))) _) H2.out
    have hr := row7 hx2 (.int .i64 op) (.bool wid) (.int .i64 r) (.int .i64 b) (.int .i64 i) (.int .i64 c) (.int .i64 n)
    have hbw := below7 (Nat.le_refl w.heap.size) (HD.out.2.2.2.1.trans (H2.out.mono (by simp; omega))) (.int .i64 op) (.bool wid) (.int .i64 r) (.int .i64 b) (.int .i64 i) (.int .i64 c) (.int .i64 n)
    generalize (((((((w2.setCell ⟨w.heap.size, 0, none⟩ (.int .i64 op)).setCell ⟨w.heap.size, 1, none⟩ (.bool wid)).setCell ⟨w.heap.size, 2, none⟩ (.int .i64 r)).setCell ⟨w.heap.size, 3, none⟩ (.int .i64 b)).setCell ⟨w.heap.size, 4, none⟩ (.int .i64 i)).setCell ⟨w.heap.size, 5, none⟩ (.int .i64 c)).setCell ⟨w.heap.size, 6, none⟩ (.int .i64 n)) = W9 at hr hbw ⊢
    have HT := Aside0.mk (HC.out.2.2.2.2.2.below hbw)
    have HB := Aside0.mk hbw
    have hlt := blk_lt hr
    obtain ⟨k0, k1, k2, k3, k4, k5, k6, f0⟩ := cells7 hr
    clear hr hbw hx2 hc2 hc3
    go_wp2_with (first
      | (go_at_call 16; refine (HE.out _ HT.out).mono ?_; rintro e w5 ⟨rfl, hb5⟩; have q5 := bcell hb5; obtain ⟨q5, q6⟩ := q5; have H5 := Aside0.mk hb5; clear hb5)
      | (go_at_call 49; (with_reducible refine (HP.out _).mono ?_); rintro e w6 ⟨rfl, rfl⟩))
    have hb6 := HB.out.trans (H5.out.mono (Nat.le_of_lt hlt))
    exact bodyPost_ret (v := .tuple #[xv ⟨op, wid, r, b, i, c, n⟩, .int .i64 t.size, .int .i64 0]) (by simp [results, Tryd.results20, go_sem, *]) rfl ⟨rfl, by repeat (first | with_reducible exact hb6 | with_reducible refine below_own ?_ _ _ | with_reducible refine below_drew ?_)⟩
set_option maxHeartbeats 16000000 in
set_option maxRecDepth 100000 in
theorem Dec4 (s : ByteArray) (w : World) (ht : Tab w) (hs : s.size ≤ 281474976710656) (h4 : at0 (bl s) 0 / 16 = 4) (h15 : ¬ at0 (bl (s.extract 1 s.size)) 0 = 15) :
    Calls Tryd.prog 20 #[.string s] w fun e w' => e = .returned (decA (bl s)) ∧ Below w.heap.size w w' := by
  obtain ⟨X, hX⟩ : ∃ X, one (bl (s.extract 1 s.size)) (at0 (bl s) 0 / 8 % 2 * 8 != 0) (at0 (bl s) 0 / 4 % 2 * 4 * 2) (at0 (bl s) 0 / 2 % 2 * 2 * 4) (at0 (bl s) 0 % 2 * 8) = X := ⟨_, rfl⟩
  have hc : cand (bl s) = X := by
    rw [← hX]
    unfold cand body
    have e1 : decide (at0 (bl s) 0 / 8 % 2 = 1) = (at0 (bl s) 0 / 8 % 2 * 8 != 0) := by rw [Bool.eq_iff_iff]; simp; omega
    have e2 : at0 (bl s) 0 / 4 % 2 * 8 = (at0 (bl s) 0 / 4 % 2 * 4 * 2) := by omega
    have e3 : at0 (bl s) 0 / 2 % 2 * 8 = (at0 (bl s) 0 / 2 % 2 * 2 * 4) := by omega
    have hz : 0 < s.size := size_pos (by omega)
    rw [if_pos h4, ← bl_tail s hz, if_neg h15, e1, e2, e3]
  have hn : NB X := by
    have hq := body_n (s.extract 1 s.size) (at0 (bl s) 0 / 8 % 2 * 8 != 0) (at0 (bl s) 0 / 4 % 2 * 4 * 2) (at0 (bl s) 0 / 2 % 2 * 2 * 4) (at0 (bl s) 0 % 2 * 8)
    unfold body at hq
    rw [if_neg h15] at hq
    rw [← hX]
    exact hq
  have hE := ends s X hs hc hn
  have A0 : ∀ W, W.heap[w.heap.size + 1]? = some (co s 0 0 0) → Calls Tryd.prog 46 #[.pointer (some ⟨w.heap.size + 1, 0, none⟩), .int .i64 0] W fun e w' => e = .returned (.int .i64 (at0 (bl s) 0)) ∧ W = w' := fun W h => At s 0 0 0 (w.heap.size + 1) 0 W (by decide) hs h
  have hsT : (s.extract 1 s.size).size ≤ 281474976710656 := by rw [ByteArray.size_extract]; omega
  have A2 : ∀ W, W.heap[w.heap.size + 1]? = some (co (s.extract 1 s.size) (at0 (bl s) 0 / 4 % 2 * 4 * 2) (at0 (bl s) 0 / 2 % 2 * 2 * 4) (at0 (bl s) 0 % 2 * 8)) → Calls Tryd.prog 46 #[.pointer (some ⟨w.heap.size + 1, 0, none⟩), .int .i64 0] W fun e w' => e = .returned (.int .i64 (at0 (bl (s.extract 1 s.size)) 0)) ∧ W = w' := fun W h => At (s.extract 1 s.size) _ _ _ (w.heap.size + 1) 0 W (by decide) hsT h
  have B0 : ∀ W, W.heap[w.heap.size + 1]? = some (co (s.extract 1 s.size) (at0 (bl s) 0 / 4 % 2 * 4 * 2) (at0 (bl s) 0 / 2 % 2 * 2 * 4) (at0 (bl s) 0 % 2 * 8)) → Calls Tryd.prog 48 #[.pointer (some ⟨w.heap.size + 1, 0, none⟩), .bool (at0 (bl s) 0 / 8 % 2 * 8 != 0)] W fun e w' => e = .returned (xv X) ∧ Below W.heap.size W w' := fun W h => by
    rw [← hX]
    exact One (s.extract 1 s.size) _ _ _ (w.heap.size + 1) _ W hsT (by omega) (by omega) (by omega) h
  have hb0 := at0_bd s 0
  have hb2 := at0_bd (s.extract 1 s.size) 0
  have hz : 1 ≤ s.size := size_pos (by omega)
  have e4 : (at0 (bl s) 0 / 16 == 4) = true := beq_iff_eq.mpr h4
  have e15 : (at0 (bl (s.extract 1 s.size)) 0 == 15) = false := beq_eq_false_iff_ne.mpr h15
  obtain ⟨q8, q4, q2, q1⟩ := krex_bits _ h4
  have u8 : 0 ≤ at0 (bl s) 0 / 8 % 2 ∧ at0 (bl s) 0 / 8 % 2 ≤ 1 := by omega
  have u4 : 0 ≤ at0 (bl s) 0 / 4 % 2 ∧ at0 (bl s) 0 / 4 % 2 ≤ 1 := by omega
  have u2 : 0 ≤ at0 (bl s) 0 / 2 % 2 ∧ at0 (bl s) 0 / 2 % 2 ≤ 1 := by omega
  have u1 : 0 ≤ at0 (bl s) 0 % 2 ∧ at0 (bl s) 0 % 2 ≤ 1 := by omega
  have hg2 : ((w.alloc (.cells #[.int .i64 0, .bool false, .int .i64 0, .int .i64 0, .int .i64 0, .int .i64 0, .int .i64 0] 23 (0, 0))).alloc (co (s.extract 1 s.size) (at0 (bl s) 0 / 4 % 2 * 4 * 2) (at0 (bl s) 0 / 2 % 2 * 2 * 4) (at0 (bl s) 0 % 2 * 8))).heap[w.heap.size + 1]? = some (co (s.extract 1 s.size) (at0 (bl s) 0 / 4 % 2 * 4 * 2) (at0 (bl s) 0 / 2 % 2 * 2 * 4) (at0 (bl s) 0 % 2 * 8)) := by
    have h := blk_new (w.alloc (.cells #[.int .i64 0, .bool false, .int .i64 0, .int .i64 0, .int .i64 0, .int .i64 0, .int .i64 0] 23 (0, 0))) (co (s.extract 1 s.size) (at0 (bl s) 0 / 4 % 2 * 4 * 2) (at0 (bl s) 0 / 2 % 2 * 2 * 4) (at0 (bl s) 0 % 2 * 8))
    rwa [World.size_alloc] at h
  have hB2 : Below w.heap.size w ((w.alloc (.cells #[.int .i64 0, .bool false, .int .i64 0, .int .i64 0, .int .i64 0, .int .i64 0, .int .i64 0] 23 (0, 0))).alloc (co (s.extract 1 s.size) (at0 (bl s) 0 / 4 % 2 * 4 * 2) (at0 (bl s) 0 / 2 % 2 * 2 * 4) (at0 (bl s) 0 % 2 * 8))) := below_alloc (below_alloc (Below.refl _ _) _) _
  have hz2 : ((w.alloc (.cells #[.int .i64 0, .bool false, .int .i64 0, .int .i64 0, .int .i64 0, .int .i64 0, .int .i64 0] 23 (0, 0))).alloc (co (s.extract 1 s.size) (at0 (bl s) 0 / 4 % 2 * 4 * 2) (at0 (bl s) 0 / 2 % 2 * 2 * 4) (at0 (bl s) 0 % 2 * 8))).heap.size = w.heap.size + 1 + 1 := by simp only [World.size_alloc]
  have HD := Aside0.mk (And.intro A2 (And.intro B0 (And.intro hg2 (And.intro hB2 hz2))))
  have hg : ((w.alloc (.cells #[.int .i64 0, .bool false, .int .i64 0, .int .i64 0, .int .i64 0, .int .i64 0, .int .i64 0] 23 (0, 0))).alloc (co s 0 0 0)).heap[w.heap.size + 1]? = some (co s 0 0 0) := by
    have h := blk_new (w.alloc (.cells #[.int .i64 0, .bool false, .int .i64 0, .int .i64 0, .int .i64 0, .int .i64 0, .int .i64 0] 23 (0, 0))) (co s 0 0 0)
    rwa [World.size_alloc] at h
  have hB1 : Below w.heap.size w ((w.alloc (.cells #[.int .i64 0, .bool false, .int .i64 0, .int .i64 0, .int .i64 0, .int .i64 0, .int .i64 0] 23 (0, 0))).alloc (co s 0 0 0)) := below_alloc (below_alloc (Below.refl _ _) _) _
  have hz1 : ((w.alloc (.cells #[.int .i64 0, .bool false, .int .i64 0, .int .i64 0, .int .i64 0, .int .i64 0, .int .i64 0] 23 (0, 0))).alloc (co s 0 0 0)).heap.size = w.heap.size + 1 + 1 := by simp only [World.size_alloc]
  have HC := Aside0.mk (And.intro A0 (And.intro B0 (And.intro hg (And.intro hB1 (And.intro hz1 ht)))))
  clear hc hn hX A0 B0 ht hg hB1 hz1 A2 hg2 hB2 hz2 hsT
  obtain ⟨op, wid, r, b, i, c, n⟩ := X
  generalize at0 (bl s) 0 = a at *
  generalize at0 (bl (s.extract 1 s.size)) 0 = a2 at *
  obtain ⟨hb00, hb01⟩ := hb0
  obtain ⟨hb20, hb21⟩ := hb2
  rcases hE with ⟨hA, hE⟩ | ⟨t, ht15, hE, ⟨hA, hP⟩ | ⟨hA, hP⟩⟩
  · rw [hA]
    have HE := Aside0.mk hE
    clear hE hA
    go_enter Tryd.func20, Tryd.ntmps20
    go_upto_region 10 with (first
      | (go_at_call 46; (with_reducible refine (HC.out.1 _ HC.out.2.2.1).mono ?_); rintro e w1 ⟨rfl, rfl⟩)
      | (go_at_call 46; (with_reducible refine (HD.out.1 _ HD.out.2.2.1).mono ?_); rintro e w1 ⟨rfl, rfl⟩)
      | (go_at_call 48; (with_reducible refine (HD.out.2.1 _ HD.out.2.2.1).mono ?_); rintro e w2 ⟨rfl, hb2⟩; have hc2 := bcell hb2; rw [HD.out.2.2.2.2] at hc2; have H2 := Aside0.mk hb2; clear hb2; obtain ⟨hc2, hc3⟩ := hc2))
    have hx2 := blk_below (blk_alloc (blk_new w (.cells #[.int .i64 0, .bool false, .int .i64 0, .int .i64 0, .int .i64 0, .int .i64 0, .int .i64 0] 23 (0, 0))) _) H2.out
    have hr := row7 hx2 (.int .i64 op) (.bool wid) (.int .i64 r) (.int .i64 b) (.int .i64 i) (.int .i64 c) (.int .i64 n)
    have hbw := below7 (Nat.le_refl w.heap.size) (HD.out.2.2.2.1.trans (H2.out.mono (by simp; omega))) (.int .i64 op) (.bool wid) (.int .i64 r) (.int .i64 b) (.int .i64 i) (.int .i64 c) (.int .i64 n)
    generalize (((((((w2.setCell ⟨w.heap.size, 0, none⟩ (.int .i64 op)).setCell ⟨w.heap.size, 1, none⟩ (.bool wid)).setCell ⟨w.heap.size, 2, none⟩ (.int .i64 r)).setCell ⟨w.heap.size, 3, none⟩ (.int .i64 b)).setCell ⟨w.heap.size, 4, none⟩ (.int .i64 i)).setCell ⟨w.heap.size, 5, none⟩ (.int .i64 c)).setCell ⟨w.heap.size, 6, none⟩ (.int .i64 n)) = W9 at hr hbw ⊢
    have HT := Aside0.mk (HC.out.2.2.2.2.2.below hbw)
    have HB := Aside0.mk hbw
    have hlt := blk_lt hr
    obtain ⟨k0, k1, k2, k3, k4, k5, k6, f0⟩ := cells7 hr
    clear hr hbw hx2 hc2 hc3
    go_wp2_with (first
      | (go_at_call 16; refine (HE.out _ HT.out).mono ?_; rintro e w5 ⟨rfl, hb5⟩; have q5 := bcell hb5; obtain ⟨q5, q6⟩ := q5; have H5 := Aside0.mk hb5; clear hb5))
    have hb6 := HB.out.trans (H5.out.mono (Nat.le_of_lt hlt))
    exact bodyPost_ret (v := .tuple #[xv ⟨0, false, 0, 0, 0, 0, 0⟩, .int .i64 0, .int .i64 6]) (by simp [results, Tryd.results20, go_sem, *]) rfl ⟨rfl, by repeat (first | with_reducible exact hb6 | with_reducible refine below_own ?_ _ _ | with_reducible refine below_drew ?_)⟩
  · rw [hA]
    have HE := Aside0.mk hE
    have HP := Aside0.mk hP
    clear hE hA hP
    go_enter Tryd.func20, Tryd.ntmps20
    go_upto_region 10 with (first
      | (go_at_call 46; (with_reducible refine (HC.out.1 _ HC.out.2.2.1).mono ?_); rintro e w1 ⟨rfl, rfl⟩)
      | (go_at_call 46; (with_reducible refine (HD.out.1 _ HD.out.2.2.1).mono ?_); rintro e w1 ⟨rfl, rfl⟩)
      | (go_at_call 48; (with_reducible refine (HD.out.2.1 _ HD.out.2.2.1).mono ?_); rintro e w2 ⟨rfl, hb2⟩; have hc2 := bcell hb2; rw [HD.out.2.2.2.2] at hc2; have H2 := Aside0.mk hb2; clear hb2; obtain ⟨hc2, hc3⟩ := hc2))
    have hx2 := blk_below (blk_alloc (blk_new w (.cells #[.int .i64 0, .bool false, .int .i64 0, .int .i64 0, .int .i64 0, .int .i64 0, .int .i64 0] 23 (0, 0))) _) H2.out
    have hr := row7 hx2 (.int .i64 op) (.bool wid) (.int .i64 r) (.int .i64 b) (.int .i64 i) (.int .i64 c) (.int .i64 n)
    have hbw := below7 (Nat.le_refl w.heap.size) (HD.out.2.2.2.1.trans (H2.out.mono (by simp; omega))) (.int .i64 op) (.bool wid) (.int .i64 r) (.int .i64 b) (.int .i64 i) (.int .i64 c) (.int .i64 n)
    generalize (((((((w2.setCell ⟨w.heap.size, 0, none⟩ (.int .i64 op)).setCell ⟨w.heap.size, 1, none⟩ (.bool wid)).setCell ⟨w.heap.size, 2, none⟩ (.int .i64 r)).setCell ⟨w.heap.size, 3, none⟩ (.int .i64 b)).setCell ⟨w.heap.size, 4, none⟩ (.int .i64 i)).setCell ⟨w.heap.size, 5, none⟩ (.int .i64 c)).setCell ⟨w.heap.size, 6, none⟩ (.int .i64 n)) = W9 at hr hbw ⊢
    have HT := Aside0.mk (HC.out.2.2.2.2.2.below hbw)
    have HB := Aside0.mk hbw
    have hlt := blk_lt hr
    obtain ⟨k0, k1, k2, k3, k4, k5, k6, f0⟩ := cells7 hr
    clear hr hbw hx2 hc2 hc3
    go_wp2_with (first
      | (go_at_call 16; refine (HE.out _ HT.out).mono ?_; rintro e w5 ⟨rfl, hb5⟩; have q5 := bcell hb5; obtain ⟨q5, q6⟩ := q5; have H5 := Aside0.mk hb5; clear hb5)
      | (go_at_call 49; (with_reducible refine (HP.out _).mono ?_); rintro e w6 ⟨rfl, rfl⟩))
    have hb6 := HB.out.trans (H5.out.mono (Nat.le_of_lt hlt))
    exact bodyPost_ret (v := .tuple #[xv ⟨0, false, 0, 0, 0, 0, 0⟩, .int .i64 0, .int .i64 6]) (by simp [results, Tryd.results20, go_sem, *]) rfl ⟨rfl, by repeat (first | with_reducible exact hb6 | with_reducible refine below_own ?_ _ _ | with_reducible refine below_drew ?_)⟩
  · rw [hA]
    have HE := Aside0.mk hE
    have HP := Aside0.mk hP
    clear hE hA hP
    go_enter Tryd.func20, Tryd.ntmps20
    go_upto_region 10 with (first
      | (go_at_call 46; (with_reducible refine (HC.out.1 _ HC.out.2.2.1).mono ?_); rintro e w1 ⟨rfl, rfl⟩)
      | (go_at_call 46; (with_reducible refine (HD.out.1 _ HD.out.2.2.1).mono ?_); rintro e w1 ⟨rfl, rfl⟩)
      | (go_at_call 48; (with_reducible refine (HD.out.2.1 _ HD.out.2.2.1).mono ?_); rintro e w2 ⟨rfl, hb2⟩; have hc2 := bcell hb2; rw [HD.out.2.2.2.2] at hc2; have H2 := Aside0.mk hb2; clear hb2; obtain ⟨hc2, hc3⟩ := hc2))
    have hx2 := blk_below (blk_alloc (blk_new w (.cells #[.int .i64 0, .bool false, .int .i64 0, .int .i64 0, .int .i64 0, .int .i64 0, .int .i64 0] 23 (0, 0))) _) H2.out
    have hr := row7 hx2 (.int .i64 op) (.bool wid) (.int .i64 r) (.int .i64 b) (.int .i64 i) (.int .i64 c) (.int .i64 n)
    have hbw := below7 (Nat.le_refl w.heap.size) (HD.out.2.2.2.1.trans (H2.out.mono (by simp; omega))) (.int .i64 op) (.bool wid) (.int .i64 r) (.int .i64 b) (.int .i64 i) (.int .i64 c) (.int .i64 n)
    generalize (((((((w2.setCell ⟨w.heap.size, 0, none⟩ (.int .i64 op)).setCell ⟨w.heap.size, 1, none⟩ (.bool wid)).setCell ⟨w.heap.size, 2, none⟩ (.int .i64 r)).setCell ⟨w.heap.size, 3, none⟩ (.int .i64 b)).setCell ⟨w.heap.size, 4, none⟩ (.int .i64 i)).setCell ⟨w.heap.size, 5, none⟩ (.int .i64 c)).setCell ⟨w.heap.size, 6, none⟩ (.int .i64 n)) = W9 at hr hbw ⊢
    have HT := Aside0.mk (HC.out.2.2.2.2.2.below hbw)
    have HB := Aside0.mk hbw
    have hlt := blk_lt hr
    obtain ⟨k0, k1, k2, k3, k4, k5, k6, f0⟩ := cells7 hr
    clear hr hbw hx2 hc2 hc3
    go_wp2_with (first
      | (go_at_call 16; refine (HE.out _ HT.out).mono ?_; rintro e w5 ⟨rfl, hb5⟩; have q5 := bcell hb5; obtain ⟨q5, q6⟩ := q5; have H5 := Aside0.mk hb5; clear hb5)
      | (go_at_call 49; (with_reducible refine (HP.out _).mono ?_); rintro e w6 ⟨rfl, rfl⟩))
    have hb6 := HB.out.trans (H5.out.mono (Nat.le_of_lt hlt))
    exact bodyPost_ret (v := .tuple #[xv ⟨op, wid, r, b, i, c, n⟩, .int .i64 t.size, .int .i64 0]) (by simp [results, Tryd.results20, go_sem, *]) rfl ⟨rfl, by repeat (first | with_reducible exact hb6 | with_reducible refine below_own ?_ _ _ | with_reducible refine below_drew ?_)⟩
/-- what bytes are -/
theorem Decode (s : ByteArray) (w : World) (ht : Tab w) (hs : s.size ≤ 281474976710656) :
    Calls Tryd.prog 20 #[.string s] w fun e w' => e = .returned (decA (bl s)) ∧ Below w.heap.size w w' := by
  by_cases h4 : at0 (bl s) 0 / 16 = 4
  · by_cases h15 : at0 (bl (s.extract 1 s.size)) 0 = 15
    · exact Dec3 s w ht hs h4 h15
    · exact Dec4 s w ht hs h4 h15
  · by_cases h15 : at0 (bl s) 0 = 15
    · exact Dec1 s w ht hs h4 h15
    · exact Dec2 s w ht hs h4 h15
end Go.Proofs.YtkfinaongajhmaaDoor.X

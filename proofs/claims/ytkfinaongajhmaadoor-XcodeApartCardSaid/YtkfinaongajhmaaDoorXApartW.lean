/- XcodeApart: the walk. -/
import Derived.Test.YtkfinaongajhmaaDoorXWays
import Derived.Deep.QuietTactic
import Derived.BigQuiet
namespace Go.Ob.Xc
/-- of two unlike instructions neither's bytes begin with the other's -/
theorem apart {x y : XI} (hx : right x = true) (hy : right y = true) (nx : -9223372036854775808 ≤ x.n ∧ x.n ≤ 9223372036854775807) (ny : -9223372036854775808 ≤ y.n ∧ y.n ≤ 9223372036854775807) (hp : enc x <+: enc y) : x = y := by
  obtain ⟨t, ht⟩ := hp
  have e1 := cand_enc x t hx nx
  have e2 := cand_enc y [] hy ny
  rw [List.append_nil] at e2
  rw [ht, e2] at e1
  exact e1.symm
end Go.Ob.Xc
namespace Go.Proofs.YtkfinaongajhmaaDoor.X
open Go.Ob Go.Ob.Xc Go.RowKit Go.Proofs.YtkfinaongajhmaaDoorW.PrintWords Go.Proofs.YtkfinaongajhmaaDoorW.PrintMore
attribute [local go_sem] max2_int min2_int max_two min_two
set_option linter.unusedVariables false
set_option linter.unusedSimpArgs false
theorem cut_none {x : XI} {t : ByteArray} (hx : right x = true) (nx : NB x) (ht : bl t = enc x) (k : Nat) (hk : k < t.size) : decA (bl (t.extract 0 k)) = .tuple #[xv ⟨0, false, 0, 0, 0, 0, 0⟩, .int .i64 0, .int .i64 6] := by
  rcases dec_way (t.extract 0 k) with h | ⟨y, u, ny, hy, hu, u1, u2, u3, u4, -⟩
  · exact h
  · exfalso
    rw [ByteArray.size_extract] at u3
    have e : bl u = (bl t).take u.size := by
      rw [← u4, bl_extract, bl_extract]
      simp only [List.drop_zero, Nat.sub_zero]
      rw [List.take_take, ByteArray.size_extract]
      congr 1
      rw [ByteArray.size_extract] at *
      omega
    have hp : enc y <+: enc x := by
      rw [← hu, ← ht, e]
      exact List.take_prefix _ _
    have := apart hy hx ny nx hp
    subst this
    have : t.size = u.size := by rw [← bl_length, ← bl_length, ht, hu]
    omega
theorem beg_ne {x y : XI} {t u : ByteArray} (hx : right x = true) (hy : right y = true) (nx : NB x) (ny : NB y) (ht : bl t = enc x) (hu : bl u = enc y) (h : x ≠ y) (k : Nat) (hk : k = t.size ∨ k = u.size) :
    ((t.extract 0 k).toList == (u.extract 0 k).toList) = false := by
  rw [beq_eq_false_iff_ne, Ne, toList_iff, bl_extract, bl_extract]
  simp only [List.drop_zero, Nat.sub_zero]
  intro e
  rcases hk with rfl | rfl
  · rw [← bl_length t, List.take_length, ht, hu] at e
    exact h (apart hx hy nx ny (by rw [e]; exact List.take_prefix _ _))
  · rw [← bl_length u, List.take_length, hu, ht] at e
    exact h (apart hy hx ny nx (by rw [← e]; exact List.take_prefix _ _)).symm
set_option maxHeartbeats 16000000 in
set_option maxRecDepth 100000 in
theorem ApartA (x y : XI) (c : Int) (w : World) (ht : Tab w) (hn : NB x) (hm : NB y) (hc : -9223372036854775808 ≤ c ∧ c ≤ 9223372036854775807) (h : right x = true) (g : right y = true) (t u : ByteArray) (t1 : 1 ≤ t.size) (t2 : t.size ≤ 10) (u1 : 1 ≤ u.size) (u2 : u.size ≤ 10)
    (hl : t.size ≤ u.size) (hs : 0 ≤ c) (q : Bool) (hq : ∀ W, (Op.equalIn 10000 23 (xv x) (xv y)).run Tryd.prog W = .ok q W) (hp : ∀ k, k = t.size ∨ k = u.size → ((t.extract 0 k).toList == (u.extract 0 k).toList) = q)
    (hT : ∀ W, Tab W → Calls Tryd.prog 16 #[xv x] W fun e w' => e = .returned (.tuple #[.string t, .int .i64 0]) ∧ Below W.heap.size W w')
    (hU : ∀ W, Tab W → Calls Tryd.prog 16 #[xv y] W fun e w' => e = .returned (.tuple #[.string u, .int .i64 0]) ∧ Below W.heap.size W w')
    (hD : ∀ k, k < t.size → ∀ W, Tab W → Calls Tryd.prog 20 #[.string (t.extract 0 k)] W fun e w' => e = .returned (.tuple #[xv ⟨0, false, 0, 0, 0, 0, 0⟩, .int .i64 0, .int .i64 6]) ∧ Below W.heap.size W w') :
    Calls Tryd.prog 6 #[xv x, xv y, .int .i64 c] w fun e w' => e = .returned (.bool true) ∧ Below w.heap.size w w' := by
  obtain ⟨k, hk, hkt⟩ : ∃ k : Nat, c % (t.size : Int) = k ∧ k < t.size := ⟨(c % (t.size : Int)).toNat, by have := Int.emod_nonneg c (show (t.size : Int) ≠ 0 by omega); omega, by have := Int.emod_lt_of_pos c (show (0 : Int) < t.size by omega); omega⟩
  have HX := Aside0.mk hT
  have HY := Aside0.mk hU
  have HD := Aside0.mk (hD k hkt)
  have HQ := Aside0.mk hq
  have HP := Aside0.mk (hp t.size (.inl rfl))
  have HK := Aside0.mk hk
  have HE := Aside0.mk (Examples ((w.alloc (xo x)).alloc (xo y)) (ht.below (below_alloc (below_alloc (Below.refl _ _) _) _)))
  have HT := Aside0.mk (ht.below (below_alloc (below_alloc (Below.refl w.heap.size w) (xo x)) (xo y)))
  have HB := Aside0.mk (below_alloc (below_alloc (Below.refl w.heap.size w) (xo x)) (xo y))
  clear hT hU hD hq hp ht hn hm h g hk
  obtain ⟨hc0, hc1⟩ := hc
  obtain ⟨o, wd, r, b, i, cc, n⟩ := x
  obtain ⟨o2, wd2, r2, b2, i2, c2, n2⟩ := y
  go_enter Tryd.func6, Tryd.ntmps6
  go_upto_region 2 with (go_at_call 15; (with_reducible refine HE.out.mono ?_); rintro e w1 ⟨rfl, hb⟩; have q := bcell hb; rw [World.size_alloc, World.size_alloc] at q; have l1 : w.heap.size + 1 < w1.heap.size := (by have := hb.size; simp at this; omega); have H1 := Aside0.mk (And.intro (HT.out.below hb) hb); clear hb; obtain ⟨q1, q2⟩ := q)
  go_upto_region 3 with (go_at_call 16; (with_reducible refine (HX.out _ H1.out.1).mono ?_); rintro e w2 ⟨rfl, hb⟩; have q := bcell hb; have l2 := Nat.lt_of_lt_of_le l1 hb.size; have H2 := Aside0.mk (And.intro (H1.out.1.below hb) (H1.out.2.trans (hb.mono H1.out.2.size))); clear hb; obtain ⟨q3, q4⟩ := q)
  go_upto_region 4 with (go_at_call 16; (with_reducible refine (HY.out _ H2.out.1).mono ?_); rintro e w3 ⟨rfl, hb⟩; have q := bcell hb; have l3 := Nat.lt_of_lt_of_le l2 hb.size; have H3 := Aside0.mk (And.intro (H2.out.1.below hb) (H2.out.2.trans (hb.mono H2.out.2.size))); clear hb; obtain ⟨q5, q6⟩ := q)
  have e0 := HK.out
  have z1 : ((t.size : Int) == 0) = false := beq_eq_false_iff_ne.mpr (by omega)
  have z2 : ((u.size : Int) == 0) = false := beq_eq_false_iff_ne.mpr (by omega)
  go_upto_region 12 with (go_at_call 20; (with_reducible refine (HD.out _ H3.out.1).mono ?_); rintro e w4 ⟨rfl, hb⟩; have q := bcell hb; have l4 := Nat.lt_of_lt_of_le l3 hb.size; have H4 := Aside0.mk (H3.out.2.trans (hb.mono H3.out.2.size)); clear hb; obtain ⟨q7, q8⟩ := q)
  have e1 := HQ.out
  have e2 := HP.out
  rw [ByteArray.extract_zero_size] at e2
  cases q
  all_goals
    obtain ⟨W9, hW9⟩ : ∃ W9, w4.alloc (xo ⟨0, false, 0, 0, 0, 0, 0⟩) = W9 := ⟨_, rfl⟩
    have kX := blk_alloc (blk_below (blk_alloc (blk_new w (xo ⟨o, wd, r, b, i, cc, n⟩)) (xo ⟨o2, wd2, r2, b2, i2, c2, n2⟩)) H4.out) (xo ⟨0, false, 0, 0, 0, 0, 0⟩)
    have kY := blk_alloc (blk_below (blk_new (w.alloc (xo ⟨o, wd, r, b, i, cc, n⟩)) (xo ⟨o2, wd2, r2, b2, i2, c2, n2⟩)) H4.out) (xo ⟨0, false, 0, 0, 0, 0, 0⟩)
    have kB := below_alloc (HB.out.trans (H4.out.mono (by simp; omega))) (xo ⟨0, false, 0, 0, 0, 0, 0⟩)
    rw [World.size_alloc] at kY
    rw [hW9] at kX kY kB ⊢
    have H9 := Aside0.mk kB
    clear hW9 kB q1 q2 q3 q4 q5 q6 q7 q8 e0
    obtain ⟨x0, x1, x2, x3, x4, x5, x6⟩ := cell7 kX
    obtain ⟨y0, y1, y2, y3, y4, y5, y6⟩ := cell7 kY
    clear kX kY
    refine wp_region_still_lit (by kernel_rfl) (by kernel_rfl) ?_
    repeat still_step
    refine wpStill_nil ?_
    go_wp2
    go_ret
    exact ⟨rfl, by repeat (first | with_reducible exact H9.out | with_reducible refine below_drew ?_)⟩
set_option maxHeartbeats 16000000 in
set_option maxRecDepth 100000 in
theorem ApartB (x y : XI) (c : Int) (w : World) (ht : Tab w) (hn : NB x) (hm : NB y) (hc : -9223372036854775808 ≤ c ∧ c ≤ 9223372036854775807) (h : right x = true) (g : right y = true) (t u : ByteArray) (t1 : 1 ≤ t.size) (t2 : t.size ≤ 10) (u1 : 1 ≤ u.size) (u2 : u.size ≤ 10)
    (hl : t.size ≤ u.size) (hs : c < 0) (q : Bool) (hq : ∀ W, (Op.equalIn 10000 23 (xv x) (xv y)).run Tryd.prog W = .ok q W) (hp : ∀ k, k = t.size ∨ k = u.size → ((t.extract 0 k).toList == (u.extract 0 k).toList) = q)
    (hT : ∀ W, Tab W → Calls Tryd.prog 16 #[xv x] W fun e w' => e = .returned (.tuple #[.string t, .int .i64 0]) ∧ Below W.heap.size W w')
    (hU : ∀ W, Tab W → Calls Tryd.prog 16 #[xv y] W fun e w' => e = .returned (.tuple #[.string u, .int .i64 0]) ∧ Below W.heap.size W w')
    (hD : ∀ k, k < t.size → ∀ W, Tab W → Calls Tryd.prog 20 #[.string (t.extract 0 k)] W fun e w' => e = .returned (.tuple #[xv ⟨0, false, 0, 0, 0, 0, 0⟩, .int .i64 0, .int .i64 6]) ∧ Below W.heap.size W w') :
    Calls Tryd.prog 6 #[xv x, xv y, .int .i64 c] w fun e w' => e = .returned (.bool true) ∧ Below w.heap.size w w' := by
  obtain ⟨k, hk, hkt⟩ : ∃ k : Nat, -((c + 1).tmod (t.size : Int)) = k ∧ k < t.size := by
    have e : -((c + 1).tmod (t.size : Int)) = (-(c + 1)) % (t.size : Int) := by rw [← Int.neg_tmod, Int.tmod_eq_emod_of_nonneg (by omega)]
    rw [e]
    exact ⟨((-(c + 1)) % (t.size : Int)).toNat, by have := Int.emod_nonneg (-(c + 1)) (show (t.size : Int) ≠ 0 by omega); omega, by have := Int.emod_lt_of_pos (-(c + 1)) (show (0 : Int) < t.size by omega); omega⟩
  have HX := Aside0.mk hT
  have HY := Aside0.mk hU
  have HD := Aside0.mk (hD k hkt)
  have HQ := Aside0.mk hq
  have HP := Aside0.mk (hp t.size (.inl rfl))
  have HK := Aside0.mk hk
  have HE := Aside0.mk (Examples ((w.alloc (xo x)).alloc (xo y)) (ht.below (below_alloc (below_alloc (Below.refl _ _) _) _)))
  have HT := Aside0.mk (ht.below (below_alloc (below_alloc (Below.refl w.heap.size w) (xo x)) (xo y)))
  have HB := Aside0.mk (below_alloc (below_alloc (Below.refl w.heap.size w) (xo x)) (xo y))
  clear hT hU hD hq hp ht hn hm h g hk
  obtain ⟨hc0, hc1⟩ := hc
  obtain ⟨o, wd, r, b, i, cc, n⟩ := x
  obtain ⟨o2, wd2, r2, b2, i2, c2, n2⟩ := y
  go_enter Tryd.func6, Tryd.ntmps6
  go_upto_region 2 with (go_at_call 15; (with_reducible refine HE.out.mono ?_); rintro e w1 ⟨rfl, hb⟩; have q := bcell hb; rw [World.size_alloc, World.size_alloc] at q; have l1 : w.heap.size + 1 < w1.heap.size := (by have := hb.size; simp at this; omega); have H1 := Aside0.mk (And.intro (HT.out.below hb) hb); clear hb; obtain ⟨q1, q2⟩ := q)
  go_upto_region 3 with (go_at_call 16; (with_reducible refine (HX.out _ H1.out.1).mono ?_); rintro e w2 ⟨rfl, hb⟩; have q := bcell hb; have l2 := Nat.lt_of_lt_of_le l1 hb.size; have H2 := Aside0.mk (And.intro (H1.out.1.below hb) (H1.out.2.trans (hb.mono H1.out.2.size))); clear hb; obtain ⟨q3, q4⟩ := q)
  go_upto_region 4 with (go_at_call 16; (with_reducible refine (HY.out _ H2.out.1).mono ?_); rintro e w3 ⟨rfl, hb⟩; have q := bcell hb; have l3 := Nat.lt_of_lt_of_le l2 hb.size; have H3 := Aside0.mk (And.intro (H2.out.1.below hb) (H2.out.2.trans (hb.mono H2.out.2.size))); clear hb; obtain ⟨q5, q6⟩ := q)
  have e0 := HK.out
  have z1 : ((t.size : Int) == 0) = false := beq_eq_false_iff_ne.mpr (by omega)
  have z2 : ((u.size : Int) == 0) = false := beq_eq_false_iff_ne.mpr (by omega)
  go_upto_region 12 with (go_at_call 20; (with_reducible refine (HD.out _ H3.out.1).mono ?_); rintro e w4 ⟨rfl, hb⟩; have q := bcell hb; have l4 := Nat.lt_of_lt_of_le l3 hb.size; have H4 := Aside0.mk (H3.out.2.trans (hb.mono H3.out.2.size)); clear hb; obtain ⟨q7, q8⟩ := q)
  have e1 := HQ.out
  have e2 := HP.out
  rw [ByteArray.extract_zero_size] at e2
  cases q
  all_goals
    obtain ⟨W9, hW9⟩ : ∃ W9, w4.alloc (xo ⟨0, false, 0, 0, 0, 0, 0⟩) = W9 := ⟨_, rfl⟩
    have kX := blk_alloc (blk_below (blk_alloc (blk_new w (xo ⟨o, wd, r, b, i, cc, n⟩)) (xo ⟨o2, wd2, r2, b2, i2, c2, n2⟩)) H4.out) (xo ⟨0, false, 0, 0, 0, 0, 0⟩)
    have kY := blk_alloc (blk_below (blk_new (w.alloc (xo ⟨o, wd, r, b, i, cc, n⟩)) (xo ⟨o2, wd2, r2, b2, i2, c2, n2⟩)) H4.out) (xo ⟨0, false, 0, 0, 0, 0, 0⟩)
    have kB := below_alloc (HB.out.trans (H4.out.mono (by simp; omega))) (xo ⟨0, false, 0, 0, 0, 0, 0⟩)
    rw [World.size_alloc] at kY
    rw [hW9] at kX kY kB ⊢
    have H9 := Aside0.mk kB
    clear hW9 kB q1 q2 q3 q4 q5 q6 q7 q8 e0
    obtain ⟨x0, x1, x2, x3, x4, x5, x6⟩ := cell7 kX
    obtain ⟨y0, y1, y2, y3, y4, y5, y6⟩ := cell7 kY
    clear kX kY
    refine wp_region_still_lit (by kernel_rfl) (by kernel_rfl) ?_
    repeat still_step
    refine wpStill_nil ?_
    go_wp2
    go_ret
    exact ⟨rfl, by repeat (first | with_reducible exact H9.out | with_reducible refine below_drew ?_)⟩
set_option maxHeartbeats 16000000 in
set_option maxRecDepth 100000 in
theorem ApartC (x y : XI) (c : Int) (w : World) (ht : Tab w) (hn : NB x) (hm : NB y) (hc : -9223372036854775808 ≤ c ∧ c ≤ 9223372036854775807) (h : right x = true) (g : right y = true) (t u : ByteArray) (t1 : 1 ≤ t.size) (t2 : t.size ≤ 10) (u1 : 1 ≤ u.size) (u2 : u.size ≤ 10)
    (hl : ¬ t.size ≤ u.size) (hs : 0 ≤ c) (q : Bool) (hq : ∀ W, (Op.equalIn 10000 23 (xv x) (xv y)).run Tryd.prog W = .ok q W) (hp : ∀ k, k = t.size ∨ k = u.size → ((t.extract 0 k).toList == (u.extract 0 k).toList) = q)
    (hT : ∀ W, Tab W → Calls Tryd.prog 16 #[xv x] W fun e w' => e = .returned (.tuple #[.string t, .int .i64 0]) ∧ Below W.heap.size W w')
    (hU : ∀ W, Tab W → Calls Tryd.prog 16 #[xv y] W fun e w' => e = .returned (.tuple #[.string u, .int .i64 0]) ∧ Below W.heap.size W w')
    (hD : ∀ k, k < t.size → ∀ W, Tab W → Calls Tryd.prog 20 #[.string (t.extract 0 k)] W fun e w' => e = .returned (.tuple #[xv ⟨0, false, 0, 0, 0, 0, 0⟩, .int .i64 0, .int .i64 6]) ∧ Below W.heap.size W w') :
    Calls Tryd.prog 6 #[xv x, xv y, .int .i64 c] w fun e w' => e = .returned (.bool true) ∧ Below w.heap.size w w' := by
  have hl2 : u.size ≤ t.size := by omega
  obtain ⟨k, hk, hkt⟩ : ∃ k : Nat, c % (t.size : Int) = k ∧ k < t.size := ⟨(c % (t.size : Int)).toNat, by have := Int.emod_nonneg c (show (t.size : Int) ≠ 0 by omega); omega, by have := Int.emod_lt_of_pos c (show (0 : Int) < t.size by omega); omega⟩
  have HX := Aside0.mk hT
  have HY := Aside0.mk hU
  have HD := Aside0.mk (hD k hkt)
  have HQ := Aside0.mk hq
  have HP := Aside0.mk (hp u.size (.inr rfl))
  have HK := Aside0.mk hk
  have HE := Aside0.mk (Examples ((w.alloc (xo x)).alloc (xo y)) (ht.below (below_alloc (below_alloc (Below.refl _ _) _) _)))
  have HT := Aside0.mk (ht.below (below_alloc (below_alloc (Below.refl w.heap.size w) (xo x)) (xo y)))
  have HB := Aside0.mk (below_alloc (below_alloc (Below.refl w.heap.size w) (xo x)) (xo y))
  clear hT hU hD hq hp ht hn hm h g hk
  obtain ⟨hc0, hc1⟩ := hc
  obtain ⟨o, wd, r, b, i, cc, n⟩ := x
  obtain ⟨o2, wd2, r2, b2, i2, c2, n2⟩ := y
  go_enter Tryd.func6, Tryd.ntmps6
  go_upto_region 2 with (go_at_call 15; (with_reducible refine HE.out.mono ?_); rintro e w1 ⟨rfl, hb⟩; have q := bcell hb; rw [World.size_alloc, World.size_alloc] at q; have l1 : w.heap.size + 1 < w1.heap.size := (by have := hb.size; simp at this; omega); have H1 := Aside0.mk (And.intro (HT.out.below hb) hb); clear hb; obtain ⟨q1, q2⟩ := q)
  go_upto_region 3 with (go_at_call 16; (with_reducible refine (HX.out _ H1.out.1).mono ?_); rintro e w2 ⟨rfl, hb⟩; have q := bcell hb; have l2 := Nat.lt_of_lt_of_le l1 hb.size; have H2 := Aside0.mk (And.intro (H1.out.1.below hb) (H1.out.2.trans (hb.mono H1.out.2.size))); clear hb; obtain ⟨q3, q4⟩ := q)
  go_upto_region 4 with (go_at_call 16; (with_reducible refine (HY.out _ H2.out.1).mono ?_); rintro e w3 ⟨rfl, hb⟩; have q := bcell hb; have l3 := Nat.lt_of_lt_of_le l2 hb.size; have H3 := Aside0.mk (And.intro (H2.out.1.below hb) (H2.out.2.trans (hb.mono H2.out.2.size))); clear hb; obtain ⟨q5, q6⟩ := q)
  have e0 := HK.out
  have z1 : ((t.size : Int) == 0) = false := beq_eq_false_iff_ne.mpr (by omega)
  have z2 : ((u.size : Int) == 0) = false := beq_eq_false_iff_ne.mpr (by omega)
  go_upto_region 12 with (go_at_call 20; (with_reducible refine (HD.out _ H3.out.1).mono ?_); rintro e w4 ⟨rfl, hb⟩; have q := bcell hb; have l4 := Nat.lt_of_lt_of_le l3 hb.size; have H4 := Aside0.mk (H3.out.2.trans (hb.mono H3.out.2.size)); clear hb; obtain ⟨q7, q8⟩ := q)
  have e1 := HQ.out
  have e2 := HP.out
  rw [ByteArray.extract_zero_size] at e2
  cases q
  all_goals
    obtain ⟨W9, hW9⟩ : ∃ W9, w4.alloc (xo ⟨0, false, 0, 0, 0, 0, 0⟩) = W9 := ⟨_, rfl⟩
    have kX := blk_alloc (blk_below (blk_alloc (blk_new w (xo ⟨o, wd, r, b, i, cc, n⟩)) (xo ⟨o2, wd2, r2, b2, i2, c2, n2⟩)) H4.out) (xo ⟨0, false, 0, 0, 0, 0, 0⟩)
    have kY := blk_alloc (blk_below (blk_new (w.alloc (xo ⟨o, wd, r, b, i, cc, n⟩)) (xo ⟨o2, wd2, r2, b2, i2, c2, n2⟩)) H4.out) (xo ⟨0, false, 0, 0, 0, 0, 0⟩)
    have kB := below_alloc (HB.out.trans (H4.out.mono (by simp; omega))) (xo ⟨0, false, 0, 0, 0, 0, 0⟩)
    rw [World.size_alloc] at kY
    rw [hW9] at kX kY kB ⊢
    have H9 := Aside0.mk kB
    clear hW9 kB q1 q2 q3 q4 q5 q6 q7 q8 e0
    obtain ⟨x0, x1, x2, x3, x4, x5, x6⟩ := cell7 kX
    obtain ⟨y0, y1, y2, y3, y4, y5, y6⟩ := cell7 kY
    clear kX kY
    refine wp_region_still_lit (by kernel_rfl) (by kernel_rfl) ?_
    repeat still_step
    refine wpStill_nil ?_
    go_wp2
    go_ret
    exact ⟨rfl, by repeat (first | with_reducible exact H9.out | with_reducible refine below_drew ?_)⟩
set_option maxHeartbeats 16000000 in
set_option maxRecDepth 100000 in
theorem ApartD (x y : XI) (c : Int) (w : World) (ht : Tab w) (hn : NB x) (hm : NB y) (hc : -9223372036854775808 ≤ c ∧ c ≤ 9223372036854775807) (h : right x = true) (g : right y = true) (t u : ByteArray) (t1 : 1 ≤ t.size) (t2 : t.size ≤ 10) (u1 : 1 ≤ u.size) (u2 : u.size ≤ 10)
    (hl : ¬ t.size ≤ u.size) (hs : c < 0) (q : Bool) (hq : ∀ W, (Op.equalIn 10000 23 (xv x) (xv y)).run Tryd.prog W = .ok q W) (hp : ∀ k, k = t.size ∨ k = u.size → ((t.extract 0 k).toList == (u.extract 0 k).toList) = q)
    (hT : ∀ W, Tab W → Calls Tryd.prog 16 #[xv x] W fun e w' => e = .returned (.tuple #[.string t, .int .i64 0]) ∧ Below W.heap.size W w')
    (hU : ∀ W, Tab W → Calls Tryd.prog 16 #[xv y] W fun e w' => e = .returned (.tuple #[.string u, .int .i64 0]) ∧ Below W.heap.size W w')
    (hD : ∀ k, k < t.size → ∀ W, Tab W → Calls Tryd.prog 20 #[.string (t.extract 0 k)] W fun e w' => e = .returned (.tuple #[xv ⟨0, false, 0, 0, 0, 0, 0⟩, .int .i64 0, .int .i64 6]) ∧ Below W.heap.size W w') :
    Calls Tryd.prog 6 #[xv x, xv y, .int .i64 c] w fun e w' => e = .returned (.bool true) ∧ Below w.heap.size w w' := by
  have hl2 : u.size ≤ t.size := by omega
  obtain ⟨k, hk, hkt⟩ : ∃ k : Nat, -((c + 1).tmod (t.size : Int)) = k ∧ k < t.size := by
    have e : -((c + 1).tmod (t.size : Int)) = (-(c + 1)) % (t.size : Int) := by rw [← Int.neg_tmod, Int.tmod_eq_emod_of_nonneg (by omega)]
    rw [e]
    exact ⟨((-(c + 1)) % (t.size : Int)).toNat, by have := Int.emod_nonneg (-(c + 1)) (show (t.size : Int) ≠ 0 by omega); omega, by have := Int.emod_lt_of_pos (-(c + 1)) (show (0 : Int) < t.size by omega); omega⟩
  have HX := Aside0.mk hT
  have HY := Aside0.mk hU
  have HD := Aside0.mk (hD k hkt)
  have HQ := Aside0.mk hq
  have HP := Aside0.mk (hp u.size (.inr rfl))
  have HK := Aside0.mk hk
  have HE := Aside0.mk (Examples ((w.alloc (xo x)).alloc (xo y)) (ht.below (below_alloc (below_alloc (Below.refl _ _) _) _)))
  have HT := Aside0.mk (ht.below (below_alloc (below_alloc (Below.refl w.heap.size w) (xo x)) (xo y)))
  have HB := Aside0.mk (below_alloc (below_alloc (Below.refl w.heap.size w) (xo x)) (xo y))
  clear hT hU hD hq hp ht hn hm h g hk
  obtain ⟨hc0, hc1⟩ := hc
  obtain ⟨o, wd, r, b, i, cc, n⟩ := x
  obtain ⟨o2, wd2, r2, b2, i2, c2, n2⟩ := y
  go_enter Tryd.func6, Tryd.ntmps6
  go_upto_region 2 with (go_at_call 15; (with_reducible refine HE.out.mono ?_); rintro e w1 ⟨rfl, hb⟩; have q := bcell hb; rw [World.size_alloc, World.size_alloc] at q; have l1 : w.heap.size + 1 < w1.heap.size := (by have := hb.size; simp at this; omega); have H1 := Aside0.mk (And.intro (HT.out.below hb) hb); clear hb; obtain ⟨q1, q2⟩ := q)
  go_upto_region 3 with (go_at_call 16; (with_reducible refine (HX.out _ H1.out.1).mono ?_); rintro e w2 ⟨rfl, hb⟩; have q := bcell hb; have l2 := Nat.lt_of_lt_of_le l1 hb.size; have H2 := Aside0.mk (And.intro (H1.out.1.below hb) (H1.out.2.trans (hb.mono H1.out.2.size))); clear hb; obtain ⟨q3, q4⟩ := q)
  go_upto_region 4 with (go_at_call 16; (with_reducible refine (HY.out _ H2.out.1).mono ?_); rintro e w3 ⟨rfl, hb⟩; have q := bcell hb; have l3 := Nat.lt_of_lt_of_le l2 hb.size; have H3 := Aside0.mk (And.intro (H2.out.1.below hb) (H2.out.2.trans (hb.mono H2.out.2.size))); clear hb; obtain ⟨q5, q6⟩ := q)
  have e0 := HK.out
  have z1 : ((t.size : Int) == 0) = false := beq_eq_false_iff_ne.mpr (by omega)
  have z2 : ((u.size : Int) == 0) = false := beq_eq_false_iff_ne.mpr (by omega)
  go_upto_region 12 with (go_at_call 20; (with_reducible refine (HD.out _ H3.out.1).mono ?_); rintro e w4 ⟨rfl, hb⟩; have q := bcell hb; have l4 := Nat.lt_of_lt_of_le l3 hb.size; have H4 := Aside0.mk (H3.out.2.trans (hb.mono H3.out.2.size)); clear hb; obtain ⟨q7, q8⟩ := q)
  have e1 := HQ.out
  have e2 := HP.out
  rw [ByteArray.extract_zero_size] at e2
  cases q
  all_goals
    obtain ⟨W9, hW9⟩ : ∃ W9, w4.alloc (xo ⟨0, false, 0, 0, 0, 0, 0⟩) = W9 := ⟨_, rfl⟩
    have kX := blk_alloc (blk_below (blk_alloc (blk_new w (xo ⟨o, wd, r, b, i, cc, n⟩)) (xo ⟨o2, wd2, r2, b2, i2, c2, n2⟩)) H4.out) (xo ⟨0, false, 0, 0, 0, 0, 0⟩)
    have kY := blk_alloc (blk_below (blk_new (w.alloc (xo ⟨o, wd, r, b, i, cc, n⟩)) (xo ⟨o2, wd2, r2, b2, i2, c2, n2⟩)) H4.out) (xo ⟨0, false, 0, 0, 0, 0, 0⟩)
    have kB := below_alloc (HB.out.trans (H4.out.mono (by simp; omega))) (xo ⟨0, false, 0, 0, 0, 0, 0⟩)
    rw [World.size_alloc] at kY
    rw [hW9] at kX kY kB ⊢
    have H9 := Aside0.mk kB
    clear hW9 kB q1 q2 q3 q4 q5 q6 q7 q8 e0
    obtain ⟨x0, x1, x2, x3, x4, x5, x6⟩ := cell7 kX
    obtain ⟨y0, y1, y2, y3, y4, y5, y6⟩ := cell7 kY
    clear kX kY
    refine wp_region_still_lit (by kernel_rfl) (by kernel_rfl) ?_
    repeat still_step
    refine wpStill_nil ?_
    go_wp2
    go_ret
    exact ⟨rfl, by repeat (first | with_reducible exact H9.out | with_reducible refine below_drew ?_)⟩
set_option maxHeartbeats 16000000 in
set_option maxRecDepth 100000 in
theorem ApartNo (x y : XI) (c : Int) (w : World) (ht : Tab w) (hn : NB x) (hm : NB y) (h : right x = false ∨ (right x = true ∧ right y = false)) :
    Calls Tryd.prog 6 #[xv x, xv y, .int .i64 c] w fun e w' => e = .returned (.bool true) ∧ Below w.heap.size w w' := by
  obtain ⟨t, e, hX, hd⟩ : ∃ (t : ByteArray) (e : Int), (∀ W, Tab W → Calls Tryd.prog 16 #[xv x] W fun e1 w' => e1 = .returned (.tuple #[.string t, .int .i64 e]) ∧ Below W.heap.size W w') ∧ (e = 4 ∨ (e = 0 ∧ right y = false)) := by
    rcases h with h | ⟨h, g⟩
    · exact ⟨_, _, fun W hW => Encode_no x W h hW hn, .inl rfl⟩
    · obtain ⟨t, -, -, -, hT, -⟩ := enc_way x hn h
      exact ⟨_, _, hT, .inr ⟨rfl, g⟩⟩
  obtain ⟨u, f, hY, hd2⟩ : ∃ (u : ByteArray) (f : Int), (∀ W, Tab W → Calls Tryd.prog 16 #[xv y] W fun e1 w' => e1 = .returned (.tuple #[.string u, .int .i64 f]) ∧ Below W.heap.size W w') ∧ (e = 4 ∨ (e = 0 ∧ f = 4)) := by
    cases g : right y with
    | false => exact ⟨_, _, fun W hW => Encode_no y W g hW hm, hd.imp id fun q => ⟨q.1, rfl⟩⟩
    | true =>
      obtain ⟨t, -, -, -, hT, -⟩ := enc_way y hm g
      refine ⟨_, _, hT, hd.imp id fun q => ?_⟩
      rw [g] at q
      exact absurd q.2 (by decide)
  have HX := Aside0.mk hX
  have HY := Aside0.mk hY
  have HE := Aside0.mk (Examples ((w.alloc (xo x)).alloc (xo y)) (ht.below (below_alloc (below_alloc (Below.refl _ _) _) _)))
  have HT := Aside0.mk (ht.below (below_alloc (below_alloc (Below.refl w.heap.size w) (xo x)) (xo y)))
  have HB := Aside0.mk (below_alloc (below_alloc (Below.refl w.heap.size w) (xo x)) (xo y))
  clear hX hY ht hn hm h
  obtain ⟨o, wd, r, b, i, cc, n⟩ := x
  obtain ⟨o2, wd2, r2, b2, i2, c2, n2⟩ := y
  clear hd
  rcases hd2 with rfl | ⟨rfl, rfl⟩
  all_goals
    go_enter Tryd.func6, Tryd.ntmps6
    go_upto_region 2 with (go_at_call 15; (with_reducible refine HE.out.mono ?_); rintro e w1 ⟨rfl, hb⟩; have q := bcell hb; rw [World.size_alloc, World.size_alloc] at q; have l1 : w.heap.size + 1 < w1.heap.size := (by have := hb.size; simp at this; omega); have H1 := Aside0.mk (And.intro (HT.out.below hb) hb); clear hb; obtain ⟨q1, q2⟩ := q)
    go_upto_region 3 with (go_at_call 16; (with_reducible refine (HX.out _ H1.out.1).mono ?_); rintro e w2 ⟨rfl, hb⟩; have q := bcell hb; have l2 := Nat.lt_of_lt_of_le l1 hb.size; have H2 := Aside0.mk (And.intro (H1.out.1.below hb) (H1.out.2.trans (hb.mono H1.out.2.size))); clear hb; obtain ⟨q3, q4⟩ := q)
    go_wp2_with (go_at_call 16; (with_reducible refine (HY.out _ H2.out.1).mono ?_); rintro e w3 ⟨rfl, hb⟩; have H3 := Aside0.mk (H2.out.2.trans (hb.mono H2.out.2.size)); clear hb)
    go_ret
    exact ⟨rfl, HB.out.trans (H3.out.mono (by simp; omega))⟩
theorem Apart (x y : XI) (c : Int) (w : World) (ht : Tab w) (hn : NB x) (hm : NB y) (hc : -9223372036854775808 ≤ c ∧ c ≤ 9223372036854775807) :
    Calls Tryd.prog 6 #[xv x, xv y, .int .i64 c] w fun e w' => e = .returned (.bool true) ∧ Below w.heap.size w w' := by
  by_cases h : right x = true
  · by_cases g : right y = true
    · obtain ⟨t, t1, t2, tb, hT, tD⟩ := enc_way x hn h
      obtain ⟨u, u1, u2, ub, hU, uD⟩ := enc_way y hm g
      have hD : ∀ k, k < t.size → ∀ W, Tab W → Calls Tryd.prog 20 #[.string (t.extract 0 k)] W fun e w' => e = .returned (.tuple #[xv ⟨0, false, 0, 0, 0, 0, 0⟩, .int .i64 0, .int .i64 6]) ∧ Below W.heap.size W w' := fun k hk W hW => by
        have hd := Decode (t.extract 0 k) W hW (by rw [ByteArray.size_extract]; omega)
        rwa [cut_none h hn tb k hk] at hd
      obtain ⟨q, hq, hp⟩ : ∃ q : Bool, (∀ W, (Op.equalIn 10000 23 (xv x) (xv y)).run Tryd.prog W = .ok q W) ∧ ∀ k, k = t.size ∨ k = u.size → ((t.extract 0 k).toList == (u.extract 0 k).toList) = q := by
        refine ⟨eqX x y, eqx x y, fun k hk => ?_⟩
        by_cases e : x = y
        · subst e
          have : t = u := bl_inj (by rw [tb, ub])
          subst this
          rw [beq_self_eq_true]
          exact ((eqX_iff x x).mpr rfl).symm
        · rw [beg_ne h g hn hm tb ub e k hk]
          exact (Bool.eq_false_iff.mpr fun c => e ((eqX_iff x y).mp c)).symm
      by_cases hl : t.size ≤ u.size <;> by_cases hs : 0 ≤ c
      · exact ApartA x y c w ht hn hm hc h g t u t1 t2 u1 u2 hl hs q hq hp hT hU hD
      · exact ApartB x y c w ht hn hm hc h g t u t1 t2 u1 u2 hl (by omega) q hq hp hT hU hD
      · exact ApartC x y c w ht hn hm hc h g t u t1 t2 u1 u2 hl hs q hq hp hT hU hD
      · exact ApartD x y c w ht hn hm hc h g t u t1 t2 u1 u2 hl (by omega) q hq hp hT hU hD
    · exact ApartNo x y c w ht hn hm (.inr ⟨h, Bool.eq_false_iff.mpr g⟩)
  · exact ApartNo x y c w ht hn hm (.inl (Bool.eq_false_iff.mpr h))
end Go.Proofs.YtkfinaongajhmaaDoor.X

/- XcodeBack: the walk. -/
import Derived.Test.YtkfinaongajhmaaDoorXWays
namespace Go.Proofs.YtkfinaongajhmaaDoor.X
open Go.Ob Go.Ob.Xc Go.RowKit Go.Proofs.YtkfinaongajhmaaDoorW.PrintWords Go.Proofs.YtkfinaongajhmaaDoorW.PrintMore
attribute [local go_sem] max2_int min2_int max_two min_two
set_option linter.unusedVariables false
set_option linter.unusedSimpArgs false
theorem cut_eq {s t : ByteArray} (h : s.extract 0 t.size = t) : t.toList = (s.extract 0 t.size).toList := by rw [h]
set_option maxHeartbeats 16000000 in
set_option maxRecDepth 100000 in
theorem BackYY (x : XI) (rest b : ByteArray) (w : World) (ht : Tab w) (hn : NB x) (hs : rest.size ≤ 140737488351232) (hs2 : b.size ≤ 140737488351232) (h : right x = true) (y : XI) (u : ByteArray) (hy : NB y) (u1 : 1 ≤ u.size) (u2 : u.size ≤ 10) (u3 : u.size ≤ b.size) (u4 : b.extract 0 u.size = u) (hA : decA (bl b) = .tuple #[xv y, .int .i64 u.size, .int .i64 0])
    (hU : ∀ W, Tab W → Calls Tryd.prog 16 #[xv y] W fun e w' => e = .returned (.tuple #[.string u, .int .i64 0]) ∧ Below W.heap.size W w') :
    Calls Tryd.prog 5 #[xv x, .string rest, .string b] w fun e w' => e = .returned (.bool true) ∧ Below w.heap.size w w' := by
  obtain ⟨t, t1, t2, tb, tE, tD⟩ := enc_way x hn h
  have HD := Aside0.mk (fun W (hW : Tab W) => Decode (t ++ rest) W hW (by rw [ByteArray.size_append]; omega))
  rw [tD rest] at HD
  have HR := Aside0.mk (fun W (hW : Tab W) => Right x W hW hn)
  rw [h] at HR
  have HQ := Aside0.mk (eqx x x)
  rw [show eqX x x = true from (eqX_iff x x).mpr rfl] at HQ
  clear tD tb
  have HB := Aside0.mk (fun W (hW : Tab W) => Decode b W hW (by omega))
  rw [hA] at HB
  have HN := Aside0.mk tE
  have HU := Aside0.mk hU
  have HV := Aside0.mk u4
  clear hU u4
  have HE := Aside0.mk (Examples (w.alloc (xo x)) (ht.below (below_alloc (Below.refl _ _) _)))
  have HT := Aside0.mk (ht.below (below_alloc (Below.refl _ _) (xo x)))
  clear tE hA hn ht h
  obtain ⟨o, wd, r, b_, i, c, n⟩ := x
  obtain ⟨o2, wd2, r2, b2, i2, c2, n2⟩ := y
  clear hy
  go_enter Tryd.func5, Tryd.ntmps5
  go_upto_region 2 with (go_at_call 15; (with_reducible refine HE.out.mono ?_); rintro e w1 ⟨rfl, hb⟩; have q := bcell hb; rw [World.size_alloc] at q; have l1 := lt_of1 hb; have H1 := Aside0.mk (And.intro (HT.out.below hb) ((below_alloc (Below.refl w.heap.size w) _).trans (hb.mono (by simp)))); clear hb; obtain ⟨q1, q2⟩ := q)
  go_upto_region 3 with (go_at_call 16; (with_reducible refine (HN.out _ H1.out.1).mono ?_); rintro e w2 ⟨rfl, hb⟩; have q := bcell hb; have l2 := Nat.lt_of_lt_of_le l1 hb.size; have H2 := Aside0.mk (And.intro (H1.out.1.below hb) (H1.out.2.trans (hb.mono H1.out.2.size))); clear hb; obtain ⟨q3, q4⟩ := q)
  go_upto_region 5 with (go_at_call 20; (with_reducible refine (HD.out _ H2.out.1).mono ?_); rintro e w3 ⟨rfl, hb⟩; have q := bcell hb; have l3 := Nat.lt_of_lt_of_le l2 hb.size; have H3 := Aside0.mk (And.intro (H2.out.1.below hb) (H2.out.2.trans (hb.mono H2.out.2.size))); clear hb; obtain ⟨q5, q6⟩ := q)
  have e1 := HQ.out
  go_upto_region 7 with (go_at_call 18; (with_reducible refine (HR.out _ (H3.out.1.below (below_alloc (Below.refl _ _) _))).mono ?_); rintro e w4 ⟨rfl, hb⟩; have q := bcell hb; rw [World.size_alloc] at q; have l4 := Nat.lt_trans l3 (lt_of1 hb); have H4 := Aside0.mk (And.intro ((H3.out.1.below (below_alloc (Below.refl _ _) _)).below hb) ((below_alloc H3.out.2 _).trans (hb.mono (by simp; omega)))); clear hb; obtain ⟨q7, q8⟩ := q)
  go_upto_region 8 with (go_at_call 20; (with_reducible refine (HB.out _ H4.out.1).mono ?_); rintro e w5 ⟨rfl, hb⟩; have q := bcell hb; have l5 := Nat.lt_of_lt_of_le l4 hb.size; have H5 := Aside0.mk (And.intro (H4.out.1.below hb) (H4.out.2.trans (hb.mono H4.out.2.size))); clear hb; obtain ⟨q9, q10⟩ := q)
  go_upto_region 11 with (go_at_call 16; (with_reducible refine (HU.out _ (H5.out.1.below (below_alloc (Below.refl _ _) _))).mono ?_); rintro e w6 ⟨rfl, hb⟩; have q := bcell hb; rw [World.size_alloc] at q; have H6 := Aside0.mk ((below_alloc H5.out.2 _).trans (hb.mono (by have := H5.out.2.size; simp; omega))); clear hb; obtain ⟨q11, q12⟩ := q)
  have e2 := HV.out
  go_wp2
  go_ret
  exact ⟨by first | rfl | simp, H6.out⟩
set_option maxHeartbeats 16000000 in
set_option maxRecDepth 100000 in
theorem BackYN (x : XI) (rest b : ByteArray) (w : World) (ht : Tab w) (hn : NB x) (hs : rest.size ≤ 140737488351232) (hs2 : b.size ≤ 140737488351232) (h : right x = true) (hA : decA (bl b) = .tuple #[xv ⟨0, false, 0, 0, 0, 0, 0⟩, .int .i64 0, .int .i64 6]) :
    Calls Tryd.prog 5 #[xv x, .string rest, .string b] w fun e w' => e = .returned (.bool true) ∧ Below w.heap.size w w' := by
  obtain ⟨t, t1, t2, tb, tE, tD⟩ := enc_way x hn h
  have HD := Aside0.mk (fun W (hW : Tab W) => Decode (t ++ rest) W hW (by rw [ByteArray.size_append]; omega))
  rw [tD rest] at HD
  have HR := Aside0.mk (fun W (hW : Tab W) => Right x W hW hn)
  rw [h] at HR
  have HQ := Aside0.mk (eqx x x)
  rw [show eqX x x = true from (eqX_iff x x).mpr rfl] at HQ
  clear tD tb
  have HB := Aside0.mk (fun W (hW : Tab W) => Decode b W hW (by omega))
  rw [hA] at HB
  have HN := Aside0.mk tE
  have HQ0 := Aside0.mk (eqx ⟨0, false, 0, 0, 0, 0, 0⟩ ⟨0, false, 0, 0, 0, 0, 0⟩)
  rw [show eqX ⟨0, false, 0, 0, 0, 0, 0⟩ ⟨0, false, 0, 0, 0, 0, 0⟩ = true from rfl] at HQ0
  have HE := Aside0.mk (Examples (w.alloc (xo x)) (ht.below (below_alloc (Below.refl _ _) _)))
  have HT := Aside0.mk (ht.below (below_alloc (Below.refl _ _) (xo x)))
  clear tE hA hn ht h
  obtain ⟨o, wd, r, b_, i, c, n⟩ := x
  go_enter Tryd.func5, Tryd.ntmps5
  go_upto_region 2 with (go_at_call 15; (with_reducible refine HE.out.mono ?_); rintro e w1 ⟨rfl, hb⟩; have q := bcell hb; rw [World.size_alloc] at q; have l1 := lt_of1 hb; have H1 := Aside0.mk (And.intro (HT.out.below hb) ((below_alloc (Below.refl w.heap.size w) _).trans (hb.mono (by simp)))); clear hb; obtain ⟨q1, q2⟩ := q)
  go_upto_region 3 with (go_at_call 16; (with_reducible refine (HN.out _ H1.out.1).mono ?_); rintro e w2 ⟨rfl, hb⟩; have q := bcell hb; have l2 := Nat.lt_of_lt_of_le l1 hb.size; have H2 := Aside0.mk (And.intro (H1.out.1.below hb) (H1.out.2.trans (hb.mono H1.out.2.size))); clear hb; obtain ⟨q3, q4⟩ := q)
  go_upto_region 5 with (go_at_call 20; (with_reducible refine (HD.out _ H2.out.1).mono ?_); rintro e w3 ⟨rfl, hb⟩; have q := bcell hb; have l3 := Nat.lt_of_lt_of_le l2 hb.size; have H3 := Aside0.mk (And.intro (H2.out.1.below hb) (H2.out.2.trans (hb.mono H2.out.2.size))); clear hb; obtain ⟨q5, q6⟩ := q)
  have e1 := HQ.out
  go_upto_region 7 with (go_at_call 18; (with_reducible refine (HR.out _ (H3.out.1.below (below_alloc (Below.refl _ _) _))).mono ?_); rintro e w4 ⟨rfl, hb⟩; have q := bcell hb; rw [World.size_alloc] at q; have l4 := Nat.lt_trans l3 (lt_of1 hb); have H4 := Aside0.mk (And.intro ((H3.out.1.below (below_alloc (Below.refl _ _) _)).below hb) ((below_alloc H3.out.2 _).trans (hb.mono (by simp; omega)))); clear hb; obtain ⟨q7, q8⟩ := q)
  go_upto_region 8 with (go_at_call 20; (with_reducible refine (HB.out _ H4.out.1).mono ?_); rintro e w5 ⟨rfl, hb⟩; have q := bcell hb; have l5 := Nat.lt_of_lt_of_le l4 hb.size; have H5 := Aside0.mk (And.intro (H4.out.1.below hb) (H4.out.2.trans (hb.mono H4.out.2.size))); clear hb; obtain ⟨q9, q10⟩ := q)
  have e2 := HQ0.out
  go_wp2
  go_ret
  exact ⟨by first | rfl | simp, below_alloc H5.out.2 _⟩
set_option maxHeartbeats 16000000 in
set_option maxRecDepth 100000 in
theorem BackNY (x : XI) (rest b : ByteArray) (w : World) (ht : Tab w) (hn : NB x) (hs : rest.size ≤ 140737488351232) (hs2 : b.size ≤ 140737488351232) (h : right x = false) (y : XI) (u : ByteArray) (hy : NB y) (u1 : 1 ≤ u.size) (u2 : u.size ≤ 10) (u3 : u.size ≤ b.size) (u4 : b.extract 0 u.size = u) (hA : decA (bl b) = .tuple #[xv y, .int .i64 u.size, .int .i64 0])
    (hU : ∀ W, Tab W → Calls Tryd.prog 16 #[xv y] W fun e w' => e = .returned (.tuple #[.string u, .int .i64 0]) ∧ Below W.heap.size W w') :
    Calls Tryd.prog 5 #[xv x, .string rest, .string b] w fun e w' => e = .returned (.bool true) ∧ Below w.heap.size w w' := by
  have tE := fun W (hW : Tab W) => Encode_no x W h hW hn
  have HB := Aside0.mk (fun W (hW : Tab W) => Decode b W hW (by omega))
  rw [hA] at HB
  have HN := Aside0.mk tE
  have HU := Aside0.mk hU
  have HV := Aside0.mk u4
  clear hU u4
  have HE := Aside0.mk (Examples (w.alloc (xo x)) (ht.below (below_alloc (Below.refl _ _) _)))
  have HT := Aside0.mk (ht.below (below_alloc (Below.refl _ _) (xo x)))
  clear tE hA hn ht h
  obtain ⟨o, wd, r, b_, i, c, n⟩ := x
  obtain ⟨o2, wd2, r2, b2, i2, c2, n2⟩ := y
  clear hy
  go_enter Tryd.func5, Tryd.ntmps5
  go_upto_region 2 with (go_at_call 15; (with_reducible refine HE.out.mono ?_); rintro e w1 ⟨rfl, hb⟩; have q := bcell hb; rw [World.size_alloc] at q; have l1 := lt_of1 hb; have H1 := Aside0.mk (And.intro (HT.out.below hb) ((below_alloc (Below.refl w.heap.size w) _).trans (hb.mono (by simp)))); clear hb; obtain ⟨q1, q2⟩ := q)
  go_upto_region 3 with (go_at_call 16; (with_reducible refine (HN.out _ H1.out.1).mono ?_); rintro e w2 ⟨rfl, hb⟩; have q := bcell hb; have l2 := Nat.lt_of_lt_of_le l1 hb.size; have H2 := Aside0.mk (And.intro (H1.out.1.below hb) (H1.out.2.trans (hb.mono H1.out.2.size))); clear hb; obtain ⟨q3, q4⟩ := q)
  go_upto_region 8 with (go_at_call 20; (with_reducible refine (HB.out _ H2.out.1).mono ?_); rintro e w5 ⟨rfl, hb⟩; have q := bcell hb; have l5 := Nat.lt_of_lt_of_le l2 hb.size; have H5 := Aside0.mk (And.intro (H2.out.1.below hb) (H2.out.2.trans (hb.mono H2.out.2.size))); clear hb; obtain ⟨q9, q10⟩ := q)
  go_upto_region 11 with (go_at_call 16; (with_reducible refine (HU.out _ (H5.out.1.below (below_alloc (Below.refl _ _) _))).mono ?_); rintro e w6 ⟨rfl, hb⟩; have q := bcell hb; rw [World.size_alloc] at q; have H6 := Aside0.mk ((below_alloc H5.out.2 _).trans (hb.mono (by have := H5.out.2.size; simp; omega))); clear hb; obtain ⟨q11, q12⟩ := q)
  have e2 := HV.out
  go_wp2
  go_ret
  exact ⟨by first | rfl | simp, H6.out⟩
set_option maxHeartbeats 16000000 in
set_option maxRecDepth 100000 in
theorem BackNN (x : XI) (rest b : ByteArray) (w : World) (ht : Tab w) (hn : NB x) (hs : rest.size ≤ 140737488351232) (hs2 : b.size ≤ 140737488351232) (h : right x = false) (hA : decA (bl b) = .tuple #[xv ⟨0, false, 0, 0, 0, 0, 0⟩, .int .i64 0, .int .i64 6]) :
    Calls Tryd.prog 5 #[xv x, .string rest, .string b] w fun e w' => e = .returned (.bool true) ∧ Below w.heap.size w w' := by
  have tE := fun W (hW : Tab W) => Encode_no x W h hW hn
  have HB := Aside0.mk (fun W (hW : Tab W) => Decode b W hW (by omega))
  rw [hA] at HB
  have HN := Aside0.mk tE
  have HQ0 := Aside0.mk (eqx ⟨0, false, 0, 0, 0, 0, 0⟩ ⟨0, false, 0, 0, 0, 0, 0⟩)
  rw [show eqX ⟨0, false, 0, 0, 0, 0, 0⟩ ⟨0, false, 0, 0, 0, 0, 0⟩ = true from rfl] at HQ0
  have HE := Aside0.mk (Examples (w.alloc (xo x)) (ht.below (below_alloc (Below.refl _ _) _)))
  have HT := Aside0.mk (ht.below (below_alloc (Below.refl _ _) (xo x)))
  clear tE hA hn ht h
  obtain ⟨o, wd, r, b_, i, c, n⟩ := x
  go_enter Tryd.func5, Tryd.ntmps5
  go_upto_region 2 with (go_at_call 15; (with_reducible refine HE.out.mono ?_); rintro e w1 ⟨rfl, hb⟩; have q := bcell hb; rw [World.size_alloc] at q; have l1 := lt_of1 hb; have H1 := Aside0.mk (And.intro (HT.out.below hb) ((below_alloc (Below.refl w.heap.size w) _).trans (hb.mono (by simp)))); clear hb; obtain ⟨q1, q2⟩ := q)
  go_upto_region 3 with (go_at_call 16; (with_reducible refine (HN.out _ H1.out.1).mono ?_); rintro e w2 ⟨rfl, hb⟩; have q := bcell hb; have l2 := Nat.lt_of_lt_of_le l1 hb.size; have H2 := Aside0.mk (And.intro (H1.out.1.below hb) (H1.out.2.trans (hb.mono H1.out.2.size))); clear hb; obtain ⟨q3, q4⟩ := q)
  go_upto_region 8 with (go_at_call 20; (with_reducible refine (HB.out _ H2.out.1).mono ?_); rintro e w5 ⟨rfl, hb⟩; have q := bcell hb; have l5 := Nat.lt_of_lt_of_le l2 hb.size; have H5 := Aside0.mk (And.intro (H2.out.1.below hb) (H2.out.2.trans (hb.mono H2.out.2.size))); clear hb; obtain ⟨q9, q10⟩ := q)
  have e2 := HQ0.out
  go_wp2
  go_ret
  exact ⟨by first | rfl | simp, below_alloc H5.out.2 _⟩
theorem Back (x : XI) (rest b : ByteArray) (w : World) (ht : Tab w) (hn : NB x) (hs : rest.size ≤ 140737488351232) (hs2 : b.size ≤ 140737488351232) :
    Calls Tryd.prog 5 #[xv x, .string rest, .string b] w fun e w' => e = .returned (.bool true) ∧ Below w.heap.size w w' := by
  by_cases h : right x = true
  · rcases dec_way b with hA | ⟨y, u, hy, _, _, u1, u2, u3, u4, hA, hU⟩
    · exact BackYN x rest b w ht hn hs hs2 h hA
    · exact BackYY x rest b w ht hn hs hs2 h y u hy u1 u2 u3 u4 hA hU
  · rcases dec_way b with hA | ⟨y, u, hy, _, _, u1, u2, u3, u4, hA, hU⟩
    · exact BackNN x rest b w ht hn hs hs2 (Bool.eq_false_iff.mpr h) hA
    · exact BackNY x rest b w ht hn hs hs2 (Bool.eq_false_iff.mpr h) y u hy u1 u2 u3 u4 hA hU
end Go.Proofs.YtkfinaongajhmaaDoor.X

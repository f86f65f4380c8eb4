/- The examples of chapter 11: what the law's examples compute. -/
import Derived.Test.YtkfinaongajhmaaDoorXDecode
namespace Go.Proofs.YtkfinaongajhmaaDoor.X
open Go.Ob Go.Ob.Xc Go.RowKit Go.Proofs.YtkfinaongajhmaaDoorW.PrintWords Go.Proofs.YtkfinaongajhmaaDoorW.PrintMore
attribute [local go_sem] max2_int min2_int max_two min_two
set_option linter.unusedVariables false
set_option linter.unusedSimpArgs false
theorem ex1 : strOfNums (enc ⟨1, true, 0, 3, 0, 0, 0⟩) = ⟨#[72, 137, 195]⟩ := by decide +kernel
theorem ex2 : strOfNums (enc ⟨4, true, 0, 4, 0, 5, 16⟩) = ⟨#[72, 129, 236, 16, 0, 0, 0]⟩ := by decide +kernel
theorem ex3 : strOfNums (enc ⟨11, false, 0, 15, 0, 0, 8⟩) = ⟨#[65, 139, 132, 39, 8, 0, 0, 0]⟩ := by decide +kernel
theorem ex4 : decA (bl ⟨#[195, 195]⟩) = .tuple #[xv ⟨20, false, 0, 0, 0, 0, 0⟩, .int .i64 1, .int .i64 0] := by
  have e : bl ⟨#[195, 195]⟩ = enc ⟨20, false, 0, 0, 0, 0, 0⟩ ++ [195] := by decide +kernel
  unfold decA
  rw [e, dec_enc _ _ (by decide) (by decide)]
  rfl
set_option maxHeartbeats 16000000 in
set_option maxRecDepth 100000 in
theorem Examples (w : World) (ht : Tab w) :
    Calls Tryd.prog 15 #[] w fun e w' => e = .returned (.bool true) ∧ Below w.heap.size w w' := by
  have E1 : ∀ W, Tab W → Calls Tryd.prog 16 #[.agg #[.int .i64 1, .bool true, .int .i64 0, .int .i64 3, .int .i64 0, .int .i64 0, .int .i64 0]] W fun e w' => e = .returned (.tuple #[.string ⟨#[72, 137, 195]⟩, .int .i64 0]) ∧ Below W.heap.size W w' := fun W h => by
    have h2 := Encode_ok ⟨1, true, 0, 3, 0, 0, 0⟩ W (by decide) h (by decide)
    rw [ex1] at h2
    exact h2
  have E2 : ∀ W, Tab W → Calls Tryd.prog 16 #[.agg #[.int .i64 4, .bool true, .int .i64 0, .int .i64 4, .int .i64 0, .int .i64 5, .int .i64 16]] W fun e w' => e = .returned (.tuple #[.string ⟨#[72, 129, 236, 16, 0, 0, 0]⟩, .int .i64 0]) ∧ Below W.heap.size W w' := fun W h => by
    have h2 := Encode_ok ⟨4, true, 0, 4, 0, 5, 16⟩ W (by decide) h (by decide)
    rw [ex2] at h2
    exact h2
  have E3 : ∀ W, Tab W → Calls Tryd.prog 16 #[.agg #[.int .i64 11, .bool false, .int .i64 0, .int .i64 15, .int .i64 0, .int .i64 0, .int .i64 8]] W fun e w' => e = .returned (.tuple #[.string ⟨#[65, 139, 132, 39, 8, 0, 0, 0]⟩, .int .i64 0]) ∧ Below W.heap.size W w' := fun W h => by
    have h2 := Encode_ok ⟨11, false, 0, 15, 0, 0, 8⟩ W (by decide) h (by decide)
    rw [ex3] at h2
    exact h2
  have D1 : ∀ W, Tab W → Calls Tryd.prog 20 #[.string ⟨#[195, 195]⟩] W fun e w' => e = .returned (.tuple #[.agg #[.int .i64 20, .bool false, .int .i64 0, .int .i64 0, .int .i64 0, .int .i64 0, .int .i64 0], .int .i64 1, .int .i64 0]) ∧ Below W.heap.size W w' := fun W h => by
    have h2 := Decode ⟨#[195, 195]⟩ W h (by decide)
    rw [ex4] at h2
    exact h2
  have HC := Aside0.mk (And.intro E1 (And.intro E2 (And.intro E3 D1)))
  have HT := Aside0.mk ht
  clear E1 E2 E3 D1 ht
  go_enter Tryd.func15, Tryd.ntmps15
  go_upto_region 2 with (go_at_call 16; (with_reducible refine (HC.out.1 _ HT.out).mono ?_); rintro e w1 ⟨rfl, hb⟩; have H1 := Aside0.mk (And.intro (HT.out.below hb) hb); clear hb)
  go_upto_region 3 with (go_at_call 16; (with_reducible refine (HC.out.2.1 _ H1.out.1).mono ?_); rintro e w2 ⟨rfl, hb⟩; have H2 := Aside0.mk (And.intro (H1.out.1.below hb) (H1.out.2.trans (hb.mono H1.out.2.size))); clear hb)
  go_upto_region 4 with (go_at_call 16; (with_reducible refine (HC.out.2.2.1 _ H2.out.1).mono ?_); rintro e w3 ⟨rfl, hb⟩; have H3 := Aside0.mk (And.intro (H2.out.1.below hb) (H2.out.2.trans (hb.mono H2.out.2.size))); clear hb)
  go_upto_region 5 with (go_at_call 20; (with_reducible refine (HC.out.2.2.2 _ H3.out.1).mono ?_); rintro e w4 ⟨rfl, hb⟩; have H4 := Aside0.mk (H3.out.2.trans (hb.mono H3.out.2.size)); clear hb)
  have hq : ∀ W, (Op.equalIn 10000 23 (.agg #[.int .i64 20, .bool false, .int .i64 0, .int .i64 0, .int .i64 0, .int .i64 0, .int .i64 0]) (.agg #[.int .i64 20, .bool false, .int .i64 0, .int .i64 0, .int .i64 0, .int .i64 0, .int .i64 0])).run Tryd.prog W = .ok true W := fun W => eqx ⟨20, false, 0, 0, 0, 0, 0⟩ ⟨20, false, 0, 0, 0, 0, 0⟩ W
  go_wp2
  go_ret
  exact ⟨rfl, below_alloc H4.out _⟩
end Go.Proofs.YtkfinaongajhmaaDoor.X
/- XcodeFields: what an instruction does not have must be nought. -/
namespace Go.Ob.Xc
theorem right_r {o : Int} {wd : Bool} {b i c n : Int} : right ⟨o, wd, 16, b, i, c, n⟩ = false := by
  rw [Bool.eq_false_iff]
  intro h
  have hc := right_cases h
  simp [reg_iff] at hc
theorem right_b {o : Int} {wd : Bool} {r i c n : Int} : right ⟨o, wd, r, -1, i, c, n⟩ = false := by
  rw [Bool.eq_false_iff]
  intro h
  have hc := right_cases h
  simp [reg_iff] at hc
theorem right_i {o : Int} {wd : Bool} {r b c n : Int} : right ⟨o, wd, r, b, 5, c, n⟩ = false := by
  rw [Bool.eq_false_iff]
  intro h
  have hc := right_cases h
  simp [idx] at hc
theorem right_o {wd : Bool} {r b i c n : Int} : right ⟨24, wd, r, b, i, c, n⟩ = false := by
  rw [Bool.eq_false_iff]
  intro h
  have hc := right_cases h
  simp at hc
end Go.Ob.Xc
namespace Go.Proofs.YtkfinaongajhmaaDoor.X
open Go.Ob Go.Ob.Xc Go.RowKit Go.Proofs.YtkfinaongajhmaaDoorW.PrintWords Go.Proofs.YtkfinaongajhmaaDoorW.PrintMore
attribute [local go_sem] max2_int min2_int max_two min_two
set_option linter.unusedVariables false
set_option linter.unusedSimpArgs false
set_option maxHeartbeats 16000000 in
set_option maxRecDepth 100000 in
theorem FieldsNo (x : XI) (k : Int) (w : World) (ht : Tab w) (hn : -9223372036854775808 ≤ x.n ∧ x.n ≤ 9223372036854775807) (h : right x = false) :
    Calls Tryd.prog 7 #[xv x, .int .i64 k] w fun e w' => e = .returned (.bool true) ∧ Below w.heap.size w w' := by
  obtain ⟨o, wd, r, b, i, c, n⟩ := x
  have HE := Aside0.mk (Examples (w.alloc (xo ⟨o, wd, r, b, i, c, n⟩)) (ht.below (below_alloc (Below.refl _ _) _)))
  have HR := Aside0.mk (fun W (hW : Tab W) => Right ⟨o, wd, r, b, i, c, n⟩ W hW hn)
  rw [h] at HR
  have HT := Aside0.mk (ht.below (below_alloc (Below.refl _ _) (xo ⟨o, wd, r, b, i, c, n⟩)))
  clear ht hn h
  go_enter Tryd.func7, Tryd.ntmps7
  go_upto_region 2 with (go_at_call 15; (with_reducible refine HE.out.mono ?_); rintro e w1 ⟨rfl, hb⟩; have q := bcell hb; rw [World.size_alloc] at q; have H1 := Aside0.mk (And.intro (HT.out.below hb) hb); clear hb; obtain ⟨q1, q2⟩ := q)
  go_wp2_with (go_at_call 18; refine (HR.out _ H1.out.1).mono ?_; rintro e w2 ⟨rfl, hb⟩; have H2 := Aside0.mk hb; clear hb)
  go_ret
  exact ⟨rfl, (below_alloc (Below.refl w.heap.size w) _).trans ((H1.out.2.mono (by simp)).trans (H2.out.mono (by have := H1.out.2.size; simp at this; omega)))⟩
end Go.Proofs.YtkfinaongajhmaaDoor.X
/- XcodeFields: an instruction with another field is none: the walk. Printed by genfields.py. -/
namespace Go.Proofs.YtkfinaongajhmaaDoor.X
open Go.Ob Go.Ob.Xc Go.RowKit Go.Proofs.YtkfinaongajhmaaDoorW.PrintWords Go.Proofs.YtkfinaongajhmaaDoorW.PrintMore
attribute [local go_sem] max2_int min2_int max_two min_two
set_option linter.unusedVariables false
set_option linter.unusedSimpArgs false
theorem bel3 {w w1 w2 w3 : World} {o o2 : Obj} (h1 : Below (w.alloc o).heap.size (w.alloc o) w1) (h2 : Below w1.heap.size w1 w2) (h3 : Below (w2.alloc o2).heap.size (w2.alloc o2) w3) : Below w.heap.size w w3 := by
  have hl : w.heap.size < w1.heap.size := by have := h1.size; simp at this; omega
  have hl2 : w1.heap.size ≤ w2.heap.size := h2.size
  have b2 : Below w.heap.size w w2 := ((below_alloc (Below.refl w.heap.size w) _).trans (h1.mono (by simp))).trans (h2.mono (Nat.le_of_lt hl))
  exact (below_alloc b2 _).trans (h3.mono (by simp; omega))
theorem lt_of1 {w w1 : World} {o : Obj} (hb : Below (w.alloc o).heap.size (w.alloc o) w1) : w.heap.size < w1.heap.size := by have := hb.size; simp at this; omega
set_option maxHeartbeats 16000000 in
set_option maxRecDepth 100000 in
theorem FieldsP0 (x : XI) (k : Int) (w : World) (ht : Tab w) (hn : NB x) (h : right x = true) (hk : -9223372036854775808 ≤ k ∧ k ≤ 9223372036854775807) (h4 : k % 4 = 0) (h0 : 0 ≤ k) :
    Calls Tryd.prog 7 #[xv x, .int .i64 k] w fun e w' => e = .returned (.bool true) ∧ Below w.heap.size w w' := by
  obtain ⟨o, wd, r, b, i, c, n⟩ := x
  have HE := Aside0.mk (Examples (w.alloc (xo ⟨o, wd, r, b, i, c, n⟩)) (ht.below (below_alloc (Below.refl _ _) _)))
  have HR := Aside0.mk (fun W (hW : Tab W) => Right ⟨o, wd, r, b, i, c, n⟩ W hW hn)
  have HY := Aside0.mk (fun W (hW : Tab W) => Right ⟨o, wd, 16, b, i, c, n⟩ W hW hn)
  rw [h] at HR
  rw [right_r] at HY
  have HT := Aside0.mk (ht.below (below_alloc (Below.refl _ _) (xo ⟨o, wd, r, b, i, c, n⟩)))
  clear ht hn h
  obtain ⟨hk0, hk1⟩ := hk
  have e0 : (k % 4 == 0) = true := beq_iff_eq.mpr h4
  go_enter Tryd.func7, Tryd.ntmps7
  go_upto_region 2 with (go_at_call 15; (with_reducible refine HE.out.mono ?_); rintro e w1 ⟨rfl, hb⟩; have q := bcell hb; rw [World.size_alloc] at q; have hl1 := lt_of1 hb; have H1 := Aside0.mk (And.intro (HT.out.below hb) hb); clear hb; obtain ⟨q1, q2⟩ := q)
  go_upto_region 15 with (go_at_call 18; refine (HR.out _ H1.out.1).mono ?_; rintro e w2 ⟨rfl, hb⟩; have p := bcell hb; have hl2 := Nat.lt_of_lt_of_le hl1 hb.size; have H2 := Aside0.mk (And.intro (H1.out.1.below hb) hb); clear hb; obtain ⟨p1, p2⟩ := p)
  go_wp2_with (go_at_call 18; refine (HY.out _ (H2.out.1.below (below_alloc (Below.refl _ _) _))).mono ?_; rintro e w3 ⟨rfl, hb⟩; have H3 := Aside0.mk hb; clear hb)
  go_ret
  exact ⟨rfl, bel3 H1.out.2 H2.out.2 H3.out⟩
set_option maxHeartbeats 16000000 in
set_option maxRecDepth 100000 in
theorem FieldsP1 (x : XI) (k : Int) (w : World) (ht : Tab w) (hn : NB x) (h : right x = true) (hk : -9223372036854775808 ≤ k ∧ k ≤ 9223372036854775807) (h4 : k % 4 = 1) (h0 : 0 ≤ k) :
    Calls Tryd.prog 7 #[xv x, .int .i64 k] w fun e w' => e = .returned (.bool true) ∧ Below w.heap.size w w' := by
  obtain ⟨o, wd, r, b, i, c, n⟩ := x
  have HE := Aside0.mk (Examples (w.alloc (xo ⟨o, wd, r, b, i, c, n⟩)) (ht.below (below_alloc (Below.refl _ _) _)))
  have HR := Aside0.mk (fun W (hW : Tab W) => Right ⟨o, wd, r, b, i, c, n⟩ W hW hn)
  have HY := Aside0.mk (fun W (hW : Tab W) => Right ⟨o, wd, r, -1, i, c, n⟩ W hW hn)
  rw [h] at HR
  rw [right_b] at HY
  have HT := Aside0.mk (ht.below (below_alloc (Below.refl _ _) (xo ⟨o, wd, r, b, i, c, n⟩)))
  clear ht hn h
  obtain ⟨hk0, hk1⟩ := hk
  have e0 : (k % 4 == 0) = false := beq_eq_false_iff_ne.mpr (by omega)
  have e1 : (k % 4 == 1) = true := beq_iff_eq.mpr h4
  go_enter Tryd.func7, Tryd.ntmps7
  go_upto_region 2 with (go_at_call 15; (with_reducible refine HE.out.mono ?_); rintro e w1 ⟨rfl, hb⟩; have q := bcell hb; rw [World.size_alloc] at q; have hl1 := lt_of1 hb; have H1 := Aside0.mk (And.intro (HT.out.below hb) hb); clear hb; obtain ⟨q1, q2⟩ := q)
  go_upto_region 15 with (go_at_call 18; refine (HR.out _ H1.out.1).mono ?_; rintro e w2 ⟨rfl, hb⟩; have p := bcell hb; have hl2 := Nat.lt_of_lt_of_le hl1 hb.size; have H2 := Aside0.mk (And.intro (H1.out.1.below hb) hb); clear hb; obtain ⟨p1, p2⟩ := p)
  go_wp2_with (go_at_call 18; refine (HY.out _ (H2.out.1.below (below_alloc (Below.refl _ _) _))).mono ?_; rintro e w3 ⟨rfl, hb⟩; have H3 := Aside0.mk hb; clear hb)
  go_ret
  exact ⟨rfl, bel3 H1.out.2 H2.out.2 H3.out⟩
set_option maxHeartbeats 16000000 in
set_option maxRecDepth 100000 in
theorem FieldsP2 (x : XI) (k : Int) (w : World) (ht : Tab w) (hn : NB x) (h : right x = true) (hk : -9223372036854775808 ≤ k ∧ k ≤ 9223372036854775807) (h4 : k % 4 = 2) (h0 : 0 ≤ k) :
    Calls Tryd.prog 7 #[xv x, .int .i64 k] w fun e w' => e = .returned (.bool true) ∧ Below w.heap.size w w' := by
  obtain ⟨o, wd, r, b, i, c, n⟩ := x
  have HE := Aside0.mk (Examples (w.alloc (xo ⟨o, wd, r, b, i, c, n⟩)) (ht.below (below_alloc (Below.refl _ _) _)))
  have HR := Aside0.mk (fun W (hW : Tab W) => Right ⟨o, wd, r, b, i, c, n⟩ W hW hn)
  have HY := Aside0.mk (fun W (hW : Tab W) => Right ⟨o, wd, r, b, 5, c, n⟩ W hW hn)
  rw [h] at HR
  rw [right_i] at HY
  have HT := Aside0.mk (ht.below (below_alloc (Below.refl _ _) (xo ⟨o, wd, r, b, i, c, n⟩)))
  clear ht hn h
  obtain ⟨hk0, hk1⟩ := hk
  have e0 : (k % 4 == 0) = false := beq_eq_false_iff_ne.mpr (by omega)
  have e1 : (k % 4 == 1) = false := beq_eq_false_iff_ne.mpr (by omega)
  have e2 : (k % 4 == 2) = true := beq_iff_eq.mpr h4
  go_enter Tryd.func7, Tryd.ntmps7
  go_upto_region 2 with (go_at_call 15; (with_reducible refine HE.out.mono ?_); rintro e w1 ⟨rfl, hb⟩; have q := bcell hb; rw [World.size_alloc] at q; have hl1 := lt_of1 hb; have H1 := Aside0.mk (And.intro (HT.out.below hb) hb); clear hb; obtain ⟨q1, q2⟩ := q)
  go_upto_region 15 with (go_at_call 18; refine (HR.out _ H1.out.1).mono ?_; rintro e w2 ⟨rfl, hb⟩; have p := bcell hb; have hl2 := Nat.lt_of_lt_of_le hl1 hb.size; have H2 := Aside0.mk (And.intro (H1.out.1.below hb) hb); clear hb; obtain ⟨p1, p2⟩ := p)
  go_wp2_with (go_at_call 18; refine (HY.out _ (H2.out.1.below (below_alloc (Below.refl _ _) _))).mono ?_; rintro e w3 ⟨rfl, hb⟩; have H3 := Aside0.mk hb; clear hb)
  go_ret
  exact ⟨rfl, bel3 H1.out.2 H2.out.2 H3.out⟩
set_option maxHeartbeats 16000000 in
set_option maxRecDepth 100000 in
theorem FieldsP3 (x : XI) (k : Int) (w : World) (ht : Tab w) (hn : NB x) (h : right x = true) (hk : -9223372036854775808 ≤ k ∧ k ≤ 9223372036854775807) (h4 : k % 4 = 3) (h0 : 0 ≤ k) :
    Calls Tryd.prog 7 #[xv x, .int .i64 k] w fun e w' => e = .returned (.bool true) ∧ Below w.heap.size w w' := by
  obtain ⟨o, wd, r, b, i, c, n⟩ := x
  have HE := Aside0.mk (Examples (w.alloc (xo ⟨o, wd, r, b, i, c, n⟩)) (ht.below (below_alloc (Below.refl _ _) _)))
  have HR := Aside0.mk (fun W (hW : Tab W) => Right ⟨o, wd, r, b, i, c, n⟩ W hW hn)
  have HY := Aside0.mk (fun W (hW : Tab W) => Right ⟨24, wd, r, b, i, c, n⟩ W hW hn)
  rw [h] at HR
  rw [right_o] at HY
  have HT := Aside0.mk (ht.below (below_alloc (Below.refl _ _) (xo ⟨o, wd, r, b, i, c, n⟩)))
  clear ht hn h
  obtain ⟨hk0, hk1⟩ := hk
  have e0 : (k % 4 == 0) = false := beq_eq_false_iff_ne.mpr (by omega)
  have e1 : (k % 4 == 1) = false := beq_eq_false_iff_ne.mpr (by omega)
  have e2 : (k % 4 == 2) = false := beq_eq_false_iff_ne.mpr (by omega)
  go_enter Tryd.func7, Tryd.ntmps7
  go_upto_region 2 with (go_at_call 15; (with_reducible refine HE.out.mono ?_); rintro e w1 ⟨rfl, hb⟩; have q := bcell hb; rw [World.size_alloc] at q; have hl1 := lt_of1 hb; have H1 := Aside0.mk (And.intro (HT.out.below hb) hb); clear hb; obtain ⟨q1, q2⟩ := q)
  go_upto_region 15 with (go_at_call 18; refine (HR.out _ H1.out.1).mono ?_; rintro e w2 ⟨rfl, hb⟩; have p := bcell hb; have hl2 := Nat.lt_of_lt_of_le hl1 hb.size; have H2 := Aside0.mk (And.intro (H1.out.1.below hb) hb); clear hb; obtain ⟨p1, p2⟩ := p)
  go_wp2_with (go_at_call 18; refine (HY.out _ (H2.out.1.below (below_alloc (Below.refl _ _) _))).mono ?_; rintro e w3 ⟨rfl, hb⟩; have H3 := Aside0.mk hb; clear hb)
  go_ret
  exact ⟨rfl, bel3 H1.out.2 H2.out.2 H3.out⟩
set_option maxHeartbeats 16000000 in
set_option maxRecDepth 100000 in
theorem FieldsN0 (x : XI) (k : Int) (w : World) (ht : Tab w) (hn : NB x) (h : right x = true) (hk : -9223372036854775808 ≤ k ∧ k ≤ 9223372036854775807) (h4 : -((k + 1).tmod 4) = 0) (h0 : k < 0) :
    Calls Tryd.prog 7 #[xv x, .int .i64 k] w fun e w' => e = .returned (.bool true) ∧ Below w.heap.size w w' := by
  obtain ⟨o, wd, r, b, i, c, n⟩ := x
  have HE := Aside0.mk (Examples (w.alloc (xo ⟨o, wd, r, b, i, c, n⟩)) (ht.below (below_alloc (Below.refl _ _) _)))
  have HR := Aside0.mk (fun W (hW : Tab W) => Right ⟨o, wd, r, b, i, c, n⟩ W hW hn)
  have HY := Aside0.mk (fun W (hW : Tab W) => Right ⟨o, wd, 16, b, i, c, n⟩ W hW hn)
  rw [h] at HR
  rw [right_r] at HY
  have HT := Aside0.mk (ht.below (below_alloc (Below.refl _ _) (xo ⟨o, wd, r, b, i, c, n⟩)))
  clear ht hn h
  obtain ⟨hk0, hk1⟩ := hk
  have e0 : (-((k + 1).tmod 4) == 0) = true := beq_iff_eq.mpr h4
  go_enter Tryd.func7, Tryd.ntmps7
  go_upto_region 2 with (go_at_call 15; (with_reducible refine HE.out.mono ?_); rintro e w1 ⟨rfl, hb⟩; have q := bcell hb; rw [World.size_alloc] at q; have hl1 := lt_of1 hb; have H1 := Aside0.mk (And.intro (HT.out.below hb) hb); clear hb; obtain ⟨q1, q2⟩ := q)
  go_upto_region 15 with (go_at_call 18; refine (HR.out _ H1.out.1).mono ?_; rintro e w2 ⟨rfl, hb⟩; have p := bcell hb; have hl2 := Nat.lt_of_lt_of_le hl1 hb.size; have H2 := Aside0.mk (And.intro (H1.out.1.below hb) hb); clear hb; obtain ⟨p1, p2⟩ := p)
  go_wp2_with (go_at_call 18; refine (HY.out _ (H2.out.1.below (below_alloc (Below.refl _ _) _))).mono ?_; rintro e w3 ⟨rfl, hb⟩; have H3 := Aside0.mk hb; clear hb)
  go_ret
  exact ⟨rfl, bel3 H1.out.2 H2.out.2 H3.out⟩
set_option maxHeartbeats 16000000 in
set_option maxRecDepth 100000 in
theorem FieldsN1 (x : XI) (k : Int) (w : World) (ht : Tab w) (hn : NB x) (h : right x = true) (hk : -9223372036854775808 ≤ k ∧ k ≤ 9223372036854775807) (h4 : -((k + 1).tmod 4) = 1) (h0 : k < 0) :
    Calls Tryd.prog 7 #[xv x, .int .i64 k] w fun e w' => e = .returned (.bool true) ∧ Below w.heap.size w w' := by
  obtain ⟨o, wd, r, b, i, c, n⟩ := x
  have HE := Aside0.mk (Examples (w.alloc (xo ⟨o, wd, r, b, i, c, n⟩)) (ht.below (below_alloc (Below.refl _ _) _)))
  have HR := Aside0.mk (fun W (hW : Tab W) => Right ⟨o, wd, r, b, i, c, n⟩ W hW hn)
  have HY := Aside0.mk (fun W (hW : Tab W) => Right ⟨o, wd, r, -1, i, c, n⟩ W hW hn)
  rw [h] at HR
  rw [right_b] at HY
  have HT := Aside0.mk (ht.below (below_alloc (Below.refl _ _) (xo ⟨o, wd, r, b, i, c, n⟩)))
  clear ht hn h
  obtain ⟨hk0, hk1⟩ := hk
  have e0 : (-((k + 1).tmod 4) == 0) = false := beq_eq_false_iff_ne.mpr (by omega)
  have e1 : (-((k + 1).tmod 4) == 1) = true := beq_iff_eq.mpr h4
  go_enter Tryd.func7, Tryd.ntmps7
  go_upto_region 2 with (go_at_call 15; (with_reducible refine HE.out.mono ?_); rintro e w1 ⟨rfl, hb⟩; have q := bcell hb; rw [World.size_alloc] at q; have hl1 := lt_of1 hb; have H1 := Aside0.mk (And.intro (HT.out.below hb) hb); clear hb; obtain ⟨q1, q2⟩ := q)
  go_upto_region 15 with (go_at_call 18; refine (HR.out _ H1.out.1).mono ?_; rintro e w2 ⟨rfl, hb⟩; have p := bcell hb; have hl2 := Nat.lt_of_lt_of_le hl1 hb.size; have H2 := Aside0.mk (And.intro (H1.out.1.below hb) hb); clear hb; obtain ⟨p1, p2⟩ := p)
  go_wp2_with (go_at_call 18; refine (HY.out _ (H2.out.1.below (below_alloc (Below.refl _ _) _))).mono ?_; rintro e w3 ⟨rfl, hb⟩; have H3 := Aside0.mk hb; clear hb)
  go_ret
  exact ⟨rfl, bel3 H1.out.2 H2.out.2 H3.out⟩
set_option maxHeartbeats 16000000 in
set_option maxRecDepth 100000 in
theorem FieldsN2 (x : XI) (k : Int) (w : World) (ht : Tab w) (hn : NB x) (h : right x = true) (hk : -9223372036854775808 ≤ k ∧ k ≤ 9223372036854775807) (h4 : -((k + 1).tmod 4) = 2) (h0 : k < 0) :
    Calls Tryd.prog 7 #[xv x, .int .i64 k] w fun e w' => e = .returned (.bool true) ∧ Below w.heap.size w w' := by
  obtain ⟨o, wd, r, b, i, c, n⟩ := x
  have HE := Aside0.mk (Examples (w.alloc (xo ⟨o, wd, r, b, i, c, n⟩)) (ht.below (below_alloc (Below.refl _ _) _)))
  have HR := Aside0.mk (fun W (hW : Tab W) => Right ⟨o, wd, r, b, i, c, n⟩ W hW hn)
  have HY := Aside0.mk (fun W (hW : Tab W) => Right ⟨o, wd, r, b, 5, c, n⟩ W hW hn)
  rw [h] at HR
  rw [right_i] at HY
  have HT := Aside0.mk (ht.below (below_alloc (Below.refl _ _) (xo ⟨o, wd, r, b, i, c, n⟩)))
  clear ht hn h
  obtain ⟨hk0, hk1⟩ := hk
  have e0 : (-((k + 1).tmod 4) == 0) = false := beq_eq_false_iff_ne.mpr (by omega)
  have e1 : (-((k + 1).tmod 4) == 1) = false := beq_eq_false_iff_ne.mpr (by omega)
  have e2 : (-((k + 1).tmod 4) == 2) = true := beq_iff_eq.mpr h4
  go_enter Tryd.func7, Tryd.ntmps7
  go_upto_region 2 with (go_at_call 15; (with_reducible refine HE.out.mono ?_); rintro e w1 ⟨rfl, hb⟩; have q := bcell hb; rw [World.size_alloc] at q; have hl1 := lt_of1 hb; have H1 := Aside0.mk (And.intro (HT.out.below hb) hb); clear hb; obtain ⟨q1, q2⟩ := q)
  go_upto_region 15 with (go_at_call 18; refine (HR.out _ H1.out.1).mono ?_; rintro e w2 ⟨rfl, hb⟩; have p := bcell hb; have hl2 := Nat.lt_of_lt_of_le hl1 hb.size; have H2 := Aside0.mk (And.intro (H1.out.1.below hb) hb); clear hb; obtain ⟨p1, p2⟩ := p)
  go_wp2_with (go_at_call 18; refine (HY.out _ (H2.out.1.below (below_alloc (Below.refl _ _) _))).mono ?_; rintro e w3 ⟨rfl, hb⟩; have H3 := Aside0.mk hb; clear hb)
  go_ret
  exact ⟨rfl, bel3 H1.out.2 H2.out.2 H3.out⟩
set_option maxHeartbeats 16000000 in
set_option maxRecDepth 100000 in
theorem FieldsN3 (x : XI) (k : Int) (w : World) (ht : Tab w) (hn : NB x) (h : right x = true) (hk : -9223372036854775808 ≤ k ∧ k ≤ 9223372036854775807) (h4 : -((k + 1).tmod 4) = 3) (h0 : k < 0) :
    Calls Tryd.prog 7 #[xv x, .int .i64 k] w fun e w' => e = .returned (.bool true) ∧ Below w.heap.size w w' := by
  obtain ⟨o, wd, r, b, i, c, n⟩ := x
  have HE := Aside0.mk (Examples (w.alloc (xo ⟨o, wd, r, b, i, c, n⟩)) (ht.below (below_alloc (Below.refl _ _) _)))
  have HR := Aside0.mk (fun W (hW : Tab W) => Right ⟨o, wd, r, b, i, c, n⟩ W hW hn)
  have HY := Aside0.mk (fun W (hW : Tab W) => Right ⟨24, wd, r, b, i, c, n⟩ W hW hn)
  rw [h] at HR
  rw [right_o] at HY
  have HT := Aside0.mk (ht.below (below_alloc (Below.refl _ _) (xo ⟨o, wd, r, b, i, c, n⟩)))
  clear ht hn h
  obtain ⟨hk0, hk1⟩ := hk
  have e0 : (-((k + 1).tmod 4) == 0) = false := beq_eq_false_iff_ne.mpr (by omega)
  have e1 : (-((k + 1).tmod 4) == 1) = false := beq_eq_false_iff_ne.mpr (by omega)
  have e2 : (-((k + 1).tmod 4) == 2) = false := beq_eq_false_iff_ne.mpr (by omega)
  go_enter Tryd.func7, Tryd.ntmps7
  go_upto_region 2 with (go_at_call 15; (with_reducible refine HE.out.mono ?_); rintro e w1 ⟨rfl, hb⟩; have q := bcell hb; rw [World.size_alloc] at q; have hl1 := lt_of1 hb; have H1 := Aside0.mk (And.intro (HT.out.below hb) hb); clear hb; obtain ⟨q1, q2⟩ := q)
  go_upto_region 15 with (go_at_call 18; refine (HR.out _ H1.out.1).mono ?_; rintro e w2 ⟨rfl, hb⟩; have p := bcell hb; have hl2 := Nat.lt_of_lt_of_le hl1 hb.size; have H2 := Aside0.mk (And.intro (H1.out.1.below hb) hb); clear hb; obtain ⟨p1, p2⟩ := p)
  go_wp2_with (go_at_call 18; refine (HY.out _ (H2.out.1.below (below_alloc (Below.refl _ _) _))).mono ?_; rintro e w3 ⟨rfl, hb⟩; have H3 := Aside0.mk hb; clear hb)
  go_ret
  exact ⟨rfl, bel3 H1.out.2 H2.out.2 H3.out⟩
theorem Fields (x : XI) (k : Int) (w : World) (ht : Tab w) (hn : NB x) (hk : -9223372036854775808 ≤ k ∧ k ≤ 9223372036854775807) :
    Calls Tryd.prog 7 #[xv x, .int .i64 k] w fun e w' => e = .returned (.bool true) ∧ Below w.heap.size w w' := by
  by_cases h : right x = true
  · by_cases h0 : 0 ≤ k
    · have hc : k % 4 = 0 ∨ k % 4 = 1 ∨ k % 4 = 2 ∨ k % 4 = 3 := by omega
      rcases hc with h4 | h4 | h4 | h4
      · exact FieldsP0 x k w ht hn h hk h4 h0
      · exact FieldsP1 x k w ht hn h hk h4 h0
      · exact FieldsP2 x k w ht hn h hk h4 h0
      · exact FieldsP3 x k w ht hn h hk h4 h0
    · have e : -((k + 1).tmod 4) = (-(k + 1)) % 4 := by rw [← Int.neg_tmod, Int.tmod_eq_emod_of_nonneg (by omega)]
      have hc : -((k + 1).tmod 4) = 0 ∨ -((k + 1).tmod 4) = 1 ∨ -((k + 1).tmod 4) = 2 ∨ -((k + 1).tmod 4) = 3 := by rw [e]; omega
      rcases hc with h4 | h4 | h4 | h4
      · exact FieldsN0 x k w ht hn h hk h4 (by omega)
      · exact FieldsN1 x k w ht hn h hk h4 (by omega)
      · exact FieldsN2 x k w ht hn h hk h4 (by omega)
      · exact FieldsN3 x k w ht hn h hk h4 (by omega)
  · exact FieldsNo x k w ht hn (Bool.eq_false_iff.mpr h)
end Go.Proofs.YtkfinaongajhmaaDoor.X

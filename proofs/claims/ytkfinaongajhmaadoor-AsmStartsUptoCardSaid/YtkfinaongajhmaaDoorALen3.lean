/- The assembler's length of an item: what the program's function computes. -/
import Derived.Test.YtkfinaongajhmaaDoorAMap
import Derived.Test.YtkfinaongajhmaaDoorXWays
import Derived.Deep.QuietTactic
import Derived.BigQuiet
namespace Go.Proofs.YtkfinaongajhmaaDoor.X
open Go.Ob Go.Ob.Xc Go.RowKit Go.Proofs.YtkfinaongajhmaaDoorW.PrintWords Go.Proofs.YtkfinaongajhmaaDoorW.PrintMore
attribute [local go_sem] max2_int min2_int max_two min_two
set_option linter.unusedVariables false
set_option linter.unusedSimpArgs false
/-- an item, as a value -/
abbrev tv (t : It) : Value := .agg #[.int .i64 t.x.op, .bool t.x.wide, .int .i64 t.x.r, .int .i64 t.x.b, .int .i64 t.x.i, .int .i64 t.x.c, .int .i64 t.x.n, .int .i64 t.lab, .int .i64 t.to]
abbrev to_ (t : It) : Obj := .cells #[.int .i64 t.x.op, .bool t.x.wide, .int .i64 t.x.r, .int .i64 t.x.b, .int .i64 t.x.i, .int .i64 t.x.c, .int .i64 t.x.n, .int .i64 t.lab, .int .i64 t.to] 56
def eqT (a b : It) : Bool := eqX a.x b.x && (a.lab == b.lab && a.to == b.to)
theorem eqT_iff (a b : It) : eqT a b = true ↔ a = b := by
  unfold eqT
  simp only [Bool.and_eq_true, beq_iff_eq, eqX_iff]
  cases a; cases b
  simp
set_option maxRecDepth 100000 in
theorem eqx9 (x y : XI) (W : World) : (Op.equalIn 9999 23 (xv x) (xv y)).run Tryd.prog W = .ok (eqX x y) W := by
  refine eqA_of Tryd.underlying23 (by kernel_rfl) ?_
  refine eqf_cons (by rfl) (by go_simp; rfl) (by go_simp; rfl) (by go_simp) ?_
  refine eqf_cons (by rfl) (by go_simp; rfl) (by go_simp; rfl) (by go_simp) ?_
  refine eqf_cons (by rfl) (by go_simp; rfl) (by go_simp; rfl) (by go_simp) ?_
  refine eqf_cons (by rfl) (by go_simp; rfl) (by go_simp; rfl) (by go_simp) ?_
  refine eqf_cons (by rfl) (by go_simp; rfl) (by go_simp; rfl) (by go_simp) ?_
  refine eqf_cons (by rfl) (by go_simp; rfl) (by go_simp; rfl) (by go_simp) ?_
  exact eqf_last (by rfl) (by go_simp; rfl) (by go_simp; rfl) (by go_simp)
set_option maxRecDepth 100000 in
theorem eqt (a b : It) (W : World) : (Op.equalIn 10000 56 (tv a) (tv b)).run Tryd.prog W = .ok (eqT a b) W := by
  refine eqA_of Tryd.underlying56 (by kernel_rfl) ?_
  refine eqf_cons (a := xv a.x) (b := xv b.x) (by rfl) (by go_simp) (by go_simp) (eqx9 a.x b.x W) ?_
  refine eqf_cons (by rfl) (by go_simp; rfl) (by go_simp; rfl) (by go_simp) ?_
  exact eqf_last (by rfl) (by go_simp; rfl) (by go_simp; rfl) (by go_simp)
/-- what the program's length answers -/
def lenA (t : It) : Value := .tuple #[.int .i64 ((lenI t).getD 0 : Nat), .bool (lenI t).isSome]
theorem cell9 {W : World} {g : Nat} {a0 a1 a2 a3 a4 a5 a6 a7 a8 : Value} {t : TypeId} (h : W.heap[g]? = some (.cells #[a0, a1, a2, a3, a4, a5, a6, a7, a8] t (0, 0))) :
    (W.cell? ⟨g, 0, none⟩ = some a0 ∧ W.cell? ⟨g, 1, none⟩ = some a1 ∧ W.cell? ⟨g, 2, none⟩ = some a2 ∧ W.cell? ⟨g, 3, none⟩ = some a3 ∧ W.cell? ⟨g, 4, none⟩ = some a4 ∧ W.cell? ⟨g, 5, none⟩ = some a5 ∧ W.cell? ⟨g, 6, none⟩ = some a6 ∧ W.cell? ⟨g, 7, none⟩ = some a7 ∧ W.cell? ⟨g, 8, none⟩ = some a8) :=
  ⟨by simpa using blk_cell h 0, by simpa using blk_cell h 1, by simpa using blk_cell h 2, by simpa using blk_cell h 3, by simpa using blk_cell h 4, by simpa using blk_cell h 5, by simpa using blk_cell h 6, by simpa using blk_cell h 7, by simpa using blk_cell h 8⟩
theorem len_of {t : It} {k : Nat} {ok : Bool} (h : (lenI t).getD 0 = k ∧ (lenI t).isSome = ok) : lenA t = .tuple #[.int .i64 k, .bool ok] := by
  unfold lenA
  rw [h.1, h.2]
set_option maxHeartbeats 16000000 in
set_option maxRecDepth 100000 in
/-- a jump, or none, that may not be -/
theorem LenBad (t : It) (w : World) (h : ¬ toOk t) : Calls Tryd.prog 53 #[tv t] w fun e w' => e = .returned (lenA t) ∧ Below w.heap.size w w' := by
  rw [len_of (t := t) (k := 0) (ok := false) (by unfold lenI; rw [if_neg h]; exact ⟨rfl, rfl⟩)]
  obtain ⟨⟨o, wd, r, b, i, c, n⟩, lab, jt⟩ := t
  have hc : ((o = 17 ∨ o = 18 ∨ o = 19) ∧ jt < 0) ∨ ((o = 17 ∨ o = 18 ∨ o = 19) ∧ 0 < jt ∧ ¬ n = 0) ∨ ((¬ o = 17 ∧ ¬ o = 18 ∧ ¬ o = 19) ∧ ¬ jt = 0) := by
    unfold toOk isJ at h
    dsimp only at h
    omega
  clear h
  rcases hc with ⟨rfl | rfl | rfl, h1⟩ | ⟨rfl | rfl | rfl, h1, h2⟩ | ⟨⟨h0, h1, h2⟩, h3⟩
  all_goals
    try (have e1 : (o == 17) = false := beq_eq_false_iff_ne.mpr h0)
    try (have e2 : (o == 18) = false := beq_eq_false_iff_ne.mpr h1)
    try (have e3 : (o == 19) = false := beq_eq_false_iff_ne.mpr h2)
    try (have e4 : (n != 0) = true := bne_iff_ne.mpr h2)
    try (have e5 : (jt != 0) = true := bne_iff_ne.mpr h3)
    go_enter Tryd.func53, Tryd.ntmps53
    go_wp2
    go_ret2
    exact ⟨rfl, below_alloc (Below.refl _ _) _⟩
end Go.Proofs.YtkfinaongajhmaaDoor.X
/- The assembler's length of an item that may stand: what the program's function computes. -/
namespace Go.Proofs.YtkfinaongajhmaaDoor.X
open Go.Ob Go.Ob.Xc Go.RowKit Go.Proofs.YtkfinaongajhmaaDoorW.PrintWords Go.Proofs.YtkfinaongajhmaaDoorW.PrintMore
attribute [local go_sem] max2_int min2_int max_two min_two
set_option linter.unusedVariables false
set_option linter.unusedSimpArgs false
theorem new_of {w W : World} {o : Obj} (h : w.alloc o = W) : W.heap[w.heap.size]? = some o ∧ Below w.heap.size w W := by
  subst h
  exact ⟨blk_new w o, below_alloc (Below.refl _ _) o⟩
set_option maxHeartbeats 16000000 in
set_option maxRecDepth 100000 in
/-- a label, or none that may be -/
theorem LenLab (t : It) (w : World) (h : toOk t) (hl : ¬ t.lab = 0) : Calls Tryd.prog 53 #[tv t] w fun e w' => e = .returned (lenA t) ∧ Below w.heap.size w w' := by
  rw [len_of (t := t) (k := 0) (ok := decide (0 < t.lab) && eqT t ⟨⟨0, false, 0, 0, 0, 0, 0⟩, t.lab, 0⟩) (by
    unfold lenI
    rw [if_pos h, if_neg hl]
    by_cases c : 0 < t.lab ∧ t.x = xz ∧ t.to = 0
    · have e : eqT t ⟨⟨0, false, 0, 0, 0, 0, 0⟩, t.lab, 0⟩ = true := (eqT_iff _ _).mpr (by obtain ⟨x, lab, jt⟩ := t; obtain ⟨_, rfl, rfl⟩ := c; rfl)
      rw [if_pos c, e, decide_eq_true c.1]
      exact ⟨rfl, rfl⟩
    · rw [if_neg c]
      refine ⟨rfl, ?_⟩
      symm
      show (decide (0 < t.lab) && eqT t ⟨⟨0, false, 0, 0, 0, 0, 0⟩, t.lab, 0⟩) = false
      rw [Bool.eq_false_iff, Ne, Bool.and_eq_true, decide_eq_true_eq]
      rintro ⟨h1, h2⟩
      have := (eqT_iff _ _).mp h2
      exact c ⟨h1, by rw [this]; rfl, by rw [this]⟩)]
  have hq := eqt t ⟨⟨0, false, 0, 0, 0, 0, 0⟩, t.lab, 0⟩
  generalize eqT t ⟨⟨0, false, 0, 0, 0, 0, 0⟩, t.lab, 0⟩ = q at *
  have HQ := Aside0.mk hq
  clear hq
  obtain ⟨⟨o, wd, r, b, i, c, n⟩, lab, jt⟩ := t
  dsimp only at hl HQ
  have hc : ((o = 17 ∨ o = 18 ∨ o = 19) ∧ jt = 0) ∨ ((o = 17 ∨ o = 18 ∨ o = 19) ∧ 0 < jt ∧ n = 0) ∨ ((¬ o = 17 ∧ ¬ o = 18 ∧ ¬ o = 19) ∧ jt = 0) := by
    unfold toOk isJ at h
    dsimp only at h
    omega
  have hd : lab < 0 ∨ 0 < lab := by omega
  clear h hl
  rcases hd with hl | hl
  · have e8 : decide (0 < lab) = false := decide_eq_false (by omega)
    rw [e8]
    rcases hc with ⟨rfl | rfl | rfl, rfl⟩ | ⟨rfl | rfl | rfl, h1, rfl⟩ | ⟨⟨h0, h1, h2⟩, rfl⟩
    all_goals
      try (have e1 : (o == 17) = false := beq_eq_false_iff_ne.mpr h0)
      try (have e2 : (o == 18) = false := beq_eq_false_iff_ne.mpr h1)
      try (have e3 : (o == 19) = false := beq_eq_false_iff_ne.mpr h2)
      have e6 : (lab != 0) = true := bne_iff_ne.mpr (by omega)
      go_enter Tryd.func53, Tryd.ntmps53
      go_upto_region 10 with fail
      have e7 := HQ.out
      go_quiet (fail)
      go_wp2
      go_ret2
      exact ⟨by first | rfl | simp, by repeat (first | with_reducible exact below_alloc (Below.refl _ _) _ | with_reducible refine below_drew ?_ | with_reducible refine pw_below_drewN ?_ _)⟩
  · have e8 : decide (0 < lab) = true := decide_eq_true hl
    rw [e8]
    rcases hc with ⟨rfl | rfl | rfl, rfl⟩ | ⟨rfl | rfl | rfl, h1, rfl⟩ | ⟨⟨h0, h1, h2⟩, rfl⟩
    all_goals
      try (have e1 : (o == 17) = false := beq_eq_false_iff_ne.mpr h0)
      try (have e2 : (o == 18) = false := beq_eq_false_iff_ne.mpr h1)
      try (have e3 : (o == 19) = false := beq_eq_false_iff_ne.mpr h2)
      have e6 : (lab != 0) = true := bne_iff_ne.mpr (by omega)
      go_enter Tryd.func53, Tryd.ntmps53
      go_upto_region 10 with fail
      have e7 := HQ.out
      generalize hW9 : w.alloc _ = W9
      obtain ⟨kX, kB⟩ := new_of hW9
      clear hW9
      have HB := Aside0.mk kB
      obtain ⟨x0, x1, x2, x3, x4, x5, x6, x7, x8⟩ := cell9 kX
      clear kX kB
      refine wp_region_still_lit (by kernel_rfl) (by kernel_rfl) ?_
      repeat still_step
      refine wpStill_nil ?_
      go_wp2
      go_ret2
      exact ⟨by first | rfl | simp, by first | exact below_drew HB.out | exact HB.out⟩
end Go.Proofs.YtkfinaongajhmaaDoor.X
/- The assembler's length of an item: what the program's function computes, whole. -/
namespace Go.Proofs.YtkfinaongajhmaaDoor.X
open Go.Ob Go.Ob.Xc Go.RowKit Go.Proofs.YtkfinaongajhmaaDoorW.PrintWords Go.Proofs.YtkfinaongajhmaaDoorW.PrintMore
attribute [local go_sem] max2_int min2_int max_two min_two
set_option linter.unusedVariables false
set_option linter.unusedSimpArgs false
set_option maxHeartbeats 16000000 in
set_option maxRecDepth 100000 in
theorem LenEnc (t : It) (w : World) (ht : Tab w) (hn : NB t.x) (h : toOk t) (hl : t.lab = 0) : Calls Tryd.prog 53 #[tv t] w fun e w' => e = .returned (lenA t) ∧ Below w.heap.size w w' := by
  obtain ⟨s, ev, ok, hE, hv, hA⟩ : ∃ (s : ByteArray) (ev : Int) (ok : Bool), (∀ W, Tab W → Calls Tryd.prog 16 #[xv t.x] W fun e w' => e = .returned (.tuple #[.string s, .int .i64 ev]) ∧ Below W.heap.size W w') ∧ ((ev = 0 ∧ ok = true) ∨ (ev = 4 ∧ ok = false)) ∧ lenA t = .tuple #[.int .i64 s.size, .bool ok] := by
    by_cases hr : right t.x = true
    · refine ⟨_, _, true, fun W hW => Encode_ok t.x W hr hW hn, .inl ⟨rfl, rfl⟩, len_of ?_⟩
      unfold lenI
      rw [if_pos h, if_pos hl, if_pos hr, ← bl_length, bl_num _ (enc_okl hr)]
      exact ⟨rfl, rfl⟩
    · refine ⟨_, _, false, fun W hW => Encode_no t.x W (Bool.eq_false_iff.mpr hr) hW hn, .inr ⟨rfl, rfl⟩, len_of ?_⟩
      unfold lenI
      rw [if_pos h, if_pos hl, if_neg hr]
      exact ⟨rfl, rfl⟩
  rw [hA]
  have HE := Aside0.mk (hE _ (ht.below (below_alloc (Below.refl w.heap.size w) (to_ t))))
  clear hE hA ht hn
  obtain ⟨⟨o, wd, r, b, i, c, n⟩, lab, jt⟩ := t
  dsimp only at hl
  subst hl
  have hc : ((o = 17 ∨ o = 18 ∨ o = 19) ∧ jt = 0) ∨ ((o = 17 ∨ o = 18 ∨ o = 19) ∧ 0 < jt ∧ n = 0) ∨ ((¬ o = 17 ∧ ¬ o = 18 ∧ ¬ o = 19) ∧ jt = 0) := by
    unfold toOk isJ at h
    dsimp only at h
    omega
  clear h
  rcases hc with ⟨rfl | rfl | rfl, rfl⟩ | ⟨rfl | rfl | rfl, h1, rfl⟩ | ⟨⟨h0, h1, h2⟩, rfl⟩ <;> rcases hv with ⟨rfl, rfl⟩ | ⟨rfl, rfl⟩
  all_goals
    try (have e1 : (o == 17) = false := beq_eq_false_iff_ne.mpr h0)
    try (have e2 : (o == 18) = false := beq_eq_false_iff_ne.mpr h1)
    try (have e3 : (o == 19) = false := beq_eq_false_iff_ne.mpr h2)
    go_enter Tryd.func53, Tryd.ntmps53
    go_wp2_with (go_at_call 16; (with_reducible refine HE.out.mono ?_); rintro e w1 ⟨rfl, hb⟩; have H1 := Aside0.mk ((below_alloc (Below.refl w.heap.size w) _).trans (hb.mono (by simp))); clear hb)
    go_ret2
    exact ⟨rfl, H1.out⟩
/-- an item's length -/
theorem Length (t : It) (w : World) (ht : Tab w) (hn : NB t.x) : Calls Tryd.prog 53 #[tv t] w fun e w' => e = .returned (lenA t) ∧ Below w.heap.size w w' := by
  by_cases h : toOk t
  · by_cases hl : t.lab = 0
    · exact LenEnc t w ht hn h hl
    · exact LenLab t w h hl
  · exact LenBad t w h
end Go.Proofs.YtkfinaongajhmaaDoor.X

/- Is it an instruction? What the program's function computes. No condition but that the table of conditions holds what the program's text lays, and that numbers are those of the language. -/
import Derived.Test.YtkfinaongajhmaaDoorXShape0
import Derived.Test.YtkfinaongajhmaaDoorXShape1
import Derived.Test.YtkfinaongajhmaaDoorXShape2
import Derived.Test.YtkfinaongajhmaaDoorXShape3
import Derived.Test.YtkfinaongajhmaaDoorXShape4
import Derived.Test.YtkfinaongajhmaaDoorXShape5
import Derived.Test.YtkfinaongajhmaaDoorXShape6
namespace Go.Proofs.YtkfinaongajhmaaDoor.X
open Go.Ob Go.Ob.Xc Go.RowKit Go.Proofs.YtkfinaongajhmaaDoorW.PrintWords Go.Proofs.YtkfinaongajhmaaDoorW.PrintMore
attribute [local go_sem] max2_int min2_int max_two min_two
set_option linter.unusedVariables false
set_option linter.unusedSimpArgs false
/-- are two the same? -/
def eqX (x y : XI) : Bool := x.op == y.op && (x.wide == y.wide && (x.r == y.r && (x.b == y.b && (x.i == y.i && (x.c == y.c && x.n == y.n)))))
theorem eqX_iff (x y : XI) : eqX x y = true ↔ x = y := by
  unfold eqX
  simp only [Bool.and_eq_true, beq_iff_eq]
  constructor
  · rintro ⟨h1, h2, h3, h4, h5, h6, h7⟩
    exact XI.ext' h1 h2 h3 h4 h5 h6 h7
  · rintro rfl
    exact ⟨rfl, rfl, rfl, rfl, rfl, rfl, rfl⟩
set_option maxRecDepth 100000 in
theorem eqx (x y : XI) (W : World) : (Op.equalIn 10000 23 (xv x) (xv y)).run Tryd.prog W = .ok (eqX x y) W := by
  refine eqA_of Tryd.underlying23 (by kernel_rfl) ?_
  refine eqf_cons (by rfl) (by go_simp; rfl) (by go_simp; rfl) (by go_simp) ?_
  refine eqf_cons (by rfl) (by go_simp; rfl) (by go_simp; rfl) (by go_simp) ?_
  refine eqf_cons (by rfl) (by go_simp; rfl) (by go_simp; rfl) (by go_simp) ?_
  refine eqf_cons (by rfl) (by go_simp; rfl) (by go_simp; rfl) (by go_simp) ?_
  refine eqf_cons (by rfl) (by go_simp; rfl) (by go_simp; rfl) (by go_simp) ?_
  refine eqf_cons (by rfl) (by go_simp; rfl) (by go_simp; rfl) (by go_simp) ?_
  exact eqf_last (by rfl) (by go_simp; rfl) (by go_simp; rfl) (by go_simp)
theorem bcell {W w1 : World} (hb : Below W.heap.size W w1) : (∀ b o, b < W.heap.size → w1.cell? ⟨b, o, none⟩ = W.cell? ⟨b, o, none⟩) ∧ (∀ b o, b < W.heap.size → w1.frozen? ⟨b, o, none⟩ = W.frozen? ⟨b, o, none⟩) :=
  ⟨fun b o h => hb.cell (p := ⟨b, o, none⟩) h, fun b o h => hb.frozen (p := ⟨b, o, none⟩) h⟩
set_option maxHeartbeats 4000000 in
set_option maxRecDepth 100000 in
theorem RightOf (o : Int) (wd : Bool) (r b i c n : Int) (o' : Int) (wd' : Bool) (r' b' i' c' n' : Int) (f : Bool) (w : World) (ht : Tab w)
    (C : ∀ W, Tab W → Calls Tryd.prog 40 #[xv ⟨o, wd, r, b, i, c, n⟩] W fun e w' => e = .returned (.tuple #[xv ⟨o', wd', r', b', i', c', n'⟩, .bool f]) ∧ Below W.heap.size W w') :
    Calls Tryd.prog 18 #[xv ⟨o, wd, r, b, i, c, n⟩] w fun e w' => e = .returned (.bool (f && eqX ⟨o, wd, r, b, i, c, n⟩ ⟨o', wd', r', b', i', c', n'⟩)) ∧ Below w.heap.size w w' := by
  have HC := Aside0.mk (C _ (ht.below (below_alloc (Below.refl _ _) (xo ⟨o, wd, r, b, i, c, n⟩))))
  have heq := eqx ⟨o, wd, r, b, i, c, n⟩ ⟨o', wd', r', b', i', c', n'⟩
  have HE := Aside0.mk heq
  clear ht C heq
  cases f with
  | false =>
    go_enter Tryd.func18, Tryd.ntmps18
    go_wp2_with (first
      | (go_at_call 40; (with_reducible refine HC.out.mono ?_); rintro e w1 ⟨rfl, hb1⟩; have H1 := Aside0.mk hb1; clear hb1))
    go_ret
    exact ⟨rfl, below_alloc ((below_alloc (Below.refl w.heap.size w) _).trans (H1.out.mono (by simp))) _⟩
  | true =>
    go_enter Tryd.func18, Tryd.ntmps18
    go_wp2_with (first
      | (go_at_call 40; (with_reducible refine HC.out.mono ?_); rintro e w1 ⟨rfl, hb1⟩; obtain ⟨hc, hf⟩ := bcell hb1; have hz : w.heap.size < w1.heap.size := (by have := hb1.size; simp at this; omega); have heq := HE.out; have H1 := Aside0.mk hb1; clear hb1))
    go_ret
    exact ⟨by simp, below_alloc ((below_alloc (Below.refl w.heap.size w) _).trans (H1.out.mono (by simp))) _⟩
set_option maxHeartbeats 4000000 in
theorem Right (x : XI) (w : World) (ht : Tab w) (hn : -9223372036854775808 ≤ x.n ∧ x.n ≤ 9223372036854775807) :
    Calls Tryd.prog 18 #[xv x] w fun e w' => e = .returned (.bool (right x)) ∧ Below w.heap.size w w' := by
  obtain ⟨o, wd, r, b, i, c, n⟩ := x
  dsimp only at hn
  have z : reg 0 = true := by decide
  by_cases h : 1 ≤ o ∧ o ≤ 23
  · have hc : o = 1 ∨ o = 2 ∨ o = 3 ∨ o = 4 ∨ o = 5 ∨ o = 6 ∨ o = 7 ∨ o = 8 ∨ o = 9 ∨ o = 10 ∨ o = 11 ∨ o = 12 ∨ o = 13 ∨ o = 14 ∨ o = 15 ∨ o = 16 ∨ o = 17 ∨ o = 18 ∨ o = 19 ∨ o = 20 ∨ o = 21 ∨ o = 22 ∨ o = 23 := by omega
    rcases hc with rfl | rfl | rfl | rfl | rfl | rfl | rfl | rfl | rfl | rfl | rfl | rfl | rfl | rfl | rfl | rfl | rfl | rfl | rfl | rfl | rfl | rfl | rfl
    · have e : ((reg r && reg b) && eqX ⟨1, wd, r, b, i, c, n⟩ ⟨1, wd, r, b, 0, 0, 0⟩) = right ⟨1, wd, r, b, i, c, n⟩ := by
        rw [Bool.eq_iff_iff]
        simp [right, eqX, reg, idx]
        try (first | omega | grind)
      have h := RightOf 1 wd r b i c n 1 wd r b 0 0 0 (reg r && reg b) w ht (fun W hW => shape_1 wd r b i c n W hW hn)
      rwa [e] at h
    · have e : (((reg r && reg b) && wd) && eqX ⟨2, wd, r, b, i, c, n⟩ ⟨2, wd, r, 0, 0, 0, n⟩) = right ⟨2, wd, r, b, i, c, n⟩ := by
        rw [Bool.eq_iff_iff]
        simp [right, eqX, reg, idx]
        try (first | omega | grind)
      have h := RightOf 2 wd r b i c n 2 wd r 0 0 0 n ((reg r && reg b) && wd) w ht (fun W hW => shape_2 wd r b i c n W hW hn)
      rwa [e] at h
    · have e : (((reg r && reg b) && alu c) && eqX ⟨3, wd, r, b, i, c, n⟩ ⟨3, wd, r, b, 0, c, 0⟩) = right ⟨3, wd, r, b, i, c, n⟩ := by
        rw [Bool.eq_iff_iff]
        simp [right, eqX, reg, idx]
        try (first | omega | grind)
      have h := RightOf 3 wd r b i c n 3 wd r b 0 c 0 ((reg r && reg b) && alu c) w ht (fun W hW => shape_3 wd r b i c n W hW hn)
      rwa [e] at h
    · have e : ((((reg r && reg b) && word n) && alu c) && eqX ⟨4, wd, r, b, i, c, n⟩ ⟨4, wd, 0, b, 0, c, n⟩) = right ⟨4, wd, r, b, i, c, n⟩ := by
        rw [Bool.eq_iff_iff]
        simp [right, eqX, reg, idx]
        try (first | omega | grind)
      have h := RightOf 4 wd r b i c n 4 wd 0 b 0 c n (((reg r && reg b) && word n) && alu c) w ht (fun W hW => shape_4 wd r b i c n W hW hn)
      rwa [e] at h
    · have e : ((reg r && reg b) && eqX ⟨5, wd, r, b, i, c, n⟩ ⟨5, wd, r, b, 0, 0, 0⟩) = right ⟨5, wd, r, b, i, c, n⟩ := by
        rw [Bool.eq_iff_iff]
        simp [right, eqX, reg, idx]
        try (first | omega | grind)
      have h := RightOf 5 wd r b i c n 5 wd r b 0 0 0 (reg r && reg b) w ht (fun W hW => shape_5 wd r b i c n W hW hn)
      rwa [e] at h
    · have e : ((reg r && reg b) && eqX ⟨6, wd, r, b, i, c, n⟩ ⟨6, wd, r, b, 0, 0, 0⟩) = right ⟨6, wd, r, b, i, c, n⟩ := by
        rw [Bool.eq_iff_iff]
        simp [right, eqX, reg, idx]
        try (first | omega | grind)
      have h := RightOf 6 wd r b i c n 6 wd r b 0 0 0 (reg r && reg b) w ht (fun W hW => shape_6 wd r b i c n W hW hn)
      rwa [e] at h
    · have e : (((reg r && reg b) && shf c) && eqX ⟨7, wd, r, b, i, c, n⟩ ⟨7, wd, 0, b, 0, c, 0⟩) = right ⟨7, wd, r, b, i, c, n⟩ := by
        rw [Bool.eq_iff_iff]
        simp [right, eqX, reg, idx]
        try (first | omega | grind)
      have h := RightOf 7 wd r b i c n 7 wd 0 b 0 c 0 ((reg r && reg b) && shf c) w ht (fun W hW => shape_7 wd r b i c n W hW hn)
      rwa [e] at h
    · have e : ((reg r && reg b) && eqX ⟨8, wd, r, b, i, c, n⟩ ⟨8, wd, 0, b, 0, 0, 0⟩) = right ⟨8, wd, r, b, i, c, n⟩ := by
        rw [Bool.eq_iff_iff]
        simp [right, eqX, reg, idx]
        try (first | omega | grind)
      have h := RightOf 8 wd r b i c n 8 wd 0 b 0 0 0 (reg r && reg b) w ht (fun W hW => shape_8 wd r b i c n W hW hn)
      rwa [e] at h
    · have e : ((reg r && reg b) && eqX ⟨9, wd, r, b, i, c, n⟩ ⟨9, wd, 0, b, 0, 0, 0⟩) = right ⟨9, wd, r, b, i, c, n⟩ := by
        rw [Bool.eq_iff_iff]
        simp [right, eqX, reg, idx]
        try (first | omega | grind)
      have h := RightOf 9 wd r b i c n 9 wd 0 b 0 0 0 (reg r && reg b) w ht (fun W hW => shape_9 wd r b i c n W hW hn)
      rwa [e] at h
    · have e : ((reg r && reg b) && eqX ⟨10, wd, r, b, i, c, n⟩ ⟨10, wd, 0, 0, 0, 0, 0⟩) = right ⟨10, wd, r, b, i, c, n⟩ := by
        rw [Bool.eq_iff_iff]
        simp [right, eqX, reg, idx]
        try (first | omega | grind)
      have h := RightOf 10 wd r b i c n 10 wd 0 0 0 0 0 (reg r && reg b) w ht (fun W hW => shape_10 wd r b i c n W hW hn)
      rwa [e] at h
    · have e : ((((reg r && reg b) && idx i) && word n) && eqX ⟨11, wd, r, b, i, c, n⟩ ⟨11, wd, r, b, i, 0, n⟩) = right ⟨11, wd, r, b, i, c, n⟩ := by
        rw [Bool.eq_iff_iff]
        simp [right, eqX, reg, idx]
        try (first | omega | grind)
      have h := RightOf 11 wd r b i c n 11 wd r b i 0 n (((reg r && reg b) && idx i) && word n) w ht (fun W hW => shape_11 wd r b i c n W hW hn)
      rwa [e] at h
    · have e : ((((reg r && reg b) && idx i) && word n) && eqX ⟨12, wd, r, b, i, c, n⟩ ⟨12, wd, r, b, i, 0, n⟩) = right ⟨12, wd, r, b, i, c, n⟩ := by
        rw [Bool.eq_iff_iff]
        simp [right, eqX, reg, idx]
        try (first | omega | grind)
      have h := RightOf 12 wd r b i c n 12 wd r b i 0 n (((reg r && reg b) && idx i) && word n) w ht (fun W hW => shape_12 wd r b i c n W hW hn)
      rwa [e] at h
    · have e : ((((reg r && reg b) && cnd c) && !wd) && eqX ⟨13, wd, r, b, i, c, n⟩ ⟨13, wd, 0, 0, 0, c, 0⟩) = right ⟨13, wd, r, b, i, c, n⟩ := by
        rw [Bool.eq_iff_iff]
        simp [right, eqX, reg, idx]
        try (first | omega | grind)
      have h := RightOf 13 wd r b i c n 13 wd 0 0 0 c 0 (((reg r && reg b) && cnd c) && !wd) w ht (fun W hW => shape_13 wd r b i c n W hW hn)
      rwa [e] at h
    · have e : (((reg r && reg b) && !wd) && eqX ⟨14, wd, r, b, i, c, n⟩ ⟨14, wd, 0, 0, 0, 0, 0⟩) = right ⟨14, wd, r, b, i, c, n⟩ := by
        rw [Bool.eq_iff_iff]
        simp [right, eqX, reg, idx]
        try (first | omega | grind)
      have h := RightOf 14 wd r b i c n 14 wd 0 0 0 0 0 ((reg r && reg b) && !wd) w ht (fun W hW => shape_14 wd r b i c n W hW hn)
      rwa [e] at h
    · have e : (((reg r && reg b) && cnd c) && eqX ⟨15, wd, r, b, i, c, n⟩ ⟨15, wd, r, b, 0, c, 0⟩) = right ⟨15, wd, r, b, i, c, n⟩ := by
        rw [Bool.eq_iff_iff]
        simp [right, eqX, reg, idx]
        try (first | omega | grind)
      have h := RightOf 15 wd r b i c n 15 wd r b 0 c 0 ((reg r && reg b) && cnd c) w ht (fun W hW => shape_15 wd r b i c n W hW hn)
      rwa [e] at h
    · have e : (((reg r && reg b) && wd) && eqX ⟨16, wd, r, b, i, c, n⟩ ⟨16, wd, r, b, 0, 0, 0⟩) = right ⟨16, wd, r, b, i, c, n⟩ := by
        rw [Bool.eq_iff_iff]
        simp [right, eqX, reg, idx]
        try (first | omega | grind)
      have h := RightOf 16 wd r b i c n 16 wd r b 0 0 0 ((reg r && reg b) && wd) w ht (fun W hW => shape_16 wd r b i c n W hW hn)
      rwa [e] at h
    · have e : ((((reg r && reg b) && word n) && !wd) && eqX ⟨17, wd, r, b, i, c, n⟩ ⟨17, wd, 0, 0, 0, 0, n⟩) = right ⟨17, wd, r, b, i, c, n⟩ := by
        rw [Bool.eq_iff_iff]
        simp [right, eqX, reg, idx]
        try (first | omega | grind)
      have h := RightOf 17 wd r b i c n 17 wd 0 0 0 0 n (((reg r && reg b) && word n) && !wd) w ht (fun W hW => shape_17 wd r b i c n W hW hn)
      rwa [e] at h
    · have e : (((((reg r && reg b) && word n) && cnd c) && !wd) && eqX ⟨18, wd, r, b, i, c, n⟩ ⟨18, wd, 0, 0, 0, c, n⟩) = right ⟨18, wd, r, b, i, c, n⟩ := by
        rw [Bool.eq_iff_iff]
        simp [right, eqX, reg, idx]
        try (first | omega | grind)
      have h := RightOf 18 wd r b i c n 18 wd 0 0 0 c n ((((reg r && reg b) && word n) && cnd c) && !wd) w ht (fun W hW => shape_18 wd r b i c n W hW hn)
      rwa [e] at h
    · have e : ((((reg r && reg b) && word n) && !wd) && eqX ⟨19, wd, r, b, i, c, n⟩ ⟨19, wd, 0, 0, 0, 0, n⟩) = right ⟨19, wd, r, b, i, c, n⟩ := by
        rw [Bool.eq_iff_iff]
        simp [right, eqX, reg, idx]
        try (first | omega | grind)
      have h := RightOf 19 wd r b i c n 19 wd 0 0 0 0 n (((reg r && reg b) && word n) && !wd) w ht (fun W hW => shape_19 wd r b i c n W hW hn)
      rwa [e] at h
    · have e : (((reg r && reg b) && !wd) && eqX ⟨20, wd, r, b, i, c, n⟩ ⟨20, wd, 0, 0, 0, 0, 0⟩) = right ⟨20, wd, r, b, i, c, n⟩ := by
        rw [Bool.eq_iff_iff]
        simp [right, eqX, reg, idx]
        try (first | omega | grind)
      have h := RightOf 20 wd r b i c n 20 wd 0 0 0 0 0 ((reg r && reg b) && !wd) w ht (fun W hW => shape_20 wd r b i c n W hW hn)
      rwa [e] at h
    · have e : (((reg r && reg b) && !wd) && eqX ⟨21, wd, r, b, i, c, n⟩ ⟨21, wd, 0, 0, 0, 0, 0⟩) = right ⟨21, wd, r, b, i, c, n⟩ := by
        rw [Bool.eq_iff_iff]
        simp [right, eqX, reg, idx]
        try (first | omega | grind)
      have h := RightOf 21 wd r b i c n 21 wd 0 0 0 0 0 ((reg r && reg b) && !wd) w ht (fun W hW => shape_21 wd r b i c n W hW hn)
      rwa [e] at h
    · have e : (((reg r && reg b) && !wd) && eqX ⟨22, wd, r, b, i, c, n⟩ ⟨22, wd, 0, 0, 0, 0, 0⟩) = right ⟨22, wd, r, b, i, c, n⟩ := by
        rw [Bool.eq_iff_iff]
        simp [right, eqX, reg, idx]
        try (first | omega | grind)
      have h := RightOf 22 wd r b i c n 22 wd 0 0 0 0 0 ((reg r && reg b) && !wd) w ht (fun W hW => shape_22 wd r b i c n W hW hn)
      rwa [e] at h
    · have e : (((reg r && reg b) && !wd) && eqX ⟨23, wd, r, b, i, c, n⟩ ⟨23, wd, 0, 0, 0, 0, 0⟩) = right ⟨23, wd, r, b, i, c, n⟩ := by
        rw [Bool.eq_iff_iff]
        simp [right, eqX, reg, idx]
        try (first | omega | grind)
      have h := RightOf 23 wd r b i c n 23 wd 0 0 0 0 0 ((reg r && reg b) && !wd) w ht (fun W hW => shape_23 wd r b i c n W hW hn)
      rwa [e] at h
  · have e : (false && eqX ⟨o, wd, r, b, i, c, n⟩ ⟨o, wd, 0, 0, 0, 0, 0⟩) = right ⟨o, wd, r, b, i, c, n⟩ := by
      cases hr : right ⟨o, wd, r, b, i, c, n⟩ with
      | false => rfl
      | true =>
        have := right_cases hr
        dsimp only at this
        omega
    have h := RightOf o wd r b i c n o wd 0 0 0 0 0 false w ht (fun W hW => shape_no o wd r b i c n W h)
    rwa [e] at h
end Go.Proofs.YtkfinaongajhmaaDoor.X

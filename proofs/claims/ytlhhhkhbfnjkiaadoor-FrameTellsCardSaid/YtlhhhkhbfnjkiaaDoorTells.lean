/- The places of chapter 19: what the program's functions and the reference's compute. No condition but that the table of registers holds what the program's text lays. -/
import Derived.Test.YtlhhhkhbfnjkiaaDoorProg
import Derived.Test.YtlhhhkhbfnjkiaaDoorWMore
import Derived.Test.YtlhhhkhbfnjkiaaDoorWWords
import Derived.WalkKit
import Derived.LoopTactic
import Derived.Outline
namespace Go.Proofs.YtlhhhkhbfnjkiaaDoor.Tells
open Go.RowKit Go.Proofs.YtlhhhkhbfnjkiaaDoorW.PrintWords Go.Proofs.YtlhhhkhbfnjkiaaDoorW.PrintMore
attribute [local go_sem] max2_int min2_int max_two min_two
set_option linter.unusedVariables false
set_option linter.unusedSimpArgs false
/-- the table of registers, as the text lays it -/
def Glb (w : World) : Prop := w.cell? ⟨0, 0, none⟩ = some (.int .i64 3) ∧ w.cell? ⟨0, 1, none⟩ = some (.int .i64 5) ∧ w.cell? ⟨0, 2, none⟩ = some (.int .i64 6) ∧ w.cell? ⟨0, 3, none⟩ = some (.int .i64 7) ∧ w.cell? ⟨0, 4, none⟩ = some (.int .i64 8) ∧ w.cell? ⟨0, 5, none⟩ = some (.int .i64 9)
theorem Glb.below {w w' : World} (h : Glb w) (hb : Below w.heap.size w w') : Glb w' :=
  ⟨pw_cell_below hb h.1, pw_cell_below hb h.2.1, pw_cell_below hb h.2.2.1, pw_cell_below hb h.2.2.2.1, pw_cell_below hb h.2.2.2.2.1, pw_cell_below hb h.2.2.2.2.2⟩
/-- the register of a place -/
def rg (i : Int) : Int := if 0 ≤ i ∧ i < 6 then (if i = 0 then 3 else i + 4) else 0
def isRg (i : Int) : Bool := decide (0 ≤ i ∧ i < 6)
theorem rg_lo {i : Int} (h : i < 0) : rg i = 0 ∧ isRg i = false := by unfold rg isRg; exact ⟨if_neg (by omega), decide_eq_false (by omega)⟩
theorem rg_hi {i : Int} (h : 6 ≤ i) : rg i = 0 ∧ isRg i = false := by unfold rg isRg; exact ⟨if_neg (by omega), decide_eq_false (by omega)⟩
set_option maxHeartbeats 1000000 in
set_option maxRecDepth 100000 in
theorem Register (i : Int) (w : World) (hg : Glb w) :
    Calls Tryd.prog 9 #[.int .i64 i] w fun e w' => e = .returned (.tuple #[.int .i64 (rg i), .bool (isRg i)]) ∧ w = w' := by
  obtain ⟨h0, h1, h2, h3, h4, h5⟩ := hg
  have cases : i < 0 ∨ 6 ≤ i ∨ i = 0 ∨ i = 1 ∨ i = 2 ∨ i = 3 ∨ i = 4 ∨ i = 5 := by omega
  rcases cases with h | h | rfl | rfl | rfl | rfl | rfl | rfl
  · obtain ⟨e1, e2⟩ := rg_lo h
    rw [e1, e2]
    clear e1 e2
    go_enter Tryd.func9, Tryd.ntmps9
    go_wp2
    go_ret2
    exact ⟨rfl, rfl⟩
  · obtain ⟨e1, e2⟩ := rg_hi h
    rw [e1, e2]
    clear e1 e2
    go_enter Tryd.func9, Tryd.ntmps9
    go_wp2
    go_ret2
    exact ⟨rfl, rfl⟩
  all_goals
    go_enter Tryd.func9, Tryd.ntmps9
    go_wp2
    go_ret2
    exact ⟨rfl, rfl⟩
set_option maxHeartbeats 1000000 in
set_option maxRecDepth 100000 in
theorem rRegister (i : Int) (w : World) :
    Calls Tryd.prog 10 #[.int .i64 i] w fun e w' => e = .returned (.tuple #[.int .i64 (rg i), .bool (isRg i)]) ∧ w = w' := by
  have cases : i < 0 ∨ 6 ≤ i ∨ i = 0 ∨ (1 ≤ i ∧ i ≤ 5) := by omega
  rcases cases with h | h | rfl | ⟨h, h'⟩
  · obtain ⟨e1, e2⟩ := rg_lo h
    rw [e1, e2]
    clear e1 e2
    go_enter Tryd.func10, Tryd.ntmps10
    go_wp2
    go_ret2
    exact ⟨rfl, rfl⟩
  · obtain ⟨e1, e2⟩ := rg_hi h
    rw [e1, e2]
    clear e1 e2
    have h' : 5 < i := by omega
    go_enter Tryd.func10, Tryd.ntmps10
    go_wp2
    go_ret2
    exact ⟨rfl, rfl⟩
  · go_enter Tryd.func10, Tryd.ntmps10
    go_wp2
    go_ret2
    exact ⟨rfl, rfl⟩
  · have e1 : rg i = i + 4 := by unfold rg; rw [if_pos (by omega), if_neg (by omega)]
    have e2 : isRg i = true := by unfold isRg; exact decide_eq_true (by omega)
    rw [e1, e2]
    clear e1 e2
    go_enter Tryd.func10, Tryd.ntmps10
    go_wp2
    go_ret2
    exact ⟨rfl, rfl⟩
/-- an instruction of the machine, as a value -/
abbrev xv (o : Int) (wd : Bool) (r b i c n : Int) : Value := .agg #[.int .i64 o, .bool wd, .int .i64 r, .int .i64 b, .int .i64 i, .int .i64 c, .int .i64 n]
abbrev xz : Value := xv 0 false 0 0 0 0 0
/-- may they be: a register and a place? -/
def ldOk (reg place : Int) : Bool := decide (0 ≤ reg ∧ reg ≤ 15 ∧ 0 ≤ place ∧ place ≤ 65)
def ld (reg place : Int) : Value := if ldOk reg place then (if place < 6 then xv 1 true (rg place) reg 0 0 0 else xv 11 true reg 4 0 0 (8 * (place - 6))) else xz
def sv (place reg : Int) : Value := if ldOk reg place then (if place < 6 then xv 1 true reg (rg place) 0 0 0 else xv 12 true reg 4 0 0 (8 * (place - 6))) else xz

set_option maxHeartbeats 4000000 in
set_option maxRecDepth 100000 in
theorem Load (reg place : Int) (w : World) (hg : Glb w) :
    Calls Tryd.prog 11 #[.int .i64 reg, .int .i64 place] w fun e w' => e = .returned (.tuple #[ld reg place, .bool (ldOk reg place)]) ∧ Below w.heap.size w w' := by
  have HG := Aside0.mk hg
  clear hg
  have cases : (reg < 0 ∨ (0 ≤ reg ∧ 15 < reg) ∨ ((0 ≤ reg ∧ reg ≤ 15) ∧ place < 0) ∨ ((0 ≤ reg ∧ reg ≤ 15) ∧ 65 < place)) ∨ ((0 ≤ reg ∧ reg ≤ 15) ∧ 0 ≤ place ∧ place < 6) ∨ ((0 ≤ reg ∧ reg ≤ 15) ∧ 6 ≤ place ∧ place ≤ 65) := by omega
  rcases cases with h | ⟨⟨h1, h2⟩, h3, h4⟩ | ⟨⟨h1, h2⟩, h3, h4⟩
  · have e2 : ldOk reg place = false := by unfold ldOk; exact decide_eq_false (by omega)
    unfold ld
    rw [e2, if_neg (by simp)]
    clear e2
    rcases h with h | ⟨h, h'⟩ | ⟨⟨h, h'⟩, h''⟩ | ⟨⟨h, h'⟩, h''⟩
    all_goals
      go_enter Tryd.func11, Tryd.ntmps11
      go_wp2
      exact bodyPost_ret (v := .tuple #[xz, .bool false]) (by simp [results, Tryd.results11, go_sem]) rfl ⟨rfl, (Below.refl _ _).alloc (Nat.le_refl _) _⟩
  · have e2 : ldOk reg place = true := by unfold ldOk; exact decide_eq_true (by omega)
    unfold ld
    rw [e2, if_pos rfl, if_pos h4]
    have e3 : isRg place = true := by unfold isRg; exact decide_eq_true (by omega)
    have E3 := Aside0.mk e3
    clear e2 e3
    have g : ∀ W, Below w.heap.size w W → Glb W := fun W hb => HG.out.below hb
    have G := Aside0.mk g
    clear g
    go_enter Tryd.func11, Tryd.ntmps11
    go_wp2_with (first
      | (go_at_call 9; (with_reducible refine (Register place _ (G.out _ ((Below.refl _ _).alloc (Nat.le_refl _) _))).mono ?_); rw [E3.out]; rintro e w1 ⟨rfl, rfl⟩))
    exact bodyPost_ret (v := .tuple #[xv 1 true (rg place) reg 0 0 0, .bool true]) (by simp [results, Tryd.results11, go_sem]) rfl ⟨rfl, (Below.refl _ _).alloc (Nat.le_refl _) _⟩
  · have e2 : ldOk reg place = true := by unfold ldOk; exact decide_eq_true (by omega)
    unfold ld
    rw [e2, if_pos rfl, if_neg (by omega)]
    have e3 : isRg place = false := by unfold isRg; exact decide_eq_false (by omega)
    have E3 := Aside0.mk e3
    clear e2 e3
    have g : ∀ W, Below w.heap.size w W → Glb W := fun W hb => HG.out.below hb
    have G := Aside0.mk g
    clear g
    go_enter Tryd.func11, Tryd.ntmps11
    go_wp2_with (first
      | (go_at_call 9; (with_reducible refine (Register place _ (G.out _ ((Below.refl _ _).alloc (Nat.le_refl _) _))).mono ?_); rw [E3.out]; rintro e w1 ⟨rfl, rfl⟩))
    exact bodyPost_ret (v := .tuple #[xv 11 true reg 4 0 0 (8 * (place - 6)), .bool true]) (by simp [results, Tryd.results11, go_sem]) rfl ⟨rfl, (Below.refl _ _).alloc (Nat.le_refl _) _⟩
set_option maxHeartbeats 4000000 in
set_option maxRecDepth 100000 in
theorem rLoad (reg place : Int) (w : World) :
    Calls Tryd.prog 12 #[.int .i64 reg, .int .i64 place] w fun e w' => e = .returned (.tuple #[ld reg place, .bool (ldOk reg place)]) ∧ Below w.heap.size w w' := by
  have cases : (reg < 0 ∨ (0 ≤ reg ∧ 15 < reg) ∨ ((0 ≤ reg ∧ reg ≤ 15) ∧ place < 0) ∨ ((0 ≤ reg ∧ reg ≤ 15) ∧ 65 < place)) ∨ ((0 ≤ reg ∧ reg ≤ 15) ∧ 0 ≤ place ∧ place < 6) ∨ ((0 ≤ reg ∧ reg ≤ 15) ∧ 6 ≤ place ∧ place ≤ 65) := by omega
  rcases cases with h | ⟨⟨h1, h2⟩, h3, h4⟩ | ⟨⟨h1, h2⟩, h3, h4⟩
  · have e2 : ldOk reg place = false := by unfold ldOk; exact decide_eq_false (by omega)
    unfold ld
    rw [e2, if_neg (by simp)]
    clear e2
    rcases h with h | ⟨h, h'⟩ | ⟨⟨h, h'⟩, h''⟩ | ⟨⟨h, h'⟩, h''⟩
    all_goals
      go_enter Tryd.func12, Tryd.ntmps12
      go_wp2
      exact bodyPost_ret (v := .tuple #[xz, .bool false]) (by simp [results, Tryd.results12, go_sem]) rfl ⟨rfl, (Below.refl _ _).alloc (Nat.le_refl _) _⟩
  · have e2 : ldOk reg place = true := by unfold ldOk; exact decide_eq_true (by omega)
    unfold ld
    rw [e2, if_pos rfl, if_pos h4]
    have e3 : isRg place = true := by unfold isRg; exact decide_eq_true (by omega)
    have E3 := Aside0.mk e3
    clear e2 e3
    go_enter Tryd.func12, Tryd.ntmps12
    go_wp2_with (first
      | (go_at_call 10; (with_reducible refine (rRegister place _).mono ?_); rw [E3.out]; rintro e w1 ⟨rfl, rfl⟩))
    exact bodyPost_ret (v := .tuple #[xv 1 true (rg place) reg 0 0 0, .bool true]) (by simp [results, Tryd.results12, go_sem]) rfl ⟨rfl, (Below.refl _ _).alloc (Nat.le_refl _) _⟩
  · have e2 : ldOk reg place = true := by unfold ldOk; exact decide_eq_true (by omega)
    unfold ld
    rw [e2, if_pos rfl, if_neg (by omega)]
    have e3 : isRg place = false := by unfold isRg; exact decide_eq_false (by omega)
    have E3 := Aside0.mk e3
    clear e2 e3
    go_enter Tryd.func12, Tryd.ntmps12
    go_wp2_with (first
      | (go_at_call 10; (with_reducible refine (rRegister place _).mono ?_); rw [E3.out]; rintro e w1 ⟨rfl, rfl⟩))
    exact bodyPost_ret (v := .tuple #[xv 11 true reg 4 0 0 (8 * (place - 6)), .bool true]) (by simp [results, Tryd.results12, go_sem]) rfl ⟨rfl, (Below.refl _ _).alloc (Nat.le_refl _) _⟩
theorem ld_no {reg place : Int} (h : ldOk reg place = false) : ld reg place = xz := by unfold ld; rw [h, if_neg (by simp)]
theorem ld_mov {reg place : Int} (h : ldOk reg place = true) (h4 : place < 6) : ld reg place = xv 1 true (rg place) reg 0 0 0 := by unfold ld; rw [h, if_pos rfl, if_pos h4]
theorem ld_load {reg place : Int} (h : ldOk reg place = true) (h4 : ¬ place < 6) : ld reg place = xv 11 true reg 4 0 0 (8 * (place - 6)) := by unfold ld; rw [h, if_pos rfl, if_neg h4]
theorem sv_no {reg place : Int} (h : ldOk reg place = false) : sv place reg = xz := by unfold sv; rw [h, if_neg (by simp)]
theorem sv_mov {reg place : Int} (h : ldOk reg place = true) (h4 : place < 6) : sv place reg = xv 1 true reg (rg place) 0 0 0 := by unfold sv; rw [h, if_pos rfl, if_pos h4]
theorem sv_load {reg place : Int} (h : ldOk reg place = true) (h4 : ¬ place < 6) : sv place reg = xv 12 true reg 4 0 0 (8 * (place - 6)) := by unfold sv; rw [h, if_pos rfl, if_neg h4]
theorem below_own {w W : World} (h : Below w.heap.size w W) (j : Nat) (u : Value) : Below w.heap.size w (W.setCell ⟨w.heap.size, j, none⟩ u) := h.setCell (Nat.le_refl _) u
theorem bcell {W w1 : World} (hb : Below W.heap.size W w1) : (∀ b o, b < W.heap.size → w1.cell? ⟨b, o, none⟩ = W.cell? ⟨b, o, none⟩) ∧ (∀ b o, b < W.heap.size → w1.frozen? ⟨b, o, none⟩ = W.frozen? ⟨b, o, none⟩) :=
  ⟨fun b o h => hb.cell (p := ⟨b, o, none⟩) h, fun b o h => hb.frozen (p := ⟨b, o, none⟩) h⟩
set_option maxHeartbeats 8000000 in
set_option maxRecDepth 100000 in
theorem Save (place reg : Int) (w : World) (hg : Glb w) :
    Calls Tryd.prog 13 #[.int .i64 place, .int .i64 reg] w fun e w' => e = .returned (.tuple #[sv place reg, .bool (ldOk reg place)]) ∧ Below w.heap.size w w' := by
  have HG := Aside0.mk hg
  clear hg
  have g : ∀ W, Below w.heap.size w W → Glb W := fun W hb => HG.out.below hb
  have G := Aside0.mk g
  clear g
  cases hk : ldOk reg place with
  | false =>
    rw [sv_no hk]
    have E := Aside0.mk (And.intro hk (ld_no hk))
    clear hk
    go_enter Tryd.func13, Tryd.ntmps13
    go_wp2_with (first
      | (go_at_call 11; (with_reducible refine (Load reg place _ (G.out _ ((Below.refl _ _).alloc (Nat.le_refl _) _))).mono ?_); rw [E.out.1, E.out.2]; rintro e w1 ⟨rfl, hb1⟩; obtain ⟨hc, hf⟩ := bcell hb1; have hz : w.heap.size < w1.heap.size := (by have := hb1.size; simp at this; omega); have H1 := Aside0.mk hb1; clear hb1))
    have B1 : Below w.heap.size w w1 := ((Below.refl _ _).alloc (Nat.le_refl _) _).trans (H1.out.mono (by simp))
    exact bodyPost_ret (v := .tuple #[xz, .bool false]) (by simp [results, Tryd.results13, go_sem, hc, hz]) rfl ⟨rfl, (by with_reducible repeat (first | exact B1 | refine below_alloc ?_ _ | refine below_own ?_ _ _))⟩
  | true =>
    by_cases h4 : place < 6
    · rw [sv_mov hk h4]
      have E := Aside0.mk (And.intro hk (ld_mov hk h4))
      clear hk
      go_enter Tryd.func13, Tryd.ntmps13
      go_wp2_with (first
        | (go_at_call 11; (with_reducible refine (Load reg place _ (G.out _ ((Below.refl _ _).alloc (Nat.le_refl _) _))).mono ?_); rw [E.out.1, E.out.2]; rintro e w1 ⟨rfl, hb1⟩; obtain ⟨hc, hf⟩ := bcell hb1; have hz : w.heap.size < w1.heap.size := (by have := hb1.size; simp at this; omega); have H1 := Aside0.mk hb1; clear hb1))
      have B1 : Below w.heap.size w w1 := ((Below.refl _ _).alloc (Nat.le_refl _) _).trans (H1.out.mono (by simp))
      exact bodyPost_ret (v := .tuple #[xv 1 true reg (rg place) 0 0 0, .bool true]) (by simp [results, Tryd.results13, go_sem, hc, hz]) rfl ⟨rfl, (by with_reducible repeat (first | exact B1 | refine below_alloc ?_ _ | refine below_own ?_ _ _))⟩
    · rw [sv_load hk h4]
      have E := Aside0.mk (And.intro hk (ld_load hk h4))
      clear hk
      go_enter Tryd.func13, Tryd.ntmps13
      go_wp2_with (first
        | (go_at_call 11; (with_reducible refine (Load reg place _ (G.out _ ((Below.refl _ _).alloc (Nat.le_refl _) _))).mono ?_); rw [E.out.1, E.out.2]; rintro e w1 ⟨rfl, hb1⟩; obtain ⟨hc, hf⟩ := bcell hb1; have hz : w.heap.size < w1.heap.size := (by have := hb1.size; simp at this; omega); have H1 := Aside0.mk hb1; clear hb1))
      have B1 : Below w.heap.size w w1 := ((Below.refl _ _).alloc (Nat.le_refl _) _).trans (H1.out.mono (by simp))
      exact bodyPost_ret (v := .tuple #[xv 12 true reg 4 0 0 (8 * (place - 6)), .bool true]) (by simp [results, Tryd.results13, go_sem, hc, hz]) rfl ⟨rfl, (by with_reducible repeat (first | exact B1 | refine below_alloc ?_ _ | refine below_own ?_ _ _))⟩
set_option maxHeartbeats 8000000 in
set_option maxRecDepth 100000 in
theorem rSave (place reg : Int) (w : World) :
    Calls Tryd.prog 14 #[.int .i64 place, .int .i64 reg] w fun e w' => e = .returned (.tuple #[sv place reg, .bool (ldOk reg place)]) ∧ Below w.heap.size w w' := by
  cases hk : ldOk reg place with
  | false =>
    rw [sv_no hk]
    have E := Aside0.mk (And.intro hk (ld_no hk))
    clear hk
    go_enter Tryd.func14, Tryd.ntmps14
    go_wp2_with (first
      | (go_at_call 12; (with_reducible refine (rLoad reg place _).mono ?_); rw [E.out.1, E.out.2]; rintro e w1 ⟨rfl, hb1⟩; obtain ⟨hc, hf⟩ := bcell hb1; have hz : w.heap.size < w1.heap.size := (by have := hb1.size; simp at this; omega); have H1 := Aside0.mk hb1; clear hb1))
    have B1 : Below w.heap.size w w1 := ((Below.refl _ _).alloc (Nat.le_refl _) _).trans (H1.out.mono (by simp))
    exact bodyPost_ret (v := .tuple #[xz, .bool false]) (by simp [results, Tryd.results14, go_sem, hc, hz]) rfl ⟨rfl, (by with_reducible repeat (first | exact B1 | refine below_alloc ?_ _ | refine below_own ?_ _ _))⟩
  | true =>
    by_cases h4 : place < 6
    · rw [sv_mov hk h4]
      have E := Aside0.mk (And.intro hk (ld_mov hk h4))
      clear hk
      go_enter Tryd.func14, Tryd.ntmps14
      go_wp2_with (first
        | (go_at_call 12; (with_reducible refine (rLoad reg place _).mono ?_); rw [E.out.1, E.out.2]; rintro e w1 ⟨rfl, hb1⟩; obtain ⟨hc, hf⟩ := bcell hb1; have hz : w.heap.size < w1.heap.size := (by have := hb1.size; simp at this; omega); have H1 := Aside0.mk hb1; clear hb1))
      have B1 : Below w.heap.size w w1 := ((Below.refl _ _).alloc (Nat.le_refl _) _).trans (H1.out.mono (by simp))
      exact bodyPost_ret (v := .tuple #[xv 1 true reg (rg place) 0 0 0, .bool true]) (by simp [results, Tryd.results14, go_sem, hc, hz]) rfl ⟨rfl, (by with_reducible repeat (first | exact B1 | refine below_alloc ?_ _ | refine below_own ?_ _ _))⟩
    · rw [sv_load hk h4]
      have E := Aside0.mk (And.intro hk (ld_load hk h4))
      clear hk
      go_enter Tryd.func14, Tryd.ntmps14
      go_wp2_with (first
        | (go_at_call 12; (with_reducible refine (rLoad reg place _).mono ?_); rw [E.out.1, E.out.2]; rintro e w1 ⟨rfl, hb1⟩; obtain ⟨hc, hf⟩ := bcell hb1; have hz : w.heap.size < w1.heap.size := (by have := hb1.size; simp at this; omega); have H1 := Aside0.mk hb1; clear hb1))
      have B1 : Below w.heap.size w w1 := ((Below.refl _ _).alloc (Nat.le_refl _) _).trans (H1.out.mono (by simp))
      exact bodyPost_ret (v := .tuple #[xv 12 true reg 4 0 0 (8 * (place - 6)), .bool true]) (by simp [results, Tryd.results14, go_sem, hc, hz]) rfl ⟨rfl, (by with_reducible repeat (first | exact B1 | refine below_alloc ?_ _ | refine below_own ?_ _ _))⟩
end Go.Proofs.YtlhhhkhbfnjkiaaDoor.Tells

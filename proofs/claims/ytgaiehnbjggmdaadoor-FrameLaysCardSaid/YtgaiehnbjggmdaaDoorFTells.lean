/- The places of chapter 19, the program's functions and the law's examples. No condition but that the table of registers holds what the program's text lays. -/
import Derived.Test.YtgaiehnbjggmdaaDoorXW
import Derived.Test.YtgaiehnbjggmdaaDoorProg
import Derived.WalkKit
import Derived.LoopTactic
import Derived.Outline
namespace Go.Proofs.YtgaiehnbjggmdaaDoor.F
open Go.RowKit Go.Proofs.YtgaiehnbjggmdaaDoorW.PrintWords Go.Proofs.YtgaiehnbjggmdaaDoorW.PrintMore
attribute [local go_sem] max2_int min2_int max_two min_two
set_option linter.unusedVariables false
set_option linter.unusedSimpArgs false
/-- the table of registers, as the text lays it -/
def Glb (w : World) : Prop := w.cell? ⟨0, 0, none⟩ = some (.int .i64 3) ∧ w.cell? ⟨0, 1, none⟩ = some (.int .i64 5) ∧ w.cell? ⟨0, 2, none⟩ = some (.int .i64 6) ∧ w.cell? ⟨0, 3, none⟩ = some (.int .i64 7) ∧ w.cell? ⟨0, 4, none⟩ = some (.int .i64 8) ∧ w.cell? ⟨0, 5, none⟩ = some (.int .i64 9)
theorem Glb.below {w w' : World} (h : Glb w) (hb : Below w.heap.size w w') : Glb w' :=
  ⟨pw_cell_below hb h.1, pw_cell_below hb h.2.1, pw_cell_below hb h.2.2.1, pw_cell_below hb h.2.2.2.1, pw_cell_below hb h.2.2.2.2.1, pw_cell_below hb h.2.2.2.2.2⟩
/-- the register of a place -/
def rg (i : Int) : Int := if 0 ≤ i ∧ i < 6 then (if i = 0 then 3 else i + 4) else 0
def isRg (i : Int) : Bool := decide (0 ≤ i ∧ i < 6)
theorem rg_lo {i : Int} (h : i < 0) : rg i = 0 ∧ isRg i = false := by unfold rg isRg; exact ⟨if_neg (by omega), decide_eq_false (by omega)⟩
theorem rg_hi {i : Int} (h : 6 ≤ i) : rg i = 0 ∧ isRg i = false := by unfold rg isRg; exact ⟨if_neg (by omega), decide_eq_false (by omega)⟩
set_option maxHeartbeats 1000000 in
set_option maxRecDepth 100000 in
theorem Register (i : Int) (w : World) (hg : Glb w) :
    Calls Tryd.prog 23 #[.int .i64 i] w fun e w' => e = .returned (.tuple #[.int .i64 (rg i), .bool (isRg i)]) ∧ w = w' := by
  obtain ⟨h0, h1, h2, h3, h4, h5⟩ := hg
  have cases : i < 0 ∨ 6 ≤ i ∨ i = 0 ∨ i = 1 ∨ i = 2 ∨ i = 3 ∨ i = 4 ∨ i = 5 := by omega
  rcases cases with h | h | rfl | rfl | rfl | rfl | rfl | rfl
  · obtain ⟨e1, e2⟩ := rg_lo h
    rw [e1, e2]
    clear e1 e2
    go_enter Tryd.func23, Tryd.ntmps23
    go_wp2
    go_ret2
    exact ⟨rfl, rfl⟩
  · obtain ⟨e1, e2⟩ := rg_hi h
    rw [e1, e2]
    clear e1 e2
    go_enter Tryd.func23, Tryd.ntmps23
    go_wp2
    go_ret2
    exact ⟨rfl, rfl⟩
  all_goals
    go_enter Tryd.func23, Tryd.ntmps23
    go_wp2
    go_ret2
    exact ⟨rfl, rfl⟩
/-- an instruction of the machine, as a value -/
abbrev xv (o : Int) (wd : Bool) (r b i c n : Int) : Value := .agg #[.int .i64 o, .bool wd, .int .i64 r, .int .i64 b, .int .i64 i, .int .i64 c, .int .i64 n]
abbrev xz : Value := xv 0 false 0 0 0 0 0
/-- may they be: a register and a place? -/
def ldOk (reg place : Int) : Bool := decide (0 ≤ reg ∧ reg ≤ 15 ∧ 0 ≤ place ∧ place ≤ 65)
def ld (reg place : Int) : Value := if ldOk reg place then (if place < 6 then xv 1 true (rg place) reg 0 0 0 else xv 11 true reg 4 0 0 (8 * (place - 6))) else xz
set_option maxHeartbeats 4000000 in
set_option maxRecDepth 100000 in
theorem Load (reg place : Int) (w : World) (hg : Glb w) :
    Calls Tryd.prog 25 #[.int .i64 reg, .int .i64 place] w fun e w' => e = .returned (.tuple #[ld reg place, .bool (ldOk reg place)]) ∧ Below w.heap.size w w' := by
  have HG := Aside0.mk hg
  clear hg
  have cases : (reg < 0 ∨ (0 ≤ reg ∧ 15 < reg) ∨ ((0 ≤ reg ∧ reg ≤ 15) ∧ place < 0) ∨ ((0 ≤ reg ∧ reg ≤ 15) ∧ 65 < place)) ∨ ((0 ≤ reg ∧ reg ≤ 15) ∧ 0 ≤ place ∧ place < 6) ∨ ((0 ≤ reg ∧ reg ≤ 15) ∧ 6 ≤ place ∧ place ≤ 65) := by omega
  rcases cases with h | ⟨⟨h1, h2⟩, h3, h4⟩ | ⟨⟨h1, h2⟩, h3, h4⟩
  · have e2 : ldOk reg place = false := by unfold ldOk; exact decide_eq_false (by omega)
    unfold ld
    rw [e2, if_neg (by simp)]
    clear e2
    rcases h with h | ⟨h, h'⟩ | ⟨⟨h, h'⟩, h''⟩ | ⟨⟨h, h'⟩, h''⟩
    all_goals
      go_enter Tryd.func25, Tryd.ntmps25
      go_wp2
      exact bodyPost_ret (v := .tuple #[xz, .bool false]) (by simp [results, Tryd.results25, go_sem]) rfl ⟨rfl, (Below.refl _ _).alloc (Nat.le_refl _) _⟩
  · have e2 : ldOk reg place = true := by unfold ldOk; exact decide_eq_true (by omega)
    unfold ld
    rw [e2, if_pos rfl, if_pos h4]
    have e3 : isRg place = true := by unfold isRg; exact decide_eq_true (by omega)
    have E3 := Aside0.mk e3
    clear e2 e3
    have g : ∀ W, Below w.heap.size w W → Glb W := fun W hb => HG.out.below hb
    have G := Aside0.mk g
    clear g
    go_enter Tryd.func25, Tryd.ntmps25
    go_wp2_with (first
      | (go_at_call 23; (with_reducible refine (Register place _ (G.out _ ((Below.refl _ _).alloc (Nat.le_refl _) _))).mono ?_); rw [E3.out]; rintro e w1 ⟨rfl, rfl⟩))
    exact bodyPost_ret (v := .tuple #[xv 1 true (rg place) reg 0 0 0, .bool true]) (by simp [results, Tryd.results25, go_sem]) rfl ⟨rfl, (Below.refl _ _).alloc (Nat.le_refl _) _⟩
  · have e2 : ldOk reg place = true := by unfold ldOk; exact decide_eq_true (by omega)
    unfold ld
    rw [e2, if_pos rfl, if_neg (by omega)]
    have e3 : isRg place = false := by unfold isRg; exact decide_eq_false (by omega)
    have E3 := Aside0.mk e3
    clear e2 e3
    have g : ∀ W, Below w.heap.size w W → Glb W := fun W hb => HG.out.below hb
    have G := Aside0.mk g
    clear g
    go_enter Tryd.func25, Tryd.ntmps25
    go_wp2_with (first
      | (go_at_call 23; (with_reducible refine (Register place _ (G.out _ ((Below.refl _ _).alloc (Nat.le_refl _) _))).mono ?_); rw [E3.out]; rintro e w1 ⟨rfl, rfl⟩))
    exact bodyPost_ret (v := .tuple #[xv 11 true reg 4 0 0 (8 * (place - 6)), .bool true]) (by simp [results, Tryd.results25, go_sem]) rfl ⟨rfl, (Below.refl _ _).alloc (Nat.le_refl _) _⟩
set_option maxRecDepth 100000 in
theorem eqx (o : Int) (wd : Bool) (r b i c n : Int) (o' : Int) (wd' : Bool) (r' b' i' c' n' : Int) (W : World) :
    (Op.equalIn 10000 48 (xv o wd r b i c n) (xv o' wd' r' b' i' c' n')).run Tryd.prog W = .ok (o == o' && (wd == wd' && (r == r' && (b == b' && (i == i' && (c == c' && n == n')))))) W := by
  refine eqA_of Tryd.underlying48 (by kernel_rfl) ?_
  refine eqf_cons (by rfl) (by go_simp; rfl) (by go_simp; rfl) (by go_simp) ?_
  refine eqf_cons (by rfl) (by go_simp; rfl) (by go_simp; rfl) (by go_simp) ?_
  refine eqf_cons (by rfl) (by go_simp; rfl) (by go_simp; rfl) (by go_simp) ?_
  refine eqf_cons (by rfl) (by go_simp; rfl) (by go_simp; rfl) (by go_simp) ?_
  refine eqf_cons (by rfl) (by go_simp; rfl) (by go_simp; rfl) (by go_simp) ?_
  refine eqf_cons (by rfl) (by go_simp; rfl) (by go_simp; rfl) (by go_simp) ?_
  exact eqf_last (by rfl) (by go_simp; rfl) (by go_simp; rfl) (by go_simp)
theorem Args (i : Int) (w : World) : Calls Tryd.prog 31 #[.int .i64 i] w fun e w' => e = .returned (.int .i64 (wrap64 (8 * i))) ∧ w = w' := by
  go_enter Tryd.func31, Tryd.ntmps31
  go_wp2
  go_ret
  exact ⟨rfl, rfl⟩
theorem Global (i : Int) (w : World) : Calls Tryd.prog 33 #[.int .i64 i] w fun e w' => e = .returned (.int .i64 (wrap64 (40 + wrap64 (8 * i)))) ∧ w = w' := by
  go_enter Tryd.func33, Tryd.ntmps33
  go_wp2
  go_ret
  exact ⟨rfl, rfl⟩
theorem Memory (i : Int) (w : World) : Calls Tryd.prog 35 #[.int .i64 i] w fun e w' => e = .returned (.int .i64 (wrap64 (wrap64 (131072 + wrap64 (65536 * i)) - 65536))) ∧ w = w' := by
  go_enter Tryd.func35, Tryd.ntmps35
  go_wp2
  go_ret
  exact ⟨rfl, rfl⟩
theorem NCalls (w : World) : Calls Tryd.prog 42 #[] w fun e w' => e = .returned (.int .i64 32) ∧ w = w' := by
  go_enter Tryd.func42, Tryd.ntmps42
  go_wp2
  go_ret
  exact ⟨rfl, rfl⟩
set_option maxHeartbeats 2000000 in
set_option maxRecDepth 100000 in
theorem examples (w : World) (hg : Glb w) : Calls Tryd.prog 22 #[] w fun e w' => e = .returned (.bool true) ∧ Below w.heap.size w w' := by
  have HG := Aside0.mk hg
  clear hg
  have e1 : rg 3 = 7 := rfl
  have e2 : isRg 3 = true := rfl
  have e3 : ld 0 7 = xv 11 true 0 4 0 0 8 := rfl
  have e4 : ldOk 0 7 = true := rfl
  have e5 : wrap64 (40 + wrap64 (8 * 1)) = 48 := by unfold wrap64; omega
  have e6 : wrap64 (wrap64 (131072 + wrap64 (65536 * 1)) - 65536) = 131072 := by unfold wrap64; omega
  have E := Aside0.mk (And.intro (And.intro e1 e2) (And.intro (And.intro e3 e4) (And.intro e5 e6)))
  clear e1 e2 e3 e4 e5 e6
  have heq := fun W => eqx 11 true 0 4 0 0 8 11 true 0 4 0 0 8 W
  go_enter Tryd.func22, Tryd.ntmps22
  go_wp2_with (first
    | (go_at_call 23; (with_reducible refine (Register 3 _ HG.out).mono ?_); rw [E.out.1.1, E.out.1.2]; rintro e w1 ⟨rfl, rfl⟩)
    | (go_at_call 25; (with_reducible refine (Load 0 7 _ HG.out).mono ?_); rw [E.out.2.1.1, E.out.2.1.2]; rintro e w1 ⟨rfl, hb1⟩; have H1 := Aside0.mk hb1; clear hb1)
    | (go_at_call 42; (with_reducible refine (NCalls _).mono ?_); rintro e w2 ⟨rfl, rfl⟩)
    | (go_at_call 33; (with_reducible refine (Global 1 _).mono ?_); rw [E.out.2.2.1]; rintro e w3 ⟨rfl, rfl⟩)
    | (go_at_call 35; (with_reducible refine (Memory 1 _).mono ?_); rw [E.out.2.2.2]; rintro e w4 ⟨rfl, rfl⟩))
  go_ret
  exact ⟨rfl, below_alloc H1.out _⟩
end Go.Proofs.YtgaiehnbjggmdaaDoor.F

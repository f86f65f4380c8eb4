/- The instructions of one byte: what the program's reader of them computes, kind by kind. Printed by genone.py. -/
import Derived.Test.YtkfinaongajhmaaDoorXOneA
namespace Go.Proofs.YtkfinaongajhmaaDoor.X
open Go.Ob Go.Ob.Xc Go.RowKit Go.Proofs.YtkfinaongajhmaaDoorW.PrintWords Go.Proofs.YtkfinaongajhmaaDoorW.PrintMore
attribute [local go_sem] max2_int min2_int max_two min_two
set_option linter.unusedVariables false
set_option linter.unusedSimpArgs false
theorem SO.alloc {g p : Nat} {s : ByteArray} {r i m : Int} {W : World} (h : SO g p s r i m W) (o : Obj) : SO g p s r i m (W.alloc o) := ⟨blk_alloc h.1 o, blk_alloc h.2 o⟩
theorem below_own1 {w W : World} (h : Below w.heap.size w W) (j : Nat) (u : Value) : Below w.heap.size w (W.setCell ⟨w.heap.size + 1, j, none⟩ u) := h.setCell (Nat.le_add_right _ _) u
theorem below_own2 {w W : World} (h : Below w.heap.size w W) (j : Nat) (u : Value) : Below w.heap.size w (W.setCell ⟨w.heap.size + 1 + 1, j, none⟩ u) := h.setCell (Nat.le_trans (Nat.le_add_right _ _) (Nat.le_add_right _ _)) u
/-- the world in which the closures are called -/
abbrev U1 (w : World) (g : Nat) (wd : Bool) : World := ((w.alloc (.cells #[.pointer (some ⟨g, 0, none⟩)] 74 (0, 0))).alloc (.cells #[.int .i64 0, .bool false, .int .i64 0, .int .i64 0, .int .i64 0, .int .i64 0, .int .i64 0] 23 (0, 0))).alloc (.cells #[.int .i64 0, .bool wd, .int .i64 0, .int .i64 0, .int .i64 0, .int .i64 0, .int .i64 0] 23 (0, 0))
theorem U1_x (w : World) (g : Nat) (wd : Bool) : (U1 w g wd).heap[w.heap.size + 1 + 1]? = some (xo ⟨0, wd, 0, 0, 0, 0, 0⟩) := by
  have h := blk_new ((w.alloc (.cells #[.pointer (some ⟨g, 0, none⟩)] 74 (0, 0))).alloc (.cells #[.int .i64 0, .bool false, .int .i64 0, .int .i64 0, .int .i64 0, .int .i64 0, .int .i64 0] 23 (0, 0))) (.cells #[.int .i64 0, .bool wd, .int .i64 0, .int .i64 0, .int .i64 0, .int .i64 0, .int .i64 0] 23 (0, 0))
  have hz : ((w.alloc (.cells #[.pointer (some ⟨g, 0, none⟩)] 74 (0, 0))).alloc (.cells #[.int .i64 0, .bool false, .int .i64 0, .int .i64 0, .int .i64 0, .int .i64 0, .int .i64 0] 23 (0, 0))).heap.size = w.heap.size + 1 + 1 := by simp only [World.size_alloc]
  rw [hz] at h
  exact h
theorem cA0 (s : ByteArray) (r i m : Int) (g : Nat) (w : World) (hs : s.size ≤ 281474976710656) (hr : r = 0 ∨ r = 8) (hm : m = 0 ∨ m = 8) : ∀ W, SO g w.heap.size s r i m W → Calls Tryd.prog 46 #[.pointer (some ⟨g, 0, none⟩), .int .i64 0] W fun e w' => e = .returned (.int .i64 (at0 (bl s) 0)) ∧ W = w' := fun W h => At s r i m g 0 W (by decide) hs h.1
theorem cA1 (s : ByteArray) (r i m : Int) (g : Nat) (w : World) (hs : s.size ≤ 281474976710656) (hr : r = 0 ∨ r = 8) (hm : m = 0 ∨ m = 8) : ∀ W, SO g w.heap.size s r i m W → Calls Tryd.prog 46 #[.pointer (some ⟨g, 0, none⟩), .int .i64 1] W fun e w' => e = .returned (.int .i64 (at0 (bl s) 1)) ∧ W = w' := fun W h => At s r i m g 1 W (by decide) hs h.1
theorem cA2 (s : ByteArray) (r i m : Int) (g : Nat) (w : World) (hs : s.size ≤ 281474976710656) (hr : r = 0 ∨ r = 8) (hm : m = 0 ∨ m = 8) : ∀ W, SO g w.heap.size s r i m W → Calls Tryd.prog 46 #[.pointer (some ⟨g, 0, none⟩), .int .i64 2] W fun e w' => e = .returned (.int .i64 (at0 (bl s) 2)) ∧ W = w' := fun W h => At s r i m g 2 W (by decide) hs h.1
theorem cR1 (s : ByteArray) (r i m : Int) (g : Nat) (w : World) (hs : s.size ≤ 281474976710656) (hr : r = 0 ∨ r = 8) (hm : m = 0 ∨ m = 8) : ∀ W, SO g w.heap.size s r i m W → Calls Tryd.prog 62 #[.pointer (some ⟨g, 0, none⟩), .int .i64 1] W fun e w' => e = .returned (.int .i64 (rg (bl s) 1 r)) ∧ ∃ n, w' = W.drewN n := fun W h => RegAt s r i m g 1 W (by decide) hs hr h.1
theorem cL1 (s : ByteArray) (r i m : Int) (g : Nat) (w : World) (hs : s.size ≤ 281474976710656) (hr : r = 0 ∨ r = 8) (hm : m = 0 ∨ m = 8) : ∀ W, SO g w.heap.size s r i m W → Calls Tryd.prog 63 #[.pointer (some ⟨g, 0, none⟩), .int .i64 1] W fun e w' => e = .returned (.int .i64 (lw (bl s) 1 m)) ∧ ∃ n, w' = W.drewN n := fun W h => LowAt s r i m g 1 W (by decide) hs hm h.1
theorem cL2 (s : ByteArray) (r i m : Int) (g : Nat) (w : World) (hs : s.size ≤ 281474976710656) (hr : r = 0 ∨ r = 8) (hm : m = 0 ∨ m = 8) : ∀ W, SO g w.heap.size s r i m W → Calls Tryd.prog 63 #[.pointer (some ⟨g, 0, none⟩), .int .i64 2] W fun e w' => e = .returned (.int .i64 (lw (bl s) 2 m)) ∧ ∃ n, w' = W.drewN n := fun W h => LowAt s r i m g 2 W (by decide) hs hm h.1
theorem cS1 (s : ByteArray) (r i m : Int) (g : Nat) (w : World) (hs : s.size ≤ 281474976710656) (hr : r = 0 ∨ r = 8) (hm : m = 0 ∨ m = 8) : ∀ W, SO g w.heap.size s r i m W → Calls Tryd.prog 64 #[.pointer (some ⟨g, 0, none⟩), .int .i64 1, .int .i64 4] W fun e w' => e = .returned (.int .i64 (sg4 (bl s) 1)) ∧ W = w' := fun W h => Signed4 s r i m g 1 W (by decide) hs h.1
theorem cS2 (s : ByteArray) (r i m : Int) (g : Nat) (w : World) (hs : s.size ≤ 281474976710656) (hr : r = 0 ∨ r = 8) (hm : m = 0 ∨ m = 8) : ∀ W, SO g w.heap.size s r i m W → Calls Tryd.prog 64 #[.pointer (some ⟨g, 0, none⟩), .int .i64 2, .int .i64 4] W fun e w' => e = .returned (.int .i64 (sg4 (bl s) 2)) ∧ W = w' := fun W h => Signed4 s r i m g 2 W (by decide) hs h.1
theorem cS3 (s : ByteArray) (r i m : Int) (g : Nat) (w : World) (hs : s.size ≤ 281474976710656) (hr : r = 0 ∨ r = 8) (hm : m = 0 ∨ m = 8) : ∀ W, SO g w.heap.size s r i m W → Calls Tryd.prog 64 #[.pointer (some ⟨g, 0, none⟩), .int .i64 3, .int .i64 4] W fun e w' => e = .returned (.int .i64 (sg4 (bl s) 3)) ∧ W = w' := fun W h => Signed4 s r i m g 3 W (by decide) hs h.1
theorem cS8 (s : ByteArray) (r i m : Int) (g : Nat) (w : World) (hs : s.size ≤ 281474976710656) (hr : r = 0 ∨ r = 8) (hm : m = 0 ∨ m = 8) : ∀ W, SO g w.heap.size s r i m W → Calls Tryd.prog 64 #[.pointer (some ⟨g, 0, none⟩), .int .i64 1, .int .i64 8] W fun e w' => e = .returned (.int .i64 (sg8 (bl s) 1)) ∧ W = w' := fun W h => Signed8 s r i m g 1 W (by decide) hs h.1
theorem mkf : ∀ (fn : Fn) (first cap : Array Value) (w : World), (Instr.makeFunc fn first cap).run Tryd.prog w = .ok (.func fn first cap) w := fun _ _ _ _ => rfl
theorem so1 {w : World} {s : ByteArray} {r i m : Int} {g : Nat} (hg : w.heap[g]? = some (co s r i m)) : SO g w.heap.size s r i m (w.alloc (.cells #[.pointer (some ⟨g, 0, none⟩)] 74 (0, 0))) := ⟨blk_alloc hg _, blk_new _ _⟩
set_option maxHeartbeats 16000000 in
set_option maxRecDepth 100000 in
theorem One2a (s : ByteArray) (r i m : Int) (g : Nat) (wd : Bool) (w : World) (hs : s.size ≤ 281474976710656) (hr : r = 0 ∨ r = 8) (hi : i = 0 ∨ i = 8) (hm : m = 0 ∨ m = 8) (hg : w.heap[g]? = some (co s r i m)) (h0 : at0 (bl s) 0 = 137) (h1 : ¬ at0 (bl s) 1 / 64 = 3) (h2 : rg (bl s) 2 i = 4) :
    Calls Tryd.prog 48 #[.pointer (some ⟨g, 0, none⟩), .bool wd] w fun e w' => e = .returned (xv ⟨12, wd, rg (bl s) 1 r, lw (bl s) 2 m, 0, 0, sg4 (bl s) 3⟩) ∧ Below w.heap.size w w' := by
  have hs1 := so1 hg
  have hgx : g ≠ w.heap.size + 1 + 1 := by have := blk_lt hg; omega
  have hpx : w.heap.size ≠ w.heap.size + 1 + 1 := by omega
  have hb0 := at0_bd s 0
  have hb1 := at0_bd s 1
  have A0 := cA0 s r i m g w hs hr hm
  have A1 := cA1 s r i m g w hs hr hm
  have A2 := cA2 s r i m g w hs hr hm
  have R1 := cR1 s r i m g w hs hr hm
  have L2 := cL2 s r i m g w hs hr hm
  have S3 := cS3 s r i m g w hs hr hm
  have e3 : (at0 (bl s) 1 / 64 == 3) = false := beq_eq_false_iff_ne.mpr h1
  have hb2 := at0_bd s 2
  have hbit := reg_bits (at0 (bl s) 2) i hb2.1 hb2.2 hi
  have hy : 0 ≤ rg (bl s) 2 i ∧ rg (bl s) 2 i ≤ 15 := by unfold rg; omega
  rw [show at0 (bl s) 2 / 8 % 8 + i = rg (bl s) 2 i from rfl] at hbit
  obtain ⟨hy0, hy1⟩ := hy
  obtain ⟨hb20, hb21⟩ := hb2
  have e4 : (rg (bl s) 2 i == 4) = true := beq_iff_eq.mpr h2
  have HC := Aside0.mk (And.intro A0 (And.intro A1 (And.intro A2 (And.intro R1 (And.intro L2 (S3))))))
  have HS := Aside0.mk hs1
  clear A0 A1 A2 R1 L2 S3 hg hr hm hi
  generalize at0 (bl s) 0 = a at *
  generalize at0 (bl s) 1 = a1 at *
  generalize at0 (bl s) 2 = a2 at *
  generalize rg (bl s) 1 r = r1 at *
  generalize lw (bl s) 2 m = l2 at *
  generalize sg4 (bl s) 3 = v3 at *
  generalize rg (bl s) 2 i = y at *
  obtain ⟨hb00, hb01⟩ := hb0
  obtain ⟨hb10, hb11⟩ := hb1
  have hs2 := HS.out
  have hmf := mkf
  go_enter Tryd.func48, Tryd.ntmps48
  go_wp2_with (first | ((first
      | (go_at_call 46; (with_reducible refine (HC.out.1 _ ?_).mono ?_))
      | (go_at_call 46; (with_reducible refine (HC.out.2.1 _ ?_).mono ?_))); (focus (with_reducible repeat (first | assumption | refine SO.drew ?_ | refine SO.drewN ?_ _ | refine SO.alloc ?_ _ | refine SO.set ?_ (by assumption) (by assumption) _ _))); rintro e w1 ⟨rfl, hw⟩; (first | (obtain ⟨n, rfl⟩ := hw) | (obtain rfl := hw))))
  go_region_held3 (fun wr => wr.cell? ⟨w.heap.size, 0, none⟩ = some (.pointer (some ⟨g, 0, none⟩)) ∧ wr.cell? ⟨g, 2, none⟩ = some (.int .i64 i) ∧ wr.cell? ⟨g, 3, none⟩ = some (.int .i64 m) ∧ SO g w.heap.size s r i m wr) ((refine SO.cells ?_; (with_reducible repeat (first | assumption | refine SO.drew ?_ | refine SO.drewN ?_ _ | refine SO.alloc ?_ _ | refine SO.set ?_ (by assumption) (by assumption) _ _))))
    (first | ((first
      | (go_at_call 62; (with_reducible refine (HC.out.2.2.2.1 _ ?_).mono ?_))
      | (go_at_call 63; (with_reducible refine (HC.out.2.2.2.2.1 _ ?_).mono ?_))
      | (go_at_call 64; (with_reducible refine (HC.out.2.2.2.2.2 _ ?_).mono ?_))); (focus (with_reducible repeat (first | assumption | refine SO.drew ?_ | refine SO.drewN ?_ _ | refine SO.alloc ?_ _ | refine SO.set ?_ (by assumption) (by assumption) _ _))); rintro e w1 ⟨rfl, hw⟩; (first | (obtain ⟨n, rfl⟩ := hw) | (obtain rfl := hw))))
  go_wp2_with fail
  go_region_held3 (fun wr => wr.cell? ⟨w.heap.size, 0, none⟩ = some (.pointer (some ⟨g, 0, none⟩)) ∧ wr.cell? ⟨g, 2, none⟩ = some (.int .i64 i) ∧ wr.cell? ⟨g, 3, none⟩ = some (.int .i64 m) ∧ SO g w.heap.size s r i m wr) ((refine SO.cells ?_; (with_reducible repeat (first | assumption | refine SO.drew ?_ | refine SO.drewN ?_ _ | refine SO.alloc ?_ _ | refine SO.set ?_ (by assumption) (by assumption) _ _))))
    (first | ((first
      | (go_at_call 46; (with_reducible refine (HC.out.2.2.1 _ ?_).mono ?_))); (focus (with_reducible repeat (first | assumption | refine SO.drew ?_ | refine SO.drewN ?_ _ | refine SO.alloc ?_ _ | refine SO.set ?_ (by assumption) (by assumption) _ _))); rintro e w1 ⟨rfl, hw⟩; (first | (obtain ⟨n, rfl⟩ := hw) | (obtain rfl := hw))))
  go_wp2_with fail
  exact bodyPost_ret (v := xv ⟨12, wd, r1, l2, 0, 0, v3⟩) (by simp [results, Tryd.results48, go_sem]) rfl ⟨rfl, by with_reducible repeat (first | exact Below.refl _ _ | refine below_own1 ?_ _ _ | refine below_own2 ?_ _ _ | refine below_alloc ?_ _ | refine below_drew ?_ | refine pw_below_drewN ?_ _)⟩
set_option maxHeartbeats 16000000 in
set_option maxRecDepth 100000 in
theorem One2b (s : ByteArray) (r i m : Int) (g : Nat) (wd : Bool) (w : World) (hs : s.size ≤ 281474976710656) (hr : r = 0 ∨ r = 8) (hi : i = 0 ∨ i = 8) (hm : m = 0 ∨ m = 8) (hg : w.heap[g]? = some (co s r i m)) (h0 : at0 (bl s) 0 = 137) (h1 : ¬ at0 (bl s) 1 / 64 = 3) (h2 : ¬ rg (bl s) 2 i = 4) :
    Calls Tryd.prog 48 #[.pointer (some ⟨g, 0, none⟩), .bool wd] w fun e w' => e = .returned (xv ⟨12, wd, rg (bl s) 1 r, lw (bl s) 2 m, rg (bl s) 2 i + 1, 0, sg4 (bl s) 3⟩) ∧ Below w.heap.size w w' := by
  have hs1 := so1 hg
  have hgx : g ≠ w.heap.size + 1 + 1 := by have := blk_lt hg; omega
  have hpx : w.heap.size ≠ w.heap.size + 1 + 1 := by omega
  have hb0 := at0_bd s 0
  have hb1 := at0_bd s 1
  have A0 := cA0 s r i m g w hs hr hm
  have A1 := cA1 s r i m g w hs hr hm
  have A2 := cA2 s r i m g w hs hr hm
  have R1 := cR1 s r i m g w hs hr hm
  have L2 := cL2 s r i m g w hs hr hm
  have S3 := cS3 s r i m g w hs hr hm
  have e3 : (at0 (bl s) 1 / 64 == 3) = false := beq_eq_false_iff_ne.mpr h1
  have hb2 := at0_bd s 2
  have hbit := reg_bits (at0 (bl s) 2) i hb2.1 hb2.2 hi
  have hy : 0 ≤ rg (bl s) 2 i ∧ rg (bl s) 2 i ≤ 15 := by unfold rg; omega
  rw [show at0 (bl s) 2 / 8 % 8 + i = rg (bl s) 2 i from rfl] at hbit
  obtain ⟨hy0, hy1⟩ := hy
  obtain ⟨hb20, hb21⟩ := hb2
  have e4 : (rg (bl s) 2 i == 4) = false := beq_eq_false_iff_ne.mpr h2
  have HC := Aside0.mk (And.intro A0 (And.intro A1 (And.intro A2 (And.intro R1 (And.intro L2 (S3))))))
  have HS := Aside0.mk hs1
  clear A0 A1 A2 R1 L2 S3 hg hr hm hi
  generalize at0 (bl s) 0 = a at *
  generalize at0 (bl s) 1 = a1 at *
  generalize at0 (bl s) 2 = a2 at *
  generalize rg (bl s) 1 r = r1 at *
  generalize lw (bl s) 2 m = l2 at *
  generalize sg4 (bl s) 3 = v3 at *
  generalize rg (bl s) 2 i = y at *
  obtain ⟨hb00, hb01⟩ := hb0
  obtain ⟨hb10, hb11⟩ := hb1
  have hs2 := HS.out
  have hmf := mkf
  go_enter Tryd.func48, Tryd.ntmps48
  go_wp2_with (first | ((first
      | (go_at_call 46; (with_reducible refine (HC.out.1 _ ?_).mono ?_))
      | (go_at_call 46; (with_reducible refine (HC.out.2.1 _ ?_).mono ?_))); (focus (with_reducible repeat (first | assumption | refine SO.drew ?_ | refine SO.drewN ?_ _ | refine SO.alloc ?_ _ | refine SO.set ?_ (by assumption) (by assumption) _ _))); rintro e w1 ⟨rfl, hw⟩; (first | (obtain ⟨n, rfl⟩ := hw) | (obtain rfl := hw))))
  go_region_held3 (fun wr => wr.cell? ⟨w.heap.size, 0, none⟩ = some (.pointer (some ⟨g, 0, none⟩)) ∧ wr.cell? ⟨g, 2, none⟩ = some (.int .i64 i) ∧ wr.cell? ⟨g, 3, none⟩ = some (.int .i64 m) ∧ SO g w.heap.size s r i m wr) ((refine SO.cells ?_; (with_reducible repeat (first | assumption | refine SO.drew ?_ | refine SO.drewN ?_ _ | refine SO.alloc ?_ _ | refine SO.set ?_ (by assumption) (by assumption) _ _))))
    (first | ((first
      | (go_at_call 62; (with_reducible refine (HC.out.2.2.2.1 _ ?_).mono ?_))
      | (go_at_call 63; (with_reducible refine (HC.out.2.2.2.2.1 _ ?_).mono ?_))
      | (go_at_call 64; (with_reducible refine (HC.out.2.2.2.2.2 _ ?_).mono ?_))); (focus (with_reducible repeat (first | assumption | refine SO.drew ?_ | refine SO.drewN ?_ _ | refine SO.alloc ?_ _ | refine SO.set ?_ (by assumption) (by assumption) _ _))); rintro e w1 ⟨rfl, hw⟩; (first | (obtain ⟨n, rfl⟩ := hw) | (obtain rfl := hw))))
  go_wp2_with fail
  go_region_held3 (fun wr => wr.cell? ⟨w.heap.size, 0, none⟩ = some (.pointer (some ⟨g, 0, none⟩)) ∧ wr.cell? ⟨g, 2, none⟩ = some (.int .i64 i) ∧ wr.cell? ⟨g, 3, none⟩ = some (.int .i64 m) ∧ SO g w.heap.size s r i m wr) ((refine SO.cells ?_; (with_reducible repeat (first | assumption | refine SO.drew ?_ | refine SO.drewN ?_ _ | refine SO.alloc ?_ _ | refine SO.set ?_ (by assumption) (by assumption) _ _))))
    (first | ((first
      | (go_at_call 46; (with_reducible refine (HC.out.2.2.1 _ ?_).mono ?_))); (focus (with_reducible repeat (first | assumption | refine SO.drew ?_ | refine SO.drewN ?_ _ | refine SO.alloc ?_ _ | refine SO.set ?_ (by assumption) (by assumption) _ _))); rintro e w1 ⟨rfl, hw⟩; (first | (obtain ⟨n, rfl⟩ := hw) | (obtain rfl := hw))))
  go_wp2_with fail
  exact bodyPost_ret (v := xv ⟨12, wd, r1, l2, y + 1, 0, v3⟩) (by simp [results, Tryd.results48, go_sem]) rfl ⟨rfl, by with_reducible repeat (first | exact Below.refl _ _ | refine below_own1 ?_ _ _ | refine below_own2 ?_ _ _ | refine below_alloc ?_ _ | refine below_drew ?_ | refine pw_below_drewN ?_ _)⟩
set_option maxHeartbeats 16000000 in
set_option maxRecDepth 100000 in
theorem One3a (s : ByteArray) (r i m : Int) (g : Nat) (wd : Bool) (w : World) (hs : s.size ≤ 281474976710656) (hr : r = 0 ∨ r = 8) (hi : i = 0 ∨ i = 8) (hm : m = 0 ∨ m = 8) (hg : w.heap[g]? = some (co s r i m)) (h0 : at0 (bl s) 0 = 139) (h2 : rg (bl s) 2 i = 4) :
    Calls Tryd.prog 48 #[.pointer (some ⟨g, 0, none⟩), .bool wd] w fun e w' => e = .returned (xv ⟨11, wd, rg (bl s) 1 r, lw (bl s) 2 m, 0, 0, sg4 (bl s) 3⟩) ∧ Below w.heap.size w w' := by
  have hs1 := so1 hg
  have hgx : g ≠ w.heap.size + 1 + 1 := by have := blk_lt hg; omega
  have hpx : w.heap.size ≠ w.heap.size + 1 + 1 := by omega
  have hb0 := at0_bd s 0
  have hb1 := at0_bd s 1
  have A0 := cA0 s r i m g w hs hr hm
  have A1 := cA1 s r i m g w hs hr hm
  have A2 := cA2 s r i m g w hs hr hm
  have R1 := cR1 s r i m g w hs hr hm
  have L2 := cL2 s r i m g w hs hr hm
  have S3 := cS3 s r i m g w hs hr hm
  have hb2 := at0_bd s 2
  have hbit := reg_bits (at0 (bl s) 2) i hb2.1 hb2.2 hi
  have hy : 0 ≤ rg (bl s) 2 i ∧ rg (bl s) 2 i ≤ 15 := by unfold rg; omega
  rw [show at0 (bl s) 2 / 8 % 8 + i = rg (bl s) 2 i from rfl] at hbit
  obtain ⟨hy0, hy1⟩ := hy
  obtain ⟨hb20, hb21⟩ := hb2
  have e4 : (rg (bl s) 2 i == 4) = true := beq_iff_eq.mpr h2
  have HC := Aside0.mk (And.intro A0 (And.intro A1 (And.intro A2 (And.intro R1 (And.intro L2 (S3))))))
  have HS := Aside0.mk hs1
  clear A0 A1 A2 R1 L2 S3 hg hr hm hi
  generalize at0 (bl s) 0 = a at *
  generalize at0 (bl s) 1 = a1 at *
  generalize at0 (bl s) 2 = a2 at *
  generalize rg (bl s) 1 r = r1 at *
  generalize lw (bl s) 2 m = l2 at *
  generalize sg4 (bl s) 3 = v3 at *
  generalize rg (bl s) 2 i = y at *
  obtain ⟨hb00, hb01⟩ := hb0
  obtain ⟨hb10, hb11⟩ := hb1
  have hs2 := HS.out
  have hmf := mkf
  go_enter Tryd.func48, Tryd.ntmps48
  go_wp2_with (first | ((first
      | (go_at_call 46; (with_reducible refine (HC.out.1 _ ?_).mono ?_))
      | (go_at_call 46; (with_reducible refine (HC.out.2.1 _ ?_).mono ?_))); (focus (with_reducible repeat (first | assumption | refine SO.drew ?_ | refine SO.drewN ?_ _ | refine SO.alloc ?_ _ | refine SO.set ?_ (by assumption) (by assumption) _ _))); rintro e w1 ⟨rfl, hw⟩; (first | (obtain ⟨n, rfl⟩ := hw) | (obtain rfl := hw))))
  go_region_held3 (fun wr => wr.cell? ⟨w.heap.size, 0, none⟩ = some (.pointer (some ⟨g, 0, none⟩)) ∧ wr.cell? ⟨g, 2, none⟩ = some (.int .i64 i) ∧ wr.cell? ⟨g, 3, none⟩ = some (.int .i64 m) ∧ SO g w.heap.size s r i m wr) ((refine SO.cells ?_; (with_reducible repeat (first | assumption | refine SO.drew ?_ | refine SO.drewN ?_ _ | refine SO.alloc ?_ _ | refine SO.set ?_ (by assumption) (by assumption) _ _))))
    (first | ((first
      | (go_at_call 62; (with_reducible refine (HC.out.2.2.2.1 _ ?_).mono ?_))
      | (go_at_call 63; (with_reducible refine (HC.out.2.2.2.2.1 _ ?_).mono ?_))
      | (go_at_call 64; (with_reducible refine (HC.out.2.2.2.2.2 _ ?_).mono ?_))); (focus (with_reducible repeat (first | assumption | refine SO.drew ?_ | refine SO.drewN ?_ _ | refine SO.alloc ?_ _ | refine SO.set ?_ (by assumption) (by assumption) _ _))); rintro e w1 ⟨rfl, hw⟩; (first | (obtain ⟨n, rfl⟩ := hw) | (obtain rfl := hw))))
  go_wp2_with fail
  go_region_held3 (fun wr => wr.cell? ⟨w.heap.size, 0, none⟩ = some (.pointer (some ⟨g, 0, none⟩)) ∧ wr.cell? ⟨g, 2, none⟩ = some (.int .i64 i) ∧ wr.cell? ⟨g, 3, none⟩ = some (.int .i64 m) ∧ SO g w.heap.size s r i m wr) ((refine SO.cells ?_; (with_reducible repeat (first | assumption | refine SO.drew ?_ | refine SO.drewN ?_ _ | refine SO.alloc ?_ _ | refine SO.set ?_ (by assumption) (by assumption) _ _))))
    (first | ((first
      | (go_at_call 46; (with_reducible refine (HC.out.2.2.1 _ ?_).mono ?_))); (focus (with_reducible repeat (first | assumption | refine SO.drew ?_ | refine SO.drewN ?_ _ | refine SO.alloc ?_ _ | refine SO.set ?_ (by assumption) (by assumption) _ _))); rintro e w1 ⟨rfl, hw⟩; (first | (obtain ⟨n, rfl⟩ := hw) | (obtain rfl := hw))))
  go_wp2_with fail
  exact bodyPost_ret (v := xv ⟨11, wd, r1, l2, 0, 0, v3⟩) (by simp [results, Tryd.results48, go_sem]) rfl ⟨rfl, by with_reducible repeat (first | exact Below.refl _ _ | refine below_own1 ?_ _ _ | refine below_own2 ?_ _ _ | refine below_alloc ?_ _ | refine below_drew ?_ | refine pw_below_drewN ?_ _)⟩
set_option maxHeartbeats 16000000 in
set_option maxRecDepth 100000 in
theorem One3b (s : ByteArray) (r i m : Int) (g : Nat) (wd : Bool) (w : World) (hs : s.size ≤ 281474976710656) (hr : r = 0 ∨ r = 8) (hi : i = 0 ∨ i = 8) (hm : m = 0 ∨ m = 8) (hg : w.heap[g]? = some (co s r i m)) (h0 : at0 (bl s) 0 = 139) (h2 : ¬ rg (bl s) 2 i = 4) :
    Calls Tryd.prog 48 #[.pointer (some ⟨g, 0, none⟩), .bool wd] w fun e w' => e = .returned (xv ⟨11, wd, rg (bl s) 1 r, lw (bl s) 2 m, rg (bl s) 2 i + 1, 0, sg4 (bl s) 3⟩) ∧ Below w.heap.size w w' := by
  have hs1 := so1 hg
  have hgx : g ≠ w.heap.size + 1 + 1 := by have := blk_lt hg; omega
  have hpx : w.heap.size ≠ w.heap.size + 1 + 1 := by omega
  have hb0 := at0_bd s 0
  have hb1 := at0_bd s 1
  have A0 := cA0 s r i m g w hs hr hm
  have A1 := cA1 s r i m g w hs hr hm
  have A2 := cA2 s r i m g w hs hr hm
  have R1 := cR1 s r i m g w hs hr hm
  have L2 := cL2 s r i m g w hs hr hm
  have S3 := cS3 s r i m g w hs hr hm
  have hb2 := at0_bd s 2
  have hbit := reg_bits (at0 (bl s) 2) i hb2.1 hb2.2 hi
  have hy : 0 ≤ rg (bl s) 2 i ∧ rg (bl s) 2 i ≤ 15 := by unfold rg; omega
  rw [show at0 (bl s) 2 / 8 % 8 + i = rg (bl s) 2 i from rfl] at hbit
  obtain ⟨hy0, hy1⟩ := hy
  obtain ⟨hb20, hb21⟩ := hb2
  have e4 : (rg (bl s) 2 i == 4) = false := beq_eq_false_iff_ne.mpr h2
  have HC := Aside0.mk (And.intro A0 (And.intro A1 (And.intro A2 (And.intro R1 (And.intro L2 (S3))))))
  have HS := Aside0.mk hs1
  clear A0 A1 A2 R1 L2 S3 hg hr hm hi
  generalize at0 (bl s) 0 = a at *
  generalize at0 (bl s) 1 = a1 at *
  generalize at0 (bl s) 2 = a2 at *
  generalize rg (bl s) 1 r = r1 at *
  generalize lw (bl s) 2 m = l2 at *
  generalize sg4 (bl s) 3 = v3 at *
  generalize rg (bl s) 2 i = y at *
  obtain ⟨hb00, hb01⟩ := hb0
  obtain ⟨hb10, hb11⟩ := hb1
  have hs2 := HS.out
  have hmf := mkf
  go_enter Tryd.func48, Tryd.ntmps48
  go_wp2_with (first | ((first
      | (go_at_call 46; (with_reducible refine (HC.out.1 _ ?_).mono ?_))
      | (go_at_call 46; (with_reducible refine (HC.out.2.1 _ ?_).mono ?_))); (focus (with_reducible repeat (first | assumption | refine SO.drew ?_ | refine SO.drewN ?_ _ | refine SO.alloc ?_ _ | refine SO.set ?_ (by assumption) (by assumption) _ _))); rintro e w1 ⟨rfl, hw⟩; (first | (obtain ⟨n, rfl⟩ := hw) | (obtain rfl := hw))))
  go_region_held3 (fun wr => wr.cell? ⟨w.heap.size, 0, none⟩ = some (.pointer (some ⟨g, 0, none⟩)) ∧ wr.cell? ⟨g, 2, none⟩ = some (.int .i64 i) ∧ wr.cell? ⟨g, 3, none⟩ = some (.int .i64 m) ∧ SO g w.heap.size s r i m wr) ((refine SO.cells ?_; (with_reducible repeat (first | assumption | refine SO.drew ?_ | refine SO.drewN ?_ _ | refine SO.alloc ?_ _ | refine SO.set ?_ (by assumption) (by assumption) _ _))))
    (first | ((first
      | (go_at_call 62; (with_reducible refine (HC.out.2.2.2.1 _ ?_).mono ?_))
      | (go_at_call 63; (with_reducible refine (HC.out.2.2.2.2.1 _ ?_).mono ?_))
      | (go_at_call 64; (with_reducible refine (HC.out.2.2.2.2.2 _ ?_).mono ?_))); (focus (with_reducible repeat (first | assumption | refine SO.drew ?_ | refine SO.drewN ?_ _ | refine SO.alloc ?_ _ | refine SO.set ?_ (by assumption) (by assumption) _ _))); rintro e w1 ⟨rfl, hw⟩; (first | (obtain ⟨n, rfl⟩ := hw) | (obtain rfl := hw))))
  go_wp2_with fail
  go_region_held3 (fun wr => wr.cell? ⟨w.heap.size, 0, none⟩ = some (.pointer (some ⟨g, 0, none⟩)) ∧ wr.cell? ⟨g, 2, none⟩ = some (.int .i64 i) ∧ wr.cell? ⟨g, 3, none⟩ = some (.int .i64 m) ∧ SO g w.heap.size s r i m wr) ((refine SO.cells ?_; (with_reducible repeat (first | assumption | refine SO.drew ?_ | refine SO.drewN ?_ _ | refine SO.alloc ?_ _ | refine SO.set ?_ (by assumption) (by assumption) _ _))))
    (first | ((first
      | (go_at_call 46; (with_reducible refine (HC.out.2.2.1 _ ?_).mono ?_))); (focus (with_reducible repeat (first | assumption | refine SO.drew ?_ | refine SO.drewN ?_ _ | refine SO.alloc ?_ _ | refine SO.set ?_ (by assumption) (by assumption) _ _))); rintro e w1 ⟨rfl, hw⟩; (first | (obtain ⟨n, rfl⟩ := hw) | (obtain rfl := hw))))
  go_wp2_with fail
  exact bodyPost_ret (v := xv ⟨11, wd, r1, l2, y + 1, 0, v3⟩) (by simp [results, Tryd.results48, go_sem]) rfl ⟨rfl, by with_reducible repeat (first | exact Below.refl _ _ | refine below_own1 ?_ _ _ | refine below_own2 ?_ _ _ | refine below_alloc ?_ _ | refine below_drew ?_ | refine pw_below_drewN ?_ _)⟩
set_option maxHeartbeats 16000000 in
set_option maxRecDepth 100000 in
theorem One4 (s : ByteArray) (r i m : Int) (g : Nat) (wd : Bool) (w : World) (hs : s.size ≤ 281474976710656) (hr : r = 0 ∨ r = 8) (hi : i = 0 ∨ i = 8) (hm : m = 0 ∨ m = 8) (hg : w.heap[g]? = some (co s r i m)) (h0 : at0 (bl s) 0 / 8 = 23) :
    Calls Tryd.prog 48 #[.pointer (some ⟨g, 0, none⟩), .bool wd] w fun e w' => e = .returned (xv ⟨2, wd, lw (bl s) 0 m, 0, 0, 0, sg8 (bl s) 1⟩) ∧ Below w.heap.size w w' := by
  have hs1 := so1 hg
  have hgx : g ≠ w.heap.size + 1 + 1 := by have := blk_lt hg; omega
  have hpx : w.heap.size ≠ w.heap.size + 1 + 1 := by omega
  have hb0 := at0_bd s 0
  have hb1 := at0_bd s 1
  have A0 := cA0 s r i m g w hs hr hm
  have A1 := cA1 s r i m g w hs hr hm
  have S8 := cS8 s r i m g w hs hr hm
  have e23 : (at0 (bl s) 0 / 8 == 23) = true := beq_iff_eq.mpr h0
  have e137 : (at0 (bl s) 0 == 137) = false := beq_eq_false_iff_ne.mpr (by omega)
  have e139 : (at0 (bl s) 0 == 139) = false := beq_eq_false_iff_ne.mpr (by omega)
  have hlb : Go.bits .or .i64 (Go.bits .and .i64 (at0 (bl s) 0) 7) m = lw (bl s) 0 m := low_bits _ _ hm
  have HC := Aside0.mk (And.intro A0 (And.intro A1 (S8)))
  have HS := Aside0.mk hs1
  clear A0 A1 S8 hg hr hm hi
  generalize at0 (bl s) 0 = a at *
  generalize at0 (bl s) 1 = a1 at *
  generalize sg8 (bl s) 1 = v8 at *
  generalize lw (bl s) 0 m = l0 at *
  obtain ⟨hb00, hb01⟩ := hb0
  obtain ⟨hb10, hb11⟩ := hb1
  have hs2 := HS.out
  have hmf := mkf
  go_enter Tryd.func48, Tryd.ntmps48
  go_wp2_with (first | ((first
      | (go_at_call 46; (with_reducible refine (HC.out.1 _ ?_).mono ?_))
      | (go_at_call 46; (with_reducible refine (HC.out.2.1 _ ?_).mono ?_))); (focus (with_reducible repeat (first | assumption | refine SO.drew ?_ | refine SO.drewN ?_ _ | refine SO.alloc ?_ _ | refine SO.set ?_ (by assumption) (by assumption) _ _))); rintro e w1 ⟨rfl, hw⟩; (first | (obtain ⟨n, rfl⟩ := hw) | (obtain rfl := hw))))
  go_region_held3 (fun wr => wr.cell? ⟨w.heap.size, 0, none⟩ = some (.pointer (some ⟨g, 0, none⟩)) ∧ wr.cell? ⟨g, 2, none⟩ = some (.int .i64 i) ∧ wr.cell? ⟨g, 3, none⟩ = some (.int .i64 m) ∧ SO g w.heap.size s r i m wr) ((refine SO.cells ?_; (with_reducible repeat (first | assumption | refine SO.drew ?_ | refine SO.drewN ?_ _ | refine SO.alloc ?_ _ | refine SO.set ?_ (by assumption) (by assumption) _ _))))
    (first | ((first
      | (go_at_call 64; (with_reducible refine (HC.out.2.2 _ ?_).mono ?_))); (focus (with_reducible repeat (first | assumption | refine SO.drew ?_ | refine SO.drewN ?_ _ | refine SO.alloc ?_ _ | refine SO.set ?_ (by assumption) (by assumption) _ _))); rintro e w1 ⟨rfl, hw⟩; (first | (obtain ⟨n, rfl⟩ := hw) | (obtain rfl := hw))))
  go_wp2_with fail
  exact bodyPost_ret (v := xv ⟨2, wd, l0, 0, 0, 0, v8⟩) (by simp [results, Tryd.results48, go_sem]) rfl ⟨rfl, by with_reducible repeat (first | exact Below.refl _ _ | refine below_own1 ?_ _ _ | refine below_own2 ?_ _ _ | refine below_alloc ?_ _ | refine below_drew ?_ | refine pw_below_drewN ?_ _)⟩
set_option maxHeartbeats 16000000 in
set_option maxRecDepth 100000 in
theorem One5 (s : ByteArray) (r i m : Int) (g : Nat) (wd : Bool) (w : World) (hs : s.size ≤ 281474976710656) (hr : r = 0 ∨ r = 8) (hi : i = 0 ∨ i = 8) (hm : m = 0 ∨ m = 8) (hg : w.heap[g]? = some (co s r i m)) (h0 : at0 (bl s) 0 < 64) (h1 : at0 (bl s) 0 % 8 = 1) :
    Calls Tryd.prog 48 #[.pointer (some ⟨g, 0, none⟩), .bool wd] w fun e w' => e = .returned (xv ⟨3, wd, rg (bl s) 1 r, lw (bl s) 1 m, 0, at0 (bl s) 0 / 8, 0⟩) ∧ Below w.heap.size w w' := by
  have hs1 := so1 hg
  have hgx : g ≠ w.heap.size + 1 + 1 := by have := blk_lt hg; omega
  have hpx : w.heap.size ≠ w.heap.size + 1 + 1 := by omega
  have hb0 := at0_bd s 0
  have hb1 := at0_bd s 1
  have A0 := cA0 s r i m g w hs hr hm
  have A1 := cA1 s r i m g w hs hr hm
  have R1 := cR1 s r i m g w hs hr hm
  have L1 := cL1 s r i m g w hs hr hm
  have P := Pair s r i m 3 g w.heap.size (w.heap.size + 1 + 1) wd (U1 w g wd) hs hr hm hgx hpx (SO.alloc (SO.alloc hs1 _) _).1 (SO.alloc (SO.alloc hs1 _) _).2 (U1_x w g wd)
  have e137 : (at0 (bl s) 0 == 137) = false := beq_eq_false_iff_ne.mpr (by omega)
  have e139 : (at0 (bl s) 0 == 139) = false := beq_eq_false_iff_ne.mpr (by omega)
  have e23 : (at0 (bl s) 0 / 8 == 23) = false := beq_eq_false_iff_ne.mpr (by omega)
  have e1 : (at0 (bl s) 0 % 8 == 1) = true := beq_iff_eq.mpr h1
  have q7 := and7 (at0 (bl s) 0)
  have HC := Aside0.mk (And.intro A0 (And.intro A1 (And.intro R1 (And.intro L1 (P)))))
  have HS := Aside0.mk hs1
  clear A0 A1 R1 L1 P hg hr hm hi
  generalize at0 (bl s) 0 = a at *
  generalize at0 (bl s) 1 = a1 at *
  generalize rg (bl s) 1 r = r1 at *
  generalize lw (bl s) 1 m = l1 at *
  obtain ⟨hb00, hb01⟩ := hb0
  obtain ⟨hb10, hb11⟩ := hb1
  have hs2 := HS.out
  have hmf := mkf
  go_enter Tryd.func48, Tryd.ntmps48
  go_wp2_with (first
    | ((first
      | (go_at_call 46; (with_reducible refine (HC.out.1 _ ?_).mono ?_))
      | (go_at_call 46; (with_reducible refine (HC.out.2.1 _ ?_).mono ?_))
      | (go_at_call 62; (with_reducible refine (HC.out.2.2.1 _ ?_).mono ?_))
      | (go_at_call 63; (with_reducible refine (HC.out.2.2.2.1 _ ?_).mono ?_))); (focus (with_reducible repeat (first | assumption | refine SO.drew ?_ | refine SO.drewN ?_ _ | refine SO.alloc ?_ _ | refine SO.set ?_ (by assumption) (by assumption) _ _))); rintro e w1 ⟨rfl, hw⟩; (first | (obtain ⟨n, rfl⟩ := hw) | (obtain rfl := hw)))
    | (go_at_call 65; refine (HC.out.2.2.2.2).mono ?_; rintro e w1 ⟨rfl, nP, rfl⟩))
  exact bodyPost_ret (v := xv ⟨3, wd, r1, l1, 0, a / 8, 0⟩) (by simp [results, Tryd.results48, go_sem]) rfl ⟨rfl, by with_reducible repeat (first | exact Below.refl _ _ | refine below_own1 ?_ _ _ | refine below_own2 ?_ _ _ | refine below_alloc ?_ _ | refine below_drew ?_ | refine pw_below_drewN ?_ _)⟩
set_option maxHeartbeats 16000000 in
set_option maxRecDepth 100000 in
theorem One6 (s : ByteArray) (r i m : Int) (g : Nat) (wd : Bool) (w : World) (hs : s.size ≤ 281474976710656) (hr : r = 0 ∨ r = 8) (hi : i = 0 ∨ i = 8) (hm : m = 0 ∨ m = 8) (hg : w.heap[g]? = some (co s r i m)) (h0 : at0 (bl s) 0 = 129) :
    Calls Tryd.prog 48 #[.pointer (some ⟨g, 0, none⟩), .bool wd] w fun e w' => e = .returned (xv ⟨4, wd, 0, lw (bl s) 1 m, 0, at0 (bl s) 1 / 8 % 8, sg4 (bl s) 2⟩) ∧ Below w.heap.size w w' := by
  have hs1 := so1 hg
  have hgx : g ≠ w.heap.size + 1 + 1 := by have := blk_lt hg; omega
  have hpx : w.heap.size ≠ w.heap.size + 1 + 1 := by omega
  have hb0 := at0_bd s 0
  have hb1 := at0_bd s 1
  have A0 := cA0 s r i m g w hs hr hm
  have A1 := cA1 s r i m g w hs hr hm
  have L1 := cL1 s r i m g w hs hr hm
  have S2 := cS2 s r i m g w hs hr hm
  have G := Group s r i m 4 g w.heap.size (w.heap.size + 1 + 1) wd (U1 w g wd) hs hr hm hgx hpx (SO.alloc (SO.alloc hs1 _) _).1 (SO.alloc (SO.alloc hs1 _) _).2 (U1_x w g wd)
  have HC := Aside0.mk (And.intro A0 (And.intro A1 (And.intro L1 (And.intro S2 (G)))))
  have HS := Aside0.mk hs1
  clear A0 A1 L1 S2 G hg hr hm hi
  generalize at0 (bl s) 0 = a at *
  generalize at0 (bl s) 1 = a1 at *
  generalize lw (bl s) 1 m = l1 at *
  generalize sg4 (bl s) 2 = v2 at *
  obtain ⟨hb00, hb01⟩ := hb0
  obtain ⟨hb10, hb11⟩ := hb1
  have hs2 := HS.out
  have hmf := mkf
  go_enter Tryd.func48, Tryd.ntmps48
  go_wp2_with (first
    | ((first
      | (go_at_call 46; (with_reducible refine (HC.out.1 _ ?_).mono ?_))
      | (go_at_call 46; (with_reducible refine (HC.out.2.1 _ ?_).mono ?_))
      | (go_at_call 63; (with_reducible refine (HC.out.2.2.1 _ ?_).mono ?_))
      | (go_at_call 64; (with_reducible refine (HC.out.2.2.2.1 _ ?_).mono ?_))); (focus (with_reducible repeat (first | assumption | refine SO.drew ?_ | refine SO.drewN ?_ _ | refine SO.alloc ?_ _ | refine SO.set ?_ (by assumption) (by assumption) _ _))); rintro e w1 ⟨rfl, hw⟩; (first | (obtain ⟨n, rfl⟩ := hw) | (obtain rfl := hw)))
    | (go_at_call 66; refine (HC.out.2.2.2.2).mono ?_; rintro e w1 ⟨rfl, nG, rfl⟩))
  exact bodyPost_ret (v := xv ⟨4, wd, 0, l1, 0, a1 / 8 % 8, v2⟩) (by simp [results, Tryd.results48, go_sem]) rfl ⟨rfl, by with_reducible repeat (first | exact Below.refl _ _ | refine below_own1 ?_ _ _ | refine below_own2 ?_ _ _ | refine below_alloc ?_ _ | refine below_drew ?_ | refine pw_below_drewN ?_ _)⟩
set_option maxHeartbeats 16000000 in
set_option maxRecDepth 100000 in
theorem One7 (s : ByteArray) (r i m : Int) (g : Nat) (wd : Bool) (w : World) (hs : s.size ≤ 281474976710656) (hr : r = 0 ∨ r = 8) (hi : i = 0 ∨ i = 8) (hm : m = 0 ∨ m = 8) (hg : w.heap[g]? = some (co s r i m)) (h0 : at0 (bl s) 0 = 133) :
    Calls Tryd.prog 48 #[.pointer (some ⟨g, 0, none⟩), .bool wd] w fun e w' => e = .returned (xv ⟨5, wd, rg (bl s) 1 r, lw (bl s) 1 m, 0, 0, 0⟩) ∧ Below w.heap.size w w' := by
  have hs1 := so1 hg
  have hgx : g ≠ w.heap.size + 1 + 1 := by have := blk_lt hg; omega
  have hpx : w.heap.size ≠ w.heap.size + 1 + 1 := by omega
  have hb0 := at0_bd s 0
  have hb1 := at0_bd s 1
  have A0 := cA0 s r i m g w hs hr hm
  have A1 := cA1 s r i m g w hs hr hm
  have R1 := cR1 s r i m g w hs hr hm
  have L1 := cL1 s r i m g w hs hr hm
  have P := Pair s r i m 5 g w.heap.size (w.heap.size + 1 + 1) wd (U1 w g wd) hs hr hm hgx hpx (SO.alloc (SO.alloc hs1 _) _).1 (SO.alloc (SO.alloc hs1 _) _).2 (U1_x w g wd)
  have HC := Aside0.mk (And.intro A0 (And.intro A1 (And.intro R1 (And.intro L1 (P)))))
  have HS := Aside0.mk hs1
  clear A0 A1 R1 L1 P hg hr hm hi
  generalize at0 (bl s) 0 = a at *
  generalize at0 (bl s) 1 = a1 at *
  generalize rg (bl s) 1 r = r1 at *
  generalize lw (bl s) 1 m = l1 at *
  obtain ⟨hb00, hb01⟩ := hb0
  obtain ⟨hb10, hb11⟩ := hb1
  have hs2 := HS.out
  have hmf := mkf
  go_enter Tryd.func48, Tryd.ntmps48
  go_wp2_with (first
    | ((first
      | (go_at_call 46; (with_reducible refine (HC.out.1 _ ?_).mono ?_))
      | (go_at_call 46; (with_reducible refine (HC.out.2.1 _ ?_).mono ?_))
      | (go_at_call 62; (with_reducible refine (HC.out.2.2.1 _ ?_).mono ?_))
      | (go_at_call 63; (with_reducible refine (HC.out.2.2.2.1 _ ?_).mono ?_))); (focus (with_reducible repeat (first | assumption | refine SO.drew ?_ | refine SO.drewN ?_ _ | refine SO.alloc ?_ _ | refine SO.set ?_ (by assumption) (by assumption) _ _))); rintro e w1 ⟨rfl, hw⟩; (first | (obtain ⟨n, rfl⟩ := hw) | (obtain rfl := hw)))
    | (go_at_call 65; refine (HC.out.2.2.2.2).mono ?_; rintro e w1 ⟨rfl, nP, rfl⟩))
  exact bodyPost_ret (v := xv ⟨5, wd, r1, l1, 0, 0, 0⟩) (by simp [results, Tryd.results48, go_sem]) rfl ⟨rfl, by with_reducible repeat (first | exact Below.refl _ _ | refine below_own1 ?_ _ _ | refine below_own2 ?_ _ _ | refine below_alloc ?_ _ | refine below_drew ?_ | refine pw_below_drewN ?_ _)⟩
set_option maxHeartbeats 16000000 in
set_option maxRecDepth 100000 in
theorem One8 (s : ByteArray) (r i m : Int) (g : Nat) (wd : Bool) (w : World) (hs : s.size ≤ 281474976710656) (hr : r = 0 ∨ r = 8) (hi : i = 0 ∨ i = 8) (hm : m = 0 ∨ m = 8) (hg : w.heap[g]? = some (co s r i m)) (h0 : at0 (bl s) 0 = 211) :
    Calls Tryd.prog 48 #[.pointer (some ⟨g, 0, none⟩), .bool wd] w fun e w' => e = .returned (xv ⟨7, wd, 0, lw (bl s) 1 m, 0, at0 (bl s) 1 / 8 % 8, 0⟩) ∧ Below w.heap.size w w' := by
  have hs1 := so1 hg
  have hgx : g ≠ w.heap.size + 1 + 1 := by have := blk_lt hg; omega
  have hpx : w.heap.size ≠ w.heap.size + 1 + 1 := by omega
  have hb0 := at0_bd s 0
  have hb1 := at0_bd s 1
  have A0 := cA0 s r i m g w hs hr hm
  have A1 := cA1 s r i m g w hs hr hm
  have L1 := cL1 s r i m g w hs hr hm
  have G := Group s r i m 7 g w.heap.size (w.heap.size + 1 + 1) wd (U1 w g wd) hs hr hm hgx hpx (SO.alloc (SO.alloc hs1 _) _).1 (SO.alloc (SO.alloc hs1 _) _).2 (U1_x w g wd)
  have HC := Aside0.mk (And.intro A0 (And.intro A1 (And.intro L1 (G))))
  have HS := Aside0.mk hs1
  clear A0 A1 L1 G hg hr hm hi
  generalize at0 (bl s) 0 = a at *
  generalize at0 (bl s) 1 = a1 at *
  generalize lw (bl s) 1 m = l1 at *
  obtain ⟨hb00, hb01⟩ := hb0
  obtain ⟨hb10, hb11⟩ := hb1
  have hs2 := HS.out
  have hmf := mkf
  go_enter Tryd.func48, Tryd.ntmps48
  go_wp2_with (first
    | ((first
      | (go_at_call 46; (with_reducible refine (HC.out.1 _ ?_).mono ?_))
      | (go_at_call 46; (with_reducible refine (HC.out.2.1 _ ?_).mono ?_))
      | (go_at_call 63; (with_reducible refine (HC.out.2.2.1 _ ?_).mono ?_))); (focus (with_reducible repeat (first | assumption | refine SO.drew ?_ | refine SO.drewN ?_ _ | refine SO.alloc ?_ _ | refine SO.set ?_ (by assumption) (by assumption) _ _))); rintro e w1 ⟨rfl, hw⟩; (first | (obtain ⟨n, rfl⟩ := hw) | (obtain rfl := hw)))
    | (go_at_call 66; refine (HC.out.2.2.2).mono ?_; rintro e w1 ⟨rfl, nG, rfl⟩))
  exact bodyPost_ret (v := xv ⟨7, wd, 0, l1, 0, a1 / 8 % 8, 0⟩) (by simp [results, Tryd.results48, go_sem]) rfl ⟨rfl, by with_reducible repeat (first | exact Below.refl _ _ | refine below_own1 ?_ _ _ | refine below_own2 ?_ _ _ | refine below_alloc ?_ _ | refine below_drew ?_ | refine pw_below_drewN ?_ _)⟩
set_option maxHeartbeats 16000000 in
set_option maxRecDepth 100000 in
theorem One9a (s : ByteArray) (r i m : Int) (g : Nat) (wd : Bool) (w : World) (hs : s.size ≤ 281474976710656) (hr : r = 0 ∨ r = 8) (hi : i = 0 ∨ i = 8) (hm : m = 0 ∨ m = 8) (hg : w.heap[g]? = some (co s r i m)) (h0 : at0 (bl s) 0 = 247) (h1 : at0 (bl s) 1 / 8 % 8 = 7) :
    Calls Tryd.prog 48 #[.pointer (some ⟨g, 0, none⟩), .bool wd] w fun e w' => e = .returned (xv ⟨9, wd, 0, lw (bl s) 1 m, 0, 0, 0⟩) ∧ Below w.heap.size w w' := by
  have hs1 := so1 hg
  have hgx : g ≠ w.heap.size + 1 + 1 := by have := blk_lt hg; omega
  have hpx : w.heap.size ≠ w.heap.size + 1 + 1 := by omega
  have hb0 := at0_bd s 0
  have hb1 := at0_bd s 1
  have A0 := cA0 s r i m g w hs hr hm
  have A1 := cA1 s r i m g w hs hr hm
  have L1 := cL1 s r i m g w hs hr hm
  have e7 : (at0 (bl s) 1 / 8 % 8 == 7) = true := beq_iff_eq.mpr h1
  have q7 := and7 (at0 (bl s) 1 / 8)
  have hq : ∀ n, (((((U1 w g wd).drewN n).setCell ⟨w.heap.size + 1 + 1, 0, none⟩ (.int .i64 8)).setCell ⟨w.heap.size + 1 + 1, 3, none⟩ (.int .i64 (lw (bl s) 1 m))).setCell ⟨w.heap.size + 1 + 1, 0, none⟩ (.int .i64 9)).cell? ⟨w.heap.size + 1 + 1, 0, none⟩ = some (.int .i64 9) := fun n => by
    have h := blk_put (blk_put (blk_put (blk_drewN (U1_x w g wd) n) 0 (.int .i64 8) _ rfl) 3 (.int .i64 (lw (bl s) 1 m)) _ rfl) 0 (.int .i64 9) _ rfl
    have h2 := blk_cell h 0
    simpa using h2
  dsimp only [U1] at hq
  have HC := Aside0.mk (And.intro A0 (And.intro A1 (L1)))
  have HS := Aside0.mk hs1
  clear A0 A1 L1 hg hr hm hi
  generalize at0 (bl s) 0 = a at *
  generalize at0 (bl s) 1 = a1 at *
  generalize lw (bl s) 1 m = l1 at *
  obtain ⟨hb00, hb01⟩ := hb0
  obtain ⟨hb10, hb11⟩ := hb1
  have hs2 := HS.out
  have hmf := mkf
  go_enter Tryd.func48, Tryd.ntmps48
  go_wp2_with (first
    | ((first
      | (go_at_call 46; (with_reducible refine (HC.out.1 _ ?_).mono ?_))
      | (go_at_call 46; (with_reducible refine (HC.out.2.1 _ ?_).mono ?_))
      | (go_at_call 63; (with_reducible refine (HC.out.2.2 _ ?_).mono ?_))); (focus (with_reducible repeat (first | assumption | refine SO.drew ?_ | refine SO.drewN ?_ _ | refine SO.alloc ?_ _ | refine SO.set ?_ (by assumption) (by assumption) _ _))); rintro e w1 ⟨rfl, hw⟩; (first | (obtain ⟨n, rfl⟩ := hw) | (obtain rfl := hw))))
  exact bodyPost_ret (v := xv ⟨9, wd, 0, l1, 0, 0, 0⟩) (by simp [results, Tryd.results48, go_sem]) rfl ⟨rfl, by with_reducible repeat (first | exact Below.refl _ _ | refine below_own1 ?_ _ _ | refine below_own2 ?_ _ _ | refine below_alloc ?_ _ | refine below_drew ?_ | refine pw_below_drewN ?_ _)⟩
set_option maxHeartbeats 16000000 in
set_option maxRecDepth 100000 in
theorem One9b (s : ByteArray) (r i m : Int) (g : Nat) (wd : Bool) (w : World) (hs : s.size ≤ 281474976710656) (hr : r = 0 ∨ r = 8) (hi : i = 0 ∨ i = 8) (hm : m = 0 ∨ m = 8) (hg : w.heap[g]? = some (co s r i m)) (h0 : at0 (bl s) 0 = 247) (h1 : ¬ at0 (bl s) 1 / 8 % 8 = 7) :
    Calls Tryd.prog 48 #[.pointer (some ⟨g, 0, none⟩), .bool wd] w fun e w' => e = .returned (xv ⟨8, wd, 0, lw (bl s) 1 m, 0, 0, 0⟩) ∧ Below w.heap.size w w' := by
  have hs1 := so1 hg
  have hgx : g ≠ w.heap.size + 1 + 1 := by have := blk_lt hg; omega
  have hpx : w.heap.size ≠ w.heap.size + 1 + 1 := by omega
  have hb0 := at0_bd s 0
  have hb1 := at0_bd s 1
  have A0 := cA0 s r i m g w hs hr hm
  have A1 := cA1 s r i m g w hs hr hm
  have L1 := cL1 s r i m g w hs hr hm
  have e7 : (at0 (bl s) 1 / 8 % 8 == 7) = false := beq_eq_false_iff_ne.mpr h1
  have q7 := and7 (at0 (bl s) 1 / 8)
  have HC := Aside0.mk (And.intro A0 (And.intro A1 (L1)))
  have HS := Aside0.mk hs1
  clear A0 A1 L1 hg hr hm hi
  generalize at0 (bl s) 0 = a at *
  generalize at0 (bl s) 1 = a1 at *
  generalize lw (bl s) 1 m = l1 at *
  obtain ⟨hb00, hb01⟩ := hb0
  obtain ⟨hb10, hb11⟩ := hb1
  have hs2 := HS.out
  have hmf := mkf
  go_enter Tryd.func48, Tryd.ntmps48
  go_wp2_with (first
    | ((first
      | (go_at_call 46; (with_reducible refine (HC.out.1 _ ?_).mono ?_))
      | (go_at_call 46; (with_reducible refine (HC.out.2.1 _ ?_).mono ?_))
      | (go_at_call 63; (with_reducible refine (HC.out.2.2 _ ?_).mono ?_))); (focus (with_reducible repeat (first | assumption | refine SO.drew ?_ | refine SO.drewN ?_ _ | refine SO.alloc ?_ _ | refine SO.set ?_ (by assumption) (by assumption) _ _))); rintro e w1 ⟨rfl, hw⟩; (first | (obtain ⟨n, rfl⟩ := hw) | (obtain rfl := hw))))
  exact bodyPost_ret (v := xv ⟨8, wd, 0, l1, 0, 0, 0⟩) (by simp [results, Tryd.results48, go_sem]) rfl ⟨rfl, by with_reducible repeat (first | exact Below.refl _ _ | refine below_own1 ?_ _ _ | refine below_own2 ?_ _ _ | refine below_alloc ?_ _ | refine below_drew ?_ | refine pw_below_drewN ?_ _)⟩
set_option maxHeartbeats 16000000 in
set_option maxRecDepth 100000 in
theorem One10 (s : ByteArray) (r i m : Int) (g : Nat) (wd : Bool) (w : World) (hs : s.size ≤ 281474976710656) (hr : r = 0 ∨ r = 8) (hi : i = 0 ∨ i = 8) (hm : m = 0 ∨ m = 8) (hg : w.heap[g]? = some (co s r i m)) (h0 : at0 (bl s) 0 = 99) :
    Calls Tryd.prog 48 #[.pointer (some ⟨g, 0, none⟩), .bool wd] w fun e w' => e = .returned (xv ⟨16, wd, rg (bl s) 1 r, lw (bl s) 1 m, 0, 0, 0⟩) ∧ Below w.heap.size w w' := by
  have hs1 := so1 hg
  have hgx : g ≠ w.heap.size + 1 + 1 := by have := blk_lt hg; omega
  have hpx : w.heap.size ≠ w.heap.size + 1 + 1 := by omega
  have hb0 := at0_bd s 0
  have hb1 := at0_bd s 1
  have A0 := cA0 s r i m g w hs hr hm
  have A1 := cA1 s r i m g w hs hr hm
  have R1 := cR1 s r i m g w hs hr hm
  have L1 := cL1 s r i m g w hs hr hm
  have P := Pair s r i m 16 g w.heap.size (w.heap.size + 1 + 1) wd (U1 w g wd) hs hr hm hgx hpx (SO.alloc (SO.alloc hs1 _) _).1 (SO.alloc (SO.alloc hs1 _) _).2 (U1_x w g wd)
  have HC := Aside0.mk (And.intro A0 (And.intro A1 (And.intro R1 (And.intro L1 (P)))))
  have HS := Aside0.mk hs1
  clear A0 A1 R1 L1 P hg hr hm hi
  generalize at0 (bl s) 0 = a at *
  generalize at0 (bl s) 1 = a1 at *
  generalize rg (bl s) 1 r = r1 at *
  generalize lw (bl s) 1 m = l1 at *
  obtain ⟨hb00, hb01⟩ := hb0
  obtain ⟨hb10, hb11⟩ := hb1
  have hs2 := HS.out
  have hmf := mkf
  go_enter Tryd.func48, Tryd.ntmps48
  go_wp2_with (first
    | ((first
      | (go_at_call 46; (with_reducible refine (HC.out.1 _ ?_).mono ?_))
      | (go_at_call 46; (with_reducible refine (HC.out.2.1 _ ?_).mono ?_))
      | (go_at_call 62; (with_reducible refine (HC.out.2.2.1 _ ?_).mono ?_))
      | (go_at_call 63; (with_reducible refine (HC.out.2.2.2.1 _ ?_).mono ?_))); (focus (with_reducible repeat (first | assumption | refine SO.drew ?_ | refine SO.drewN ?_ _ | refine SO.alloc ?_ _ | refine SO.set ?_ (by assumption) (by assumption) _ _))); rintro e w1 ⟨rfl, hw⟩; (first | (obtain ⟨n, rfl⟩ := hw) | (obtain rfl := hw)))
    | (go_at_call 65; refine (HC.out.2.2.2.2).mono ?_; rintro e w1 ⟨rfl, nP, rfl⟩))
  exact bodyPost_ret (v := xv ⟨16, wd, r1, l1, 0, 0, 0⟩) (by simp [results, Tryd.results48, go_sem]) rfl ⟨rfl, by with_reducible repeat (first | exact Below.refl _ _ | refine below_own1 ?_ _ _ | refine below_own2 ?_ _ _ | refine below_alloc ?_ _ | refine below_drew ?_ | refine pw_below_drewN ?_ _)⟩
set_option maxHeartbeats 16000000 in
set_option maxRecDepth 100000 in
theorem One11 (s : ByteArray) (r i m : Int) (g : Nat) (wd : Bool) (w : World) (hs : s.size ≤ 281474976710656) (hr : r = 0 ∨ r = 8) (hi : i = 0 ∨ i = 8) (hm : m = 0 ∨ m = 8) (hg : w.heap[g]? = some (co s r i m)) (h0 : at0 (bl s) 0 = 153) :
    Calls Tryd.prog 48 #[.pointer (some ⟨g, 0, none⟩), .bool wd] w fun e w' => e = .returned (xv ⟨10, wd, 0, 0, 0, 0, 0⟩) ∧ Below w.heap.size w w' := by
  have hs1 := so1 hg
  have hgx : g ≠ w.heap.size + 1 + 1 := by have := blk_lt hg; omega
  have hpx : w.heap.size ≠ w.heap.size + 1 + 1 := by omega
  have hb0 := at0_bd s 0
  have hb1 := at0_bd s 1
  have A0 := cA0 s r i m g w hs hr hm
  have A1 := cA1 s r i m g w hs hr hm
  have HC := Aside0.mk (And.intro A0 (A1))
  have HS := Aside0.mk hs1
  clear A0 A1 hg hr hm hi
  generalize at0 (bl s) 0 = a at *
  generalize at0 (bl s) 1 = a1 at *
  obtain ⟨hb00, hb01⟩ := hb0
  obtain ⟨hb10, hb11⟩ := hb1
  have hs2 := HS.out
  have hmf := mkf
  go_enter Tryd.func48, Tryd.ntmps48
  go_wp2_with (first
    | ((first
      | (go_at_call 46; (with_reducible refine (HC.out.1 _ ?_).mono ?_))
      | (go_at_call 46; (with_reducible refine (HC.out.2 _ ?_).mono ?_))); (focus (with_reducible repeat (first | assumption | refine SO.drew ?_ | refine SO.drewN ?_ _ | refine SO.alloc ?_ _ | refine SO.set ?_ (by assumption) (by assumption) _ _))); rintro e w1 ⟨rfl, hw⟩; (first | (obtain ⟨n, rfl⟩ := hw) | (obtain rfl := hw))))
  exact bodyPost_ret (v := xv ⟨10, wd, 0, 0, 0, 0, 0⟩) (by simp [results, Tryd.results48, go_sem]) rfl ⟨rfl, by with_reducible repeat (first | exact Below.refl _ _ | refine below_own1 ?_ _ _ | refine below_own2 ?_ _ _ | refine below_alloc ?_ _ | refine below_drew ?_ | refine pw_below_drewN ?_ _)⟩
set_option maxHeartbeats 16000000 in
set_option maxRecDepth 100000 in
theorem One12 (s : ByteArray) (r i m : Int) (g : Nat) (wd : Bool) (w : World) (hs : s.size ≤ 281474976710656) (hr : r = 0 ∨ r = 8) (hi : i = 0 ∨ i = 8) (hm : m = 0 ∨ m = 8) (hg : w.heap[g]? = some (co s r i m)) (h0 : at0 (bl s) 0 = 233) :
    Calls Tryd.prog 48 #[.pointer (some ⟨g, 0, none⟩), .bool wd] w fun e w' => e = .returned (xv ⟨17, wd, 0, 0, 0, 0, sg4 (bl s) 1⟩) ∧ Below w.heap.size w w' := by
  have hs1 := so1 hg
  have hgx : g ≠ w.heap.size + 1 + 1 := by have := blk_lt hg; omega
  have hpx : w.heap.size ≠ w.heap.size + 1 + 1 := by omega
  have hb0 := at0_bd s 0
  have hb1 := at0_bd s 1
  have A0 := cA0 s r i m g w hs hr hm
  have A1 := cA1 s r i m g w hs hr hm
  have S1 := cS1 s r i m g w hs hr hm
  have HC := Aside0.mk (And.intro A0 (And.intro A1 (S1)))
  have HS := Aside0.mk hs1
  clear A0 A1 S1 hg hr hm hi
  generalize at0 (bl s) 0 = a at *
  generalize at0 (bl s) 1 = a1 at *
  generalize sg4 (bl s) 1 = v1 at *
  obtain ⟨hb00, hb01⟩ := hb0
  obtain ⟨hb10, hb11⟩ := hb1
  have hs2 := HS.out
  have hmf := mkf
  go_enter Tryd.func48, Tryd.ntmps48
  go_wp2_with (first
    | ((first
      | (go_at_call 46; (with_reducible refine (HC.out.1 _ ?_).mono ?_))
      | (go_at_call 46; (with_reducible refine (HC.out.2.1 _ ?_).mono ?_))
      | (go_at_call 64; (with_reducible refine (HC.out.2.2 _ ?_).mono ?_))); (focus (with_reducible repeat (first | assumption | refine SO.drew ?_ | refine SO.drewN ?_ _ | refine SO.alloc ?_ _ | refine SO.set ?_ (by assumption) (by assumption) _ _))); rintro e w1 ⟨rfl, hw⟩; (first | (obtain ⟨n, rfl⟩ := hw) | (obtain rfl := hw))))
  exact bodyPost_ret (v := xv ⟨17, wd, 0, 0, 0, 0, v1⟩) (by simp [results, Tryd.results48, go_sem]) rfl ⟨rfl, by with_reducible repeat (first | exact Below.refl _ _ | refine below_own1 ?_ _ _ | refine below_own2 ?_ _ _ | refine below_alloc ?_ _ | refine below_drew ?_ | refine pw_below_drewN ?_ _)⟩
set_option maxHeartbeats 16000000 in
set_option maxRecDepth 100000 in
theorem One13 (s : ByteArray) (r i m : Int) (g : Nat) (wd : Bool) (w : World) (hs : s.size ≤ 281474976710656) (hr : r = 0 ∨ r = 8) (hi : i = 0 ∨ i = 8) (hm : m = 0 ∨ m = 8) (hg : w.heap[g]? = some (co s r i m)) (h0 : at0 (bl s) 0 = 232) :
    Calls Tryd.prog 48 #[.pointer (some ⟨g, 0, none⟩), .bool wd] w fun e w' => e = .returned (xv ⟨19, wd, 0, 0, 0, 0, sg4 (bl s) 1⟩) ∧ Below w.heap.size w w' := by
  have hs1 := so1 hg
  have hgx : g ≠ w.heap.size + 1 + 1 := by have := blk_lt hg; omega
  have hpx : w.heap.size ≠ w.heap.size + 1 + 1 := by omega
  have hb0 := at0_bd s 0
  have hb1 := at0_bd s 1
  have A0 := cA0 s r i m g w hs hr hm
  have A1 := cA1 s r i m g w hs hr hm
  have S1 := cS1 s r i m g w hs hr hm
  have HC := Aside0.mk (And.intro A0 (And.intro A1 (S1)))
  have HS := Aside0.mk hs1
  clear A0 A1 S1 hg hr hm hi
  generalize at0 (bl s) 0 = a at *
  generalize at0 (bl s) 1 = a1 at *
  generalize sg4 (bl s) 1 = v1 at *
  obtain ⟨hb00, hb01⟩ := hb0
  obtain ⟨hb10, hb11⟩ := hb1
  have hs2 := HS.out
  have hmf := mkf
  go_enter Tryd.func48, Tryd.ntmps48
  go_wp2_with (first
    | ((first
      | (go_at_call 46; (with_reducible refine (HC.out.1 _ ?_).mono ?_))
      | (go_at_call 46; (with_reducible refine (HC.out.2.1 _ ?_).mono ?_))
      | (go_at_call 64; (with_reducible refine (HC.out.2.2 _ ?_).mono ?_))); (focus (with_reducible repeat (first | assumption | refine SO.drew ?_ | refine SO.drewN ?_ _ | refine SO.alloc ?_ _ | refine SO.set ?_ (by assumption) (by assumption) _ _))); rintro e w1 ⟨rfl, hw⟩; (first | (obtain ⟨n, rfl⟩ := hw) | (obtain rfl := hw))))
  exact bodyPost_ret (v := xv ⟨19, wd, 0, 0, 0, 0, v1⟩) (by simp [results, Tryd.results48, go_sem]) rfl ⟨rfl, by with_reducible repeat (first | exact Below.refl _ _ | refine below_own1 ?_ _ _ | refine below_own2 ?_ _ _ | refine below_alloc ?_ _ | refine below_drew ?_ | refine pw_below_drewN ?_ _)⟩
set_option maxHeartbeats 16000000 in
set_option maxRecDepth 100000 in
theorem One14 (s : ByteArray) (r i m : Int) (g : Nat) (wd : Bool) (w : World) (hs : s.size ≤ 281474976710656) (hr : r = 0 ∨ r = 8) (hi : i = 0 ∨ i = 8) (hm : m = 0 ∨ m = 8) (hg : w.heap[g]? = some (co s r i m)) (h0 : at0 (bl s) 0 = 195) :
    Calls Tryd.prog 48 #[.pointer (some ⟨g, 0, none⟩), .bool wd] w fun e w' => e = .returned (xv ⟨20, wd, 0, 0, 0, 0, 0⟩) ∧ Below w.heap.size w w' := by
  have hs1 := so1 hg
  have hgx : g ≠ w.heap.size + 1 + 1 := by have := blk_lt hg; omega
  have hpx : w.heap.size ≠ w.heap.size + 1 + 1 := by omega
  have hb0 := at0_bd s 0
  have hb1 := at0_bd s 1
  have A0 := cA0 s r i m g w hs hr hm
  have A1 := cA1 s r i m g w hs hr hm
  have HC := Aside0.mk (And.intro A0 (A1))
  have HS := Aside0.mk hs1
  clear A0 A1 hg hr hm hi
  generalize at0 (bl s) 0 = a at *
  generalize at0 (bl s) 1 = a1 at *
  obtain ⟨hb00, hb01⟩ := hb0
  obtain ⟨hb10, hb11⟩ := hb1
  have hs2 := HS.out
  have hmf := mkf
  go_enter Tryd.func48, Tryd.ntmps48
  go_wp2_with (first
    | ((first
      | (go_at_call 46; (with_reducible refine (HC.out.1 _ ?_).mono ?_))
      | (go_at_call 46; (with_reducible refine (HC.out.2 _ ?_).mono ?_))); (focus (with_reducible repeat (first | assumption | refine SO.drew ?_ | refine SO.drewN ?_ _ | refine SO.alloc ?_ _ | refine SO.set ?_ (by assumption) (by assumption) _ _))); rintro e w1 ⟨rfl, hw⟩; (first | (obtain ⟨n, rfl⟩ := hw) | (obtain rfl := hw))))
  exact bodyPost_ret (v := xv ⟨20, wd, 0, 0, 0, 0, 0⟩) (by simp [results, Tryd.results48, go_sem]) rfl ⟨rfl, by with_reducible repeat (first | exact Below.refl _ _ | refine below_own1 ?_ _ _ | refine below_own2 ?_ _ _ | refine below_alloc ?_ _ | refine below_drew ?_ | refine pw_below_drewN ?_ _)⟩
set_option maxHeartbeats 16000000 in
set_option maxRecDepth 100000 in
theorem One15 (s : ByteArray) (r i m : Int) (g : Nat) (wd : Bool) (w : World) (hs : s.size ≤ 281474976710656) (hr : r = 0 ∨ r = 8) (hi : i = 0 ∨ i = 8) (hm : m = 0 ∨ m = 8) (hg : w.heap[g]? = some (co s r i m)) (h0 : at0 (bl s) 0 = 244) :
    Calls Tryd.prog 48 #[.pointer (some ⟨g, 0, none⟩), .bool wd] w fun e w' => e = .returned (xv ⟨21, wd, 0, 0, 0, 0, 0⟩) ∧ Below w.heap.size w w' := by
  have hs1 := so1 hg
  have hgx : g ≠ w.heap.size + 1 + 1 := by have := blk_lt hg; omega
  have hpx : w.heap.size ≠ w.heap.size + 1 + 1 := by omega
  have hb0 := at0_bd s 0
  have hb1 := at0_bd s 1
  have A0 := cA0 s r i m g w hs hr hm
  have A1 := cA1 s r i m g w hs hr hm
  have HC := Aside0.mk (And.intro A0 (A1))
  have HS := Aside0.mk hs1
  clear A0 A1 hg hr hm hi
  generalize at0 (bl s) 0 = a at *
  generalize at0 (bl s) 1 = a1 at *
  obtain ⟨hb00, hb01⟩ := hb0
  obtain ⟨hb10, hb11⟩ := hb1
  have hs2 := HS.out
  have hmf := mkf
  go_enter Tryd.func48, Tryd.ntmps48
  go_wp2_with (first
    | ((first
      | (go_at_call 46; (with_reducible refine (HC.out.1 _ ?_).mono ?_))
      | (go_at_call 46; (with_reducible refine (HC.out.2 _ ?_).mono ?_))); (focus (with_reducible repeat (first | assumption | refine SO.drew ?_ | refine SO.drewN ?_ _ | refine SO.alloc ?_ _ | refine SO.set ?_ (by assumption) (by assumption) _ _))); rintro e w1 ⟨rfl, hw⟩; (first | (obtain ⟨n, rfl⟩ := hw) | (obtain rfl := hw))))
  exact bodyPost_ret (v := xv ⟨21, wd, 0, 0, 0, 0, 0⟩) (by simp [results, Tryd.results48, go_sem]) rfl ⟨rfl, by with_reducible repeat (first | exact Below.refl _ _ | refine below_own1 ?_ _ _ | refine below_own2 ?_ _ _ | refine below_alloc ?_ _ | refine below_drew ?_ | refine pw_below_drewN ?_ _)⟩
set_option maxHeartbeats 16000000 in
set_option maxRecDepth 100000 in
theorem One16 (s : ByteArray) (r i m : Int) (g : Nat) (wd : Bool) (w : World) (hs : s.size ≤ 281474976710656) (hr : r = 0 ∨ r = 8) (hi : i = 0 ∨ i = 8) (hm : m = 0 ∨ m = 8) (hg : w.heap[g]? = some (co s r i m)) (h0 : at0 (bl s) 0 = 204) :
    Calls Tryd.prog 48 #[.pointer (some ⟨g, 0, none⟩), .bool wd] w fun e w' => e = .returned (xv ⟨23, wd, 0, 0, 0, 0, 0⟩) ∧ Below w.heap.size w w' := by
  have hs1 := so1 hg
  have hgx : g ≠ w.heap.size + 1 + 1 := by have := blk_lt hg; omega
  have hpx : w.heap.size ≠ w.heap.size + 1 + 1 := by omega
  have hb0 := at0_bd s 0
  have hb1 := at0_bd s 1
  have A0 := cA0 s r i m g w hs hr hm
  have A1 := cA1 s r i m g w hs hr hm
  have HC := Aside0.mk (And.intro A0 (A1))
  have HS := Aside0.mk hs1
  clear A0 A1 hg hr hm hi
  generalize at0 (bl s) 0 = a at *
  generalize at0 (bl s) 1 = a1 at *
  obtain ⟨hb00, hb01⟩ := hb0
  obtain ⟨hb10, hb11⟩ := hb1
  have hs2 := HS.out
  have hmf := mkf
  go_enter Tryd.func48, Tryd.ntmps48
  go_wp2_with (first
    | ((first
      | (go_at_call 46; (with_reducible refine (HC.out.1 _ ?_).mono ?_))
      | (go_at_call 46; (with_reducible refine (HC.out.2 _ ?_).mono ?_))); (focus (with_reducible repeat (first | assumption | refine SO.drew ?_ | refine SO.drewN ?_ _ | refine SO.alloc ?_ _ | refine SO.set ?_ (by assumption) (by assumption) _ _))); rintro e w1 ⟨rfl, hw⟩; (first | (obtain ⟨n, rfl⟩ := hw) | (obtain rfl := hw))))
  exact bodyPost_ret (v := xv ⟨23, wd, 0, 0, 0, 0, 0⟩) (by simp [results, Tryd.results48, go_sem]) rfl ⟨rfl, by with_reducible repeat (first | exact Below.refl _ _ | refine below_own1 ?_ _ _ | refine below_own2 ?_ _ _ | refine below_alloc ?_ _ | refine below_drew ?_ | refine pw_below_drewN ?_ _)⟩
set_option maxHeartbeats 16000000 in
set_option maxRecDepth 100000 in
theorem One17a (s : ByteArray) (r i m : Int) (g : Nat) (wd : Bool) (w : World) (hs : s.size ≤ 281474976710656) (hr : r = 0 ∨ r = 8) (hi : i = 0 ∨ i = 8) (hm : m = 0 ∨ m = 8) (hg : w.heap[g]? = some (co s r i m)) (n137 : ¬ at0 (bl s) 0 = 137) (n139 : ¬ at0 (bl s) 0 = 139) (n129 : ¬ at0 (bl s) 0 = 129) (n133 : ¬ at0 (bl s) 0 = 133) (n211 : ¬ at0 (bl s) 0 = 211) (n247 : ¬ at0 (bl s) 0 = 247) (n99 : ¬ at0 (bl s) 0 = 99) (n153 : ¬ at0 (bl s) 0 = 153) (n233 : ¬ at0 (bl s) 0 = 233) (n232 : ¬ at0 (bl s) 0 = 232) (n195 : ¬ at0 (bl s) 0 = 195) (n244 : ¬ at0 (bl s) 0 = 244) (n204 : ¬ at0 (bl s) 0 = 204) (h0 : ¬ at0 (bl s) 0 / 8 = 23) (h1 : ¬ at0 (bl s) 0 < 64) :
    Calls Tryd.prog 48 #[.pointer (some ⟨g, 0, none⟩), .bool wd] w fun e w' => e = .returned (xv ⟨0, wd, 0, 0, 0, 0, 0⟩) ∧ Below w.heap.size w w' := by
  have hs1 := so1 hg
  have hgx : g ≠ w.heap.size + 1 + 1 := by have := blk_lt hg; omega
  have hpx : w.heap.size ≠ w.heap.size + 1 + 1 := by omega
  have hb0 := at0_bd s 0
  have hb1 := at0_bd s 1
  have A0 := cA0 s r i m g w hs hr hm
  have A1 := cA1 s r i m g w hs hr hm
  have e137 : (at0 (bl s) 0 == 137) = false := beq_eq_false_iff_ne.mpr (by omega)
  have e139 : (at0 (bl s) 0 == 139) = false := beq_eq_false_iff_ne.mpr (by omega)
  have e129 : (at0 (bl s) 0 == 129) = false := beq_eq_false_iff_ne.mpr (by omega)
  have e133 : (at0 (bl s) 0 == 133) = false := beq_eq_false_iff_ne.mpr (by omega)
  have e211 : (at0 (bl s) 0 == 211) = false := beq_eq_false_iff_ne.mpr (by omega)
  have e247 : (at0 (bl s) 0 == 247) = false := beq_eq_false_iff_ne.mpr (by omega)
  have e99 : (at0 (bl s) 0 == 99) = false := beq_eq_false_iff_ne.mpr (by omega)
  have e153 : (at0 (bl s) 0 == 153) = false := beq_eq_false_iff_ne.mpr (by omega)
  have e233 : (at0 (bl s) 0 == 233) = false := beq_eq_false_iff_ne.mpr (by omega)
  have e232 : (at0 (bl s) 0 == 232) = false := beq_eq_false_iff_ne.mpr (by omega)
  have e195 : (at0 (bl s) 0 == 195) = false := beq_eq_false_iff_ne.mpr (by omega)
  have e244 : (at0 (bl s) 0 == 244) = false := beq_eq_false_iff_ne.mpr (by omega)
  have e204 : (at0 (bl s) 0 == 204) = false := beq_eq_false_iff_ne.mpr (by omega)
  have e23 : (at0 (bl s) 0 / 8 == 23) = false := beq_eq_false_iff_ne.mpr h0
  clear n137 n139 n129 n133 n211 n247 n99 n153 n233 n232 n195 n244 n204
  have HC := Aside0.mk (And.intro A0 (A1))
  have HS := Aside0.mk hs1
  clear A0 A1 hg hr hm hi
  generalize at0 (bl s) 0 = a at *
  generalize at0 (bl s) 1 = a1 at *
  obtain ⟨hb00, hb01⟩ := hb0
  obtain ⟨hb10, hb11⟩ := hb1
  have hs2 := HS.out
  have hmf := mkf
  go_enter Tryd.func48, Tryd.ntmps48
  go_wp2_with (first
    | ((first
      | (go_at_call 46; (with_reducible refine (HC.out.1 _ ?_).mono ?_))
      | (go_at_call 46; (with_reducible refine (HC.out.2 _ ?_).mono ?_))); (focus (with_reducible repeat (first | assumption | refine SO.drew ?_ | refine SO.drewN ?_ _ | refine SO.alloc ?_ _ | refine SO.set ?_ (by assumption) (by assumption) _ _))); rintro e w1 ⟨rfl, hw⟩; (first | (obtain ⟨n, rfl⟩ := hw) | (obtain rfl := hw))))
  exact bodyPost_ret (v := xv ⟨0, wd, 0, 0, 0, 0, 0⟩) (by simp [results, Tryd.results48, go_sem]) rfl ⟨rfl, by with_reducible repeat (first | exact Below.refl _ _ | refine below_own1 ?_ _ _ | refine below_own2 ?_ _ _ | refine below_alloc ?_ _ | refine below_drew ?_ | refine pw_below_drewN ?_ _)⟩
set_option maxHeartbeats 16000000 in
set_option maxRecDepth 100000 in
theorem One17b (s : ByteArray) (r i m : Int) (g : Nat) (wd : Bool) (w : World) (hs : s.size ≤ 281474976710656) (hr : r = 0 ∨ r = 8) (hi : i = 0 ∨ i = 8) (hm : m = 0 ∨ m = 8) (hg : w.heap[g]? = some (co s r i m)) (n137 : ¬ at0 (bl s) 0 = 137) (n139 : ¬ at0 (bl s) 0 = 139) (n129 : ¬ at0 (bl s) 0 = 129) (n133 : ¬ at0 (bl s) 0 = 133) (n211 : ¬ at0 (bl s) 0 = 211) (n247 : ¬ at0 (bl s) 0 = 247) (n99 : ¬ at0 (bl s) 0 = 99) (n153 : ¬ at0 (bl s) 0 = 153) (n233 : ¬ at0 (bl s) 0 = 233) (n232 : ¬ at0 (bl s) 0 = 232) (n195 : ¬ at0 (bl s) 0 = 195) (n244 : ¬ at0 (bl s) 0 = 244) (n204 : ¬ at0 (bl s) 0 = 204) (h0 : ¬ at0 (bl s) 0 / 8 = 23) (h1 : at0 (bl s) 0 < 64) (h2 : ¬ at0 (bl s) 0 % 8 = 1) :
    Calls Tryd.prog 48 #[.pointer (some ⟨g, 0, none⟩), .bool wd] w fun e w' => e = .returned (xv ⟨0, wd, 0, 0, 0, 0, 0⟩) ∧ Below w.heap.size w w' := by
  have hs1 := so1 hg
  have hgx : g ≠ w.heap.size + 1 + 1 := by have := blk_lt hg; omega
  have hpx : w.heap.size ≠ w.heap.size + 1 + 1 := by omega
  have hb0 := at0_bd s 0
  have hb1 := at0_bd s 1
  have A0 := cA0 s r i m g w hs hr hm
  have A1 := cA1 s r i m g w hs hr hm
  have e137 : (at0 (bl s) 0 == 137) = false := beq_eq_false_iff_ne.mpr (by omega)
  have e139 : (at0 (bl s) 0 == 139) = false := beq_eq_false_iff_ne.mpr (by omega)
  have e129 : (at0 (bl s) 0 == 129) = false := beq_eq_false_iff_ne.mpr (by omega)
  have e133 : (at0 (bl s) 0 == 133) = false := beq_eq_false_iff_ne.mpr (by omega)
  have e211 : (at0 (bl s) 0 == 211) = false := beq_eq_false_iff_ne.mpr (by omega)
  have e247 : (at0 (bl s) 0 == 247) = false := beq_eq_false_iff_ne.mpr (by omega)
  have e99 : (at0 (bl s) 0 == 99) = false := beq_eq_false_iff_ne.mpr (by omega)
  have e153 : (at0 (bl s) 0 == 153) = false := beq_eq_false_iff_ne.mpr (by omega)
  have e233 : (at0 (bl s) 0 == 233) = false := beq_eq_false_iff_ne.mpr (by omega)
  have e232 : (at0 (bl s) 0 == 232) = false := beq_eq_false_iff_ne.mpr (by omega)
  have e195 : (at0 (bl s) 0 == 195) = false := beq_eq_false_iff_ne.mpr (by omega)
  have e244 : (at0 (bl s) 0 == 244) = false := beq_eq_false_iff_ne.mpr (by omega)
  have e204 : (at0 (bl s) 0 == 204) = false := beq_eq_false_iff_ne.mpr (by omega)
  have e23 : (at0 (bl s) 0 / 8 == 23) = false := beq_eq_false_iff_ne.mpr h0
  have e1 : (at0 (bl s) 0 % 8 == 1) = false := beq_eq_false_iff_ne.mpr h2
  have q7 := and7 (at0 (bl s) 0)
  clear n137 n139 n129 n133 n211 n247 n99 n153 n233 n232 n195 n244 n204
  have HC := Aside0.mk (And.intro A0 (A1))
  have HS := Aside0.mk hs1
  clear A0 A1 hg hr hm hi
  generalize at0 (bl s) 0 = a at *
  generalize at0 (bl s) 1 = a1 at *
  obtain ⟨hb00, hb01⟩ := hb0
  obtain ⟨hb10, hb11⟩ := hb1
  have hs2 := HS.out
  have hmf := mkf
  go_enter Tryd.func48, Tryd.ntmps48
  go_wp2_with (first
    | ((first
      | (go_at_call 46; (with_reducible refine (HC.out.1 _ ?_).mono ?_))
      | (go_at_call 46; (with_reducible refine (HC.out.2 _ ?_).mono ?_))); (focus (with_reducible repeat (first | assumption | refine SO.drew ?_ | refine SO.drewN ?_ _ | refine SO.alloc ?_ _ | refine SO.set ?_ (by assumption) (by assumption) _ _))); rintro e w1 ⟨rfl, hw⟩; (first | (obtain ⟨n, rfl⟩ := hw) | (obtain rfl := hw))))
  exact bodyPost_ret (v := xv ⟨0, wd, 0, 0, 0, 0, 0⟩) (by simp [results, Tryd.results48, go_sem]) rfl ⟨rfl, by with_reducible repeat (first | exact Below.refl _ _ | refine below_own1 ?_ _ _ | refine below_own2 ?_ _ _ | refine below_alloc ?_ _ | refine below_drew ?_ | refine pw_below_drewN ?_ _)⟩
set_option maxHeartbeats 16000000 in
set_option maxRecDepth 100000 in
theorem One1 (s : ByteArray) (r i m : Int) (g : Nat) (wd : Bool) (w : World) (hs : s.size ≤ 281474976710656) (hr : r = 0 ∨ r = 8) (hi : i = 0 ∨ i = 8) (hm : m = 0 ∨ m = 8) (hg : w.heap[g]? = some (co s r i m)) (h0 : at0 (bl s) 0 = 137) (h1 : at0 (bl s) 1 / 64 = 3) :
    Calls Tryd.prog 48 #[.pointer (some ⟨g, 0, none⟩), .bool wd] w fun e w' => e = .returned (xv ⟨1, wd, rg (bl s) 1 r, lw (bl s) 1 m, 0, 0, 0⟩) ∧ Below w.heap.size w w' := by
  have hs1 := so1 hg
  have hgx : g ≠ w.heap.size + 1 + 1 := by have := blk_lt hg; omega
  have hpx : w.heap.size ≠ w.heap.size + 1 + 1 := by omega
  have hb0 := at0_bd s 0
  have hb1 := at0_bd s 1
  have A0 := cA0 s r i m g w hs hr hm
  have A1 := cA1 s r i m g w hs hr hm
  have R1 := cR1 s r i m g w hs hr hm
  have L1 := cL1 s r i m g w hs hr hm
  have P := Pair s r i m 1 g w.heap.size (w.heap.size + 1 + 1) wd (U1 w g wd) hs hr hm hgx hpx (SO.alloc (SO.alloc hs1 _) _).1 (SO.alloc (SO.alloc hs1 _) _).2 (U1_x w g wd)
  have HC := Aside0.mk (And.intro A0 (And.intro A1 (And.intro R1 (And.intro L1 (P)))))
  have HS := Aside0.mk hs1
  clear A0 A1 R1 L1 P hg hr hm hi
  generalize at0 (bl s) 0 = a at *
  generalize at0 (bl s) 1 = a1 at *
  generalize rg (bl s) 1 r = r1 at *
  generalize lw (bl s) 1 m = l1 at *
  obtain ⟨hb00, hb01⟩ := hb0
  obtain ⟨hb10, hb11⟩ := hb1
  have hs2 := HS.out
  have hmf := mkf
  go_enter Tryd.func48, Tryd.ntmps48
  go_wp2_with (first
    | ((first
      | (go_at_call 46; (with_reducible refine (HC.out.1 _ ?_).mono ?_))
      | (go_at_call 46; (with_reducible refine (HC.out.2.1 _ ?_).mono ?_))
      | (go_at_call 62; (with_reducible refine (HC.out.2.2.1 _ ?_).mono ?_))
      | (go_at_call 63; (with_reducible refine (HC.out.2.2.2.1 _ ?_).mono ?_))); (focus (with_reducible repeat (first | assumption | refine SO.drew ?_ | refine SO.drewN ?_ _ | refine SO.alloc ?_ _ | refine SO.set ?_ (by assumption) (by assumption) _ _))); rintro e w1 ⟨rfl, hw⟩; (first | (obtain ⟨n, rfl⟩ := hw) | (obtain rfl := hw)))
    | (go_at_call 65; refine (HC.out.2.2.2.2).mono ?_; rintro e w1 ⟨rfl, nP, rfl⟩))
  exact bodyPost_ret (v := xv ⟨1, wd, r1, l1, 0, 0, 0⟩) (by simp [results, Tryd.results48, go_sem]) rfl ⟨rfl, by with_reducible repeat (first | exact Below.refl _ _ | refine below_own1 ?_ _ _ | refine below_own2 ?_ _ _ | refine below_alloc ?_ _ | refine below_drew ?_ | refine pw_below_drewN ?_ _)⟩
/-- an instruction of one byte, read -/
theorem One (s : ByteArray) (r i m : Int) (g : Nat) (wd : Bool) (w : World) (hs : s.size ≤ 281474976710656) (hr : r = 0 ∨ r = 8) (hi : i = 0 ∨ i = 8) (hm : m = 0 ∨ m = 8) (hg : w.heap[g]? = some (co s r i m)) :
    Calls Tryd.prog 48 #[.pointer (some ⟨g, 0, none⟩), .bool wd] w fun e w' => e = .returned (xv (one (bl s) wd r i m)) ∧ Below w.heap.size w w' := by
  unfold one
  by_cases c1 : at0 (bl s) 0 = 137 ∧ at0 (bl s) 1 / 64 = 3
  · rw [if_pos c1]
    exact One1 s r i m g wd w hs hr hi hm hg c1.1 c1.2
  rw [if_neg c1]
  by_cases c2 : at0 (bl s) 0 = 137
  · rw [if_pos c2]
    by_cases hy : rg (bl s) 2 i = 4
    · rw [if_pos hy]; exact One2a s r i m g wd w hs hr hi hm hg c2 (fun h => c1 ⟨c2, h⟩) hy
    · rw [if_neg hy]; exact One2b s r i m g wd w hs hr hi hm hg c2 (fun h => c1 ⟨c2, h⟩) hy
  rw [if_neg c2]
  by_cases c3 : at0 (bl s) 0 = 139
  · rw [if_pos c3]
    by_cases hy : rg (bl s) 2 i = 4
    · rw [if_pos hy]; exact One3a s r i m g wd w hs hr hi hm hg c3 hy
    · rw [if_neg hy]; exact One3b s r i m g wd w hs hr hi hm hg c3 hy
  rw [if_neg c3]
  by_cases c4 : at0 (bl s) 0 / 8 = 23
  · rw [if_pos c4]
    exact One4 s r i m g wd w hs hr hi hm hg c4
  rw [if_neg c4]
  by_cases c5 : at0 (bl s) 0 < 64 ∧ at0 (bl s) 0 % 8 = 1
  · rw [if_pos c5]
    exact One5 s r i m g wd w hs hr hi hm hg c5.1 c5.2
  rw [if_neg c5]
  by_cases c6 : at0 (bl s) 0 = 129
  · rw [if_pos c6]
    exact One6 s r i m g wd w hs hr hi hm hg c6
  rw [if_neg c6]
  by_cases c7 : at0 (bl s) 0 = 133
  · rw [if_pos c7]
    exact One7 s r i m g wd w hs hr hi hm hg c7
  rw [if_neg c7]
  by_cases c8 : at0 (bl s) 0 = 211
  · rw [if_pos c8]
    exact One8 s r i m g wd w hs hr hi hm hg c8
  rw [if_neg c8]
  by_cases c9 : at0 (bl s) 0 = 247
  · rw [if_pos c9]
    by_cases hy : at0 (bl s) 1 / 8 % 8 = 7
    · rw [if_pos hy]; exact One9a s r i m g wd w hs hr hi hm hg c9 hy
    · rw [if_neg hy]; exact One9b s r i m g wd w hs hr hi hm hg c9 hy
  rw [if_neg c9]
  by_cases c10 : at0 (bl s) 0 = 99
  · rw [if_pos c10]
    exact One10 s r i m g wd w hs hr hi hm hg c10
  rw [if_neg c10]
  by_cases c11 : at0 (bl s) 0 = 153
  · rw [if_pos c11]
    exact One11 s r i m g wd w hs hr hi hm hg c11
  rw [if_neg c11]
  by_cases c12 : at0 (bl s) 0 = 233
  · rw [if_pos c12]
    exact One12 s r i m g wd w hs hr hi hm hg c12
  rw [if_neg c12]
  by_cases c13 : at0 (bl s) 0 = 232
  · rw [if_pos c13]
    exact One13 s r i m g wd w hs hr hi hm hg c13
  rw [if_neg c13]
  by_cases c14 : at0 (bl s) 0 = 195
  · rw [if_pos c14]
    exact One14 s r i m g wd w hs hr hi hm hg c14
  rw [if_neg c14]
  by_cases c15 : at0 (bl s) 0 = 244
  · rw [if_pos c15]
    exact One15 s r i m g wd w hs hr hi hm hg c15
  rw [if_neg c15]
  by_cases c16 : at0 (bl s) 0 = 204
  · rw [if_pos c16]
    exact One16 s r i m g wd w hs hr hi hm hg c16
  rw [if_neg c16]
  by_cases h1 : at0 (bl s) 0 < 64
  · exact One17b s r i m g wd w hs hr hi hm hg c2 c3 c6 c7 c8 c9 c10 c11 c12 c13 c14 c15 c16 c4 h1 (fun h => c5 ⟨h1, h⟩)
  · exact One17a s r i m g wd w hs hr hi hm hg c2 c3 c6 c7 c8 c9 c10 c11 c12 c13 c14 c15 c16 c4 h1
end Go.Proofs.YtkfinaongajhmaaDoor.X

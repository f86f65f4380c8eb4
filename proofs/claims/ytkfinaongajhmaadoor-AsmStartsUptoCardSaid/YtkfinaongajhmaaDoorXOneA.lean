/- The instructions of one byte: the two closures that fill them, as words. No condition but lengths. -/
import Derived.Test.YtkfinaongajhmaaDoorXTwo
import Derived.BigQuiet
import Derived.Deep.RegionHeld3
namespace Go.Proofs.YtkfinaongajhmaaDoor.X
open Go.Ob Go.Ob.Xc Go.RowKit Go.Proofs.YtkfinaongajhmaaDoorW.PrintWords Go.Proofs.YtkfinaongajhmaaDoorW.PrintMore
attribute [local go_sem] max2_int min2_int max_two min_two
set_option linter.unusedVariables false
set_option linter.unusedSimpArgs false
/-- the bytes and the pointer to them stand -/
def SO (g p : Nat) (s : ByteArray) (r i m : Int) (W : World) : Prop := W.heap[g]? = some (co s r i m) ∧ W.heap[p]? = some (.cells #[.pointer (some ⟨g, 0, none⟩)] 74 (0, 0))
/-- the same, as cells -/
def SOc (g p : Nat) (s : ByteArray) (r i m : Int) (W : World) : Prop := W.cell? ⟨p, 0, none⟩ = some (.pointer (some ⟨g, 0, none⟩)) ∧ W.cell? ⟨g, 2, none⟩ = some (.int .i64 i) ∧ W.cell? ⟨g, 3, none⟩ = some (.int .i64 m) ∧ SO g p s r i m W
section
variable {g p : Nat} {s : ByteArray} {r i m : Int} {W w1 : World}
theorem SO.cells (h : SO g p s r i m W) : SOc g p s r i m W := ⟨by have := blk_cell h.2 0; simpa using this, by have := blk_cell h.1 2; simpa using this, by have := blk_cell h.1 3; simpa using this, h⟩
theorem SO.drew (h : SO g p s r i m W) : SO g p s r i m W.drew := ⟨blk_drew h.1, blk_drew h.2⟩
theorem SO.drewN (h : SO g p s r i m W) (n : Nat) : SO g p s r i m (W.drewN n) := ⟨blk_drewN h.1 n, blk_drewN h.2 n⟩
theorem SO.set (h : SO g p s r i m W) {x : Nat} (hg : g ≠ x) (hp : p ≠ x) (j : Nat) (v : Value) : SO g p s r i m (W.setCell ⟨x, j, none⟩ v) := ⟨blk_far h.1 hg v, blk_far h.2 hp v⟩
end
set_option maxHeartbeats 16000000 in
set_option maxRecDepth 100000 in
theorem Pair (s : ByteArray) (r i m k : Int) (g p x : Nat) (wd : Bool) (w : World) (hs : s.size ≤ 281474976710656) (hr : r = 0 ∨ r = 8) (hm : m = 0 ∨ m = 8) (hgx : g ≠ x) (hpx : p ≠ x)
    (hg : w.heap[g]? = some (co s r i m)) (hp : w.heap[p]? = some (.cells #[.pointer (some ⟨g, 0, none⟩)] 74 (0, 0))) (hx : w.heap[x]? = some (xo ⟨0, wd, 0, 0, 0, 0, 0⟩)) :
    Calls Tryd.prog 65 #[.int .i64 k, .pointer (some ⟨p, 0, none⟩), .pointer (some ⟨x, 0, none⟩)] w fun e w' => e = .returned (.tuple #[]) ∧ ∃ n, w' = (((w.drewN n).setCell ⟨x, 0, none⟩ (.int .i64 k)).setCell ⟨x, 2, none⟩ (.int .i64 (rg (bl s) 1 r))).setCell ⟨x, 3, none⟩ (.int .i64 (lw (bl s) 1 m)) := by
  have R1 : ∀ W, SO g p s r i m W → Calls Tryd.prog 62 #[.pointer (some ⟨g, 0, none⟩), .int .i64 1] W fun e w' => e = .returned (.int .i64 (rg (bl s) 1 r)) ∧ ∃ n, w' = W.drewN n := fun W h => RegAt s r i m g 1 W (by decide) hs hr h.1
  have L1 : ∀ W, SO g p s r i m W → Calls Tryd.prog 63 #[.pointer (some ⟨g, 0, none⟩), .int .i64 1] W fun e w' => e = .returned (.int .i64 (lw (bl s) 1 m)) ∧ ∃ n, w' = W.drewN n := fun W h => LowAt s r i m g 1 W (by decide) hs hm h.1
  have HS := Aside0.mk (SO.cells (g := g) (p := p) (s := s) (r := r) (i := i) (m := m) (W := w) ⟨hg, hp⟩)
  have HC := Aside0.mk (And.intro R1 L1)
  have x0 := blk_cell hx 0
  have x2 := blk_cell hx 2
  have x3 := blk_cell hx 3
  have f0 := blk_frozen hx 0
  have f2 := blk_frozen hx 2
  have f3 := blk_frozen hx 3
  simp at x0 x2 x3
  clear R1 L1 hg hp hx hr hm
  generalize rg (bl s) 1 r = a at *
  generalize lw (bl s) 1 m = b at *
  go_enter Tryd.func65, Tryd.ntmps65
  go_wp2_with fail
  have hs0 := HS.out
  have hs1 : SO g p s r i m w := hs0.2.2.2
  go_region_held3 (fun wr => wr.cell? ⟨p, 0, none⟩ = some (.pointer (some ⟨g, 0, none⟩)) ∧ wr.cell? ⟨g, 2, none⟩ = some (.int .i64 i) ∧ wr.cell? ⟨g, 3, none⟩ = some (.int .i64 m) ∧ SO g p s r i m wr) ((refine SO.cells ?_; (with_reducible repeat (first | assumption | refine SO.drew ?_ | refine SO.drewN ?_ _ | refine SO.set ?_ (by assumption) (by assumption) _ _)))) (first
      | (go_at_call 62; refine (HC.out.1 _ ?_).mono ?_; (focus (with_reducible repeat (first | assumption | refine SO.drew ?_ | refine SO.drewN ?_ _ | refine SO.set ?_ (by assumption) (by assumption) _ _))); rintro e w1 ⟨rfl, n1, rfl⟩)
      | (go_at_call 63; refine (HC.out.2 _ ?_).mono ?_; (focus (with_reducible repeat (first | assumption | refine SO.drew ?_ | refine SO.drewN ?_ _ | refine SO.set ?_ (by assumption) (by assumption) _ _))); rintro e w1 ⟨rfl, n1, rfl⟩))
  go_wp2
  go_end0
  exact ⟨rfl, _, rfl⟩
set_option maxHeartbeats 16000000 in
set_option maxRecDepth 100000 in
theorem Group (s : ByteArray) (r i m k : Int) (g p x : Nat) (wd : Bool) (w : World) (hs : s.size ≤ 281474976710656) (hr : r = 0 ∨ r = 8) (hm : m = 0 ∨ m = 8) (hgx : g ≠ x) (hpx : p ≠ x)
    (hg : w.heap[g]? = some (co s r i m)) (hp : w.heap[p]? = some (.cells #[.pointer (some ⟨g, 0, none⟩)] 74 (0, 0))) (hx : w.heap[x]? = some (xo ⟨0, wd, 0, 0, 0, 0, 0⟩)) :
    Calls Tryd.prog 66 #[.int .i64 k, .pointer (some ⟨p, 0, none⟩), .pointer (some ⟨x, 0, none⟩)] w fun e w' => e = .returned (.tuple #[]) ∧ ∃ n, w' = (((w.drewN n).setCell ⟨x, 0, none⟩ (.int .i64 k)).setCell ⟨x, 5, none⟩ (.int .i64 (at0 (bl s) 1 / 8 % 8))).setCell ⟨x, 3, none⟩ (.int .i64 (lw (bl s) 1 m)) := by
  have R1 : ∀ W, SO g p s r i m W → Calls Tryd.prog 46 #[.pointer (some ⟨g, 0, none⟩), .int .i64 1] W fun e w' => e = .returned (.int .i64 (at0 (bl s) 1)) ∧ W = w' := fun W h => At s r i m g 1 W (by decide) hs h.1
  have hb := at0_bd s 1
  have q7 := and7 (at0 (bl s) 1 / 8)
  have L1 : ∀ W, SO g p s r i m W → Calls Tryd.prog 63 #[.pointer (some ⟨g, 0, none⟩), .int .i64 1] W fun e w' => e = .returned (.int .i64 (lw (bl s) 1 m)) ∧ ∃ n, w' = W.drewN n := fun W h => LowAt s r i m g 1 W (by decide) hs hm h.1
  have HS := Aside0.mk (SO.cells (g := g) (p := p) (s := s) (r := r) (i := i) (m := m) (W := w) ⟨hg, hp⟩)
  have HC := Aside0.mk (And.intro R1 L1)
  have x0 := blk_cell hx 0
  have x2 := blk_cell hx 5
  have x3 := blk_cell hx 3
  have f0 := blk_frozen hx 0
  have f2 := blk_frozen hx 5
  have f3 := blk_frozen hx 3
  simp at x0 x2 x3
  clear R1 L1 hg hp hx hr hm
  rw [← q7]
  clear q7
  generalize at0 (bl s) 1 = a at *
  obtain ⟨hb0, hb1⟩ := hb
  generalize lw (bl s) 1 m = b at *
  go_enter Tryd.func66, Tryd.ntmps66
  go_wp2_with fail
  have hs0 := HS.out
  have hs1 : SO g p s r i m w := hs0.2.2.2
  go_region_held3 (fun wr => wr.cell? ⟨p, 0, none⟩ = some (.pointer (some ⟨g, 0, none⟩)) ∧ wr.cell? ⟨g, 2, none⟩ = some (.int .i64 i) ∧ wr.cell? ⟨g, 3, none⟩ = some (.int .i64 m) ∧ SO g p s r i m wr) ((refine SO.cells ?_; (with_reducible repeat (first | assumption | refine SO.drew ?_ | refine SO.drewN ?_ _ | refine SO.set ?_ (by assumption) (by assumption) _ _)))) (first
      | (go_at_call 46; refine (HC.out.1 _ ?_).mono ?_; (focus (with_reducible repeat (first | assumption | refine SO.drew ?_ | refine SO.drewN ?_ _ | refine SO.set ?_ (by assumption) (by assumption) _ _))); rintro e w1 ⟨rfl, rfl⟩)
      | (go_at_call 63; refine (HC.out.2 _ ?_).mono ?_; (focus (with_reducible repeat (first | assumption | refine SO.drew ?_ | refine SO.drewN ?_ _ | refine SO.set ?_ (by assumption) (by assumption) _ _))); rintro e w1 ⟨rfl, n1, rfl⟩))
  go_wp2
  go_end0
  exact ⟨rfl, _, rfl⟩
end Go.Proofs.YtkfinaongajhmaaDoor.X

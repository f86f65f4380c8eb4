/- Of any lists it is told whether all flow to all: what the program's function and the reference's compute. No condition but that lengths are those of the language. -/
import Derived.RangeFuncNested
import Derived.RangeFuncBound
import Derived.RangeFuncCalls
import Derived.RangeFuncLeaves
import Derived.RangeFuncBox
import Derived.Shelf.Abstract
import Derived.Shelf.RegionOpen
import Derived.WalkKit
import Derived.OwnWalkIn
import Derived.TacticsInMore
import Derived.LoopNIn
import Derived.LoopIn
import Derived.Outline
import Derived.Test.YtiacmfgkbgfhkaaLabelTellsWalk
namespace Go.Proofs.Ytiacmfgkbgfhkaa.AllWalk
open Go.RowKit Go.Shelf Go.Proofs.Ytiacmfgkbgfhkaa.PLabelTells Go.Proofs.Ytiacmfgkbgfhkaa.TellsWalk Go.Proofs.YtiacmfgkbgfhkaaW.PrintWords
set_option linter.unusedVariables false
set_option linter.unusedSimpArgs false
attribute [local go_sem] Oper.semAt_some
/-- a number of Go's int -/
abbrev I64 := { x : Int // (Lit.int .i64 x).wf = true }
def zero64 : I64 := ⟨0, rfl⟩
def upto {α : Type} (f : Nat → α) (k : Nat) : List α := (List.range k).map f
theorem upto_succ {α : Type} (f : Nat → α) (k : Nat) : upto f (k + 1) = upto f k ++ [f k] := by simp [upto, List.range_succ]
theorem upto_length {α : Type} (f : Nat → α) (k : Nat) : (upto f k).length = k := by simp [upto]
/-- what stands side by side -/
def side (xs ys : List I64) (j : Nat) : I64 × I64 := (xs.getD j zero64, ys.getD j zero64)
/-- the cells of a list, below a place -/
def Cells (n₀ : Nat) (w : World) (A : Option Addr) (xs : List I64) : Prop := ∀ j, j < xs.length → ∃ ad, A = some ad ∧ ad.block < n₀ ∧ w.cell? (ad.add j) = some (.int .i64 (xs.getD j zero64).1)
theorem add_block (a : Addr) (n : Nat) : (a.add n).block = a.block := by unfold Addr.add; split <;> rfl
theorem Cells.below {n₀ : Nat} {w w' : World} {A : Option Addr} {xs : List I64} (h : Cells n₀ w A xs) (hb : Below n₀ w w') : Cells n₀ w' A xs := fun j hj => by
  obtain ⟨ad, e, h1, h2⟩ := h j hj
  exact ⟨ad, e, h1, (hb.cell (by rw [add_block]; exact h1)).trans h2⟩
set_option maxRecDepth 100000 in
set_option maxHeartbeats 2000000 in
theorem pairs_in (n : Nat) (a b : Option Addr) (la ca lb cb : Nat) (w : World) :
    CallsIn Fence.wide n Try.prog 38 #[.slice a la ca, .slice b lb cb] w fun e w' => e = .returned (.func (.func 41) #[] #[.pointer (some ⟨w.heap.size, 0, none⟩), .pointer (some ⟨w.heap.size + 1, 0, none⟩)]) ∧
      w' = (w.alloc (.cells #[.slice a la ca] 30)).alloc (.cells #[.slice b lb cb] 30) := by
  refine callsIn_of_wp Try.func38 rfl trivial ?_ rfl
  simp only [Try.ntmps38, List.size_toArray, List.length_cons, List.length_nil, Nat.reduceAdd, Nat.reduceSub, Array.replicate_succ, Array.replicate_zero, List.push_toArray, List.append_toArray, List.nil_append, List.cons_append]
  gi_wp2
  go_ret
  exact ⟨rfl, rfl⟩
theorem one {e : Ending} {p q : Prop} (h : (e = .returned (.bool true) ∧ p) ∨ (e = .returned (.bool false) ∧ q)) : ∃ r : Bool, e = .returned (.bool r) ∧ Aside0 ((r = true ∧ p) ∨ (r = false ∧ q)) := by
  rcases h with ⟨rfl, h⟩ | ⟨rfl, h⟩
  · exact ⟨true, rfl, ⟨.inl ⟨rfl, h⟩⟩⟩
  · exact ⟨false, rfl, ⟨.inr ⟨rfl, h⟩⟩⟩
theorem below_drew2 {B : Nat} {w W : World} (h : Below B w.drew W) : Below B w W := ⟨h.os, h.tape, h.output, h.size, h.block⟩
set_option maxRecDepth 100000 in
set_option maxHeartbeats 16000000 in
theorem pairs1_in (n : Nat) (hn : 1 ≤ n) (l B1 B2 n₀ : Nat) (A B : Option Addr) (ca cb : Nat) (xs ys : List I64) (hlen : xs.length = ys.length) (hreach : xs.length ≤ 9223372036854775807) (hB1 : B1 < n₀) (hB2 : B2 < n₀) (J Jx : List (I64 × I64) → World → Prop)
    (W0 : Nat) (hJ : AbidesFrom W0 J)
    (hY : ∀ pre x W, J pre W → pre.length < xs.length → YieldAt Fence.wide (n - 1) Try.prog l #[.int .i64 x.1.1, .int .i64 x.2.1] W fun e W' =>
      (e = .returned (.bool true) ∧ J (pre ++ [x]) W' ∧ Below n₀ W W') ∨ (e = .returned (.bool false) ∧ Jx (pre ++ [x]) W'))
    (W : World) (h1 : W.cell? ⟨B1, 0, none⟩ = some (.slice A xs.length ca)) (h2 : W.cell? ⟨B2, 0, none⟩ = some (.slice B xs.length cb)) (hc1 : Cells n₀ W A xs) (hc2 : Cells n₀ W B ys) (h0 : J [] W) :
    CallsIn Fence.wide n Try.prog 41 #[.func (.yield l) #[] #[], .pointer (some ⟨B1, 0, none⟩), .pointer (some ⟨B2, 0, none⟩)] W fun e W' => (∃ v, e = .returned v) ∧
      ((∃ zs, zs = upto (side xs ys) xs.length ∧ J zs W') ∨ (∃ pre, (∃ k, k ≤ xs.length ∧ pre = upto (side xs ys) k) ∧ Jx pre W')) := by
  refine callsIn_of_wp Try.func41 rfl trivial ?_ rfl
  have HL := Aside0.mk hlen
  have HC1 := Aside0.mk hc1
  have HC2 := Aside0.mk hc2
  clear hlen hc1 hc2
  simp only [Try.ntmps41, List.size_toArray, List.length_cons, List.length_nil, Nat.reduceAdd, Nat.reduceSub, Array.replicate_succ, Array.replicate_zero, List.push_toArray, List.append_toArray, List.nil_append, List.cons_append]
  gi_wp2
  gi_loopw [7] (fun i wr => ∃ k : Nat, k ≤ xs.length ∧ i = .int .i64 k ∧ J (upto (side xs ys) k) wr ∧ Below n₀ W wr)
    (fun i _ => xs.length - (intOf i).toNat)
  case atStart => exact ⟨0, Nat.zero_le _, rfl, h0, Below.refl _ _⟩
  case round =>
    obtain ⟨k, hk, rfl, hJs, hnx⟩ := hrel
    by_cases hlt : k < xs.length
    · obtain ⟨ad, rfl, hb1, hx1⟩ := HC1.out.below hnx k hlt
      obtain ⟨bd, rfl, hb2, hx2⟩ := HC2.out.below hnx k (by rw [← HL.out]; exact hlt)
      have g1 : wr.cell? ⟨B1, 0, none⟩ = _ := (hnx.cell (p := ⟨B1, 0, none⟩) hB1).trans h1
      have g2 : wr.cell? ⟨B2, 0, none⟩ = _ := (hnx.cell (p := ⟨B2, 0, none⟩) hB2).trans h2
      have hJd : J (upto (side xs ys) k) wr.drew := hJ _ wr wr.drew none hJs ⟨rfl, rfl, rfl, Nat.le_refl _, fun _ _ _ => rfl⟩ (fun r e => by cases e)
      obtain ⟨fn, tmps, assign, body, hy, hR⟩ := hY _ (side xs ys k) wr.drew hJd (by rw [upto_length]; exact hlt)
      dsimp only [side] at hy
      obtain ⟨x, hx⟩ : ∃ x, (xs.getD k zero64).1 = x := ⟨_, rfl⟩
      obtain ⟨y, hy'⟩ : ∃ y, (ys.getD k zero64).1 = y := ⟨_, rfl⟩
      rw [hx, hy'] at hy
      rw [hx] at hx1
      rw [hy'] at hx2
      have HN := Aside0.mk (And.intro hnx hJs)
      have HR := Aside0.mk hR
      clear hx hy' hJd hJs hnx hR
      have hmx : Try.prog.follows .mixedOrders = true := by kernel_rfl
      gi_wp2
      gi_region_with_o (refine HR.out.mono ?_; intro e W3 h3; obtain ⟨r, rfl, h3'⟩ := one h3; clear h3)
      all_goals
        rcases h3'.out with ⟨rfl, hJ3, hk3⟩ | ⟨rfl, hJx3⟩
        · gi_wp2
          go_roundw
          case rel => exact ⟨k + 1, hlt, by simp, by rw [upto_succ]; exact hJ3, HN.out.1.trans (below_drew2 hk3)⟩
          case measure => simp [intOf]; omega
        · gi_wp2
          refine bodyPost_ret (results_none rfl _ _ _) rfl ?_
          exact ⟨⟨_, rfl⟩, .inr ⟨_, ⟨k + 1, hlt, (upto_succ _ _).symm⟩, hJx3⟩⟩
    · obtain rfl : k = xs.length := by omega
      gi_wp2
      go_end0
      exact ⟨⟨_, rfl⟩, .inl ⟨_, rfl, hJs⟩⟩
theorem pairs_stops (n : Nat) (hn : 1 ≤ n) (B1 B2 n₀ : Nat) (A B : Option Addr) (ca cb : Nat) (xs ys : List I64) (hlen : xs.length = ys.length) (hreach : xs.length ≤ 9223372036854775807) (hB1 : B1 < n₀) (hB2 : B2 < n₀) (w : World) (hn₀ : n₀ ≤ w.heap.size)
    (h1 : w.cell? ⟨B1, 0, none⟩ = some (.slice A xs.length ca)) (h2 : w.cell? ⟨B2, 0, none⟩ = some (.slice B xs.length cb)) (hc1 : Cells n₀ w A xs) (hc2 : Cells n₀ w B ys) :
    SeqStopsK Fence.wide n Try.prog 41 #[.pointer (some ⟨B1, 0, none⟩), .pointer (some ⟨B2, 0, none⟩)] (fun x : I64 × I64 => #[Value.int .i64 x.1.1, Value.int .i64 x.2.1]) (Below n₀) (fun zs => zs = upto (side xs ys) xs.length)
      (fun pre => ∃ k, k ≤ xs.length ∧ pre = upto (side xs ys) k) xs.length w := fun l J Jx W hW hJ _ hY h0 =>
  pairs1_in n hn l B1 B2 n₀ A B ca cb xs ys hlen hreach hB1 hB2 J Jx _ hJ hY W ((hW.cell (p := ⟨B1, 0, none⟩) (by show B1 < _; omega)).trans h1) ((hW.cell (p := ⟨B2, 0, none⟩) (by show B2 < _; omega)).trans h2) (hc1.below (hW.mono hn₀)) (hc2.below (hW.mono hn₀)) h0
end Go.Proofs.Ytiacmfgkbgfhkaa.AllWalk

/- A number's bytes put into a row: the program's function. -/
import Derived.Test.YtgaiehnbjggmdaaDoorFMath
namespace Go.Proofs.YtgaiehnbjggmdaaDoor.F
open Go.Ob Go.RowKit Go.Proofs.YtgaiehnbjggmdaaDoorW.PrintWords Go.Proofs.YtgaiehnbjggmdaaDoorW.PrintMore
attribute [local go_sem] max2_int min2_int max_two min_two
set_option linter.unusedVariables false
set_option linter.unusedSimpArgs false
/-- block g holds other bytes; all other blocks are as they were -/
structure PutIn (g : Nat) (xs : List Int) (w w' : World) : Prop where
  row : w'.heap[g]? = some (.cells (nums .u8 xs).toArray 5 (0, 0))
  other : ∀ k, k ≠ g → w'.heap[k]? = w.heap[k]?
  size : w'.heap.size = w.heap.size
  below : Below g w w'
theorem PutIn.refl {g : Nat} {xs : List Int} {w : World} (h : w.heap[g]? = some (.cells (nums .u8 xs).toArray 5 (0, 0))) : PutIn g xs w w := ⟨h, fun _ _ => rfl, rfl, Below.refl _ _⟩
theorem PutIn.set {g : Nat} {xs : List Int} {w w' : World} (h : PutIn g xs w w') (k : Nat) (x : Int) : PutIn g (xs.set k x) w (w'.setCell ⟨g, k, none⟩ (.int .u8 x)) := by
  refine ⟨nums_put h.row k x, fun j hj => ?_, ?_, h.below.setCell (Nat.le_refl _) _⟩
  · rw [← h.other j hj]
    unfold World.setCell
    simp [Array.getElem?_modify, Ne.symm hj]
  · rw [← h.size]
    simp [World.setCell]
theorem PutIn.drewN {g : Nat} {xs : List Int} {w w' : World} (h : PutIn g xs w w') (n : Nat) : PutIn g xs w (w'.drewN n) := ⟨h.row, h.other, h.size, pw_below_drewN h.below n⟩
set_option maxHeartbeats 4000000 in
set_option maxRecDepth 100000 in
theorem Put (g n cap K : Nat) (v : Int) (xs : List Int) (w : World) (hg : w.heap[g]? = some (.cells (nums .u8 xs).toArray 5 (0, 0))) (hn : xs.length = n) (hK : K + 8 ≤ n) (hn2 : n ≤ 1000000) :
    Calls Tryd.prog 62 #[.slice (some ⟨g, 0, none⟩) n cap, .int .i64 K, .int .i64 v] w fun e w' => e = .returned (.tuple #[]) ∧ PutIn g (spl xs K (bytesOf v 8)) w w' := by
  have HG := Aside0.mk hg
  have HN := Aside0.mk hn
  clear hg hn
  go_enter Tryd.func62, Tryd.ntmps62
  go_wp2
  go_loopw [7] (fun i wr => ∃ k : Nat, k ≤ 8 ∧ i = .int .i64 k ∧ PutIn g (spl xs K (bytesOf v k)) w wr) (fun i _ => 8 - (intOf i).toNat)
  case atStart => exact ⟨0, Nat.zero_le _, rfl, by rw [show bytesOf v 0 = [] from rfl, spl_nil]; exact PutIn.refl HG.out⟩
  case round =>
    obtain ⟨k, hk, rfl, hp⟩ := hrel
    have HP := Aside0.mk hp
    have hlen : (spl xs K (bytesOf v k)).length = n := by rw [spl_length (by rw [bytesOf_length, HN.out]; omega), HN.out]
    by_cases hlt : k < 8
    · have hck := nums_at hp.row (K + k) (by rw [hlen]; omega)
      have hfz := blk_frozen hp.row (K + k)
      have hidx : K + k < n := by omega
      clear hp hlen
      go_wp2
      refine ⟨⟨k + 1, hlt, by simp, ?_⟩, by simp [intOf]; omega⟩
      have h1 := HP.out.set (K + k) (v / 2 ^ (8 * k) % 256)
      have h2 := spl_set xs K (bytesOf v k) (v / 256 ^ k % 256) (by rw [bytesOf_length, HN.out]; exact hidx)
      rw [bytesOf_length, ← bytesOf_succ] at h2
      rw [pow_bytes] at h1 ⊢
      rw [h2] at h1
      exact h1
    · obtain rfl : k = 8 := by omega
      clear hp
      go_wp2
      go_end0
      exact ⟨rfl, HP.out⟩
end Go.Proofs.YtgaiehnbjggmdaaDoor.F
